/- Texts of this proof, one behind the other (merged by a program of this session). -/
import Derived.Test.YtegmmefijihdeaaDoorM242456
import Derived.Test.YtegmmefijihdeaaDoorM1ee7bc
namespace Go.Proofs.YtegmmefijihdeaaDoor.Grd
open Go.RowKit Go.Proofs.YtegmmefijihdeaaDoorW.PrintWords Go.Proofs.YtegmmefijihdeaaDoorW.PrintLast Go.Proofs.YtegmmefijihdeaaDoorW.PrintMore Go.Proofs.YtegmmefijihdeaaDoor.Gf Go.Proofs.YtegmmefijihdeaaDoor.Rowb Go.Proofs.YtegmmefijihdeaaDoor.Fld
set_option linter.unusedVariables false
set_option linter.unusedSimpArgs false
@[local go_sem] theorem run_makeFunc' (P : Program) (fn : Fn) (first cap : Array Value) (w : World) : (Instr.makeFunc fn first cap).run P w = .ok (.func fn first cap) w := rfl
@[local go_sem] theorem events_makeFunc' (P : Program) (fn : Fn) (first cap : Array Value) (w : World) (es : Array Event) : (Instr.makeFunc fn first cap).events P w es = es := rfl
theorem two_start {w w3 w4 : World} {B f : Nat} {vl vr : Value} {ps qs : List (Nat × Nat)} {M R : Grid} (hg : GridAt w3 B vl ps M) (hB : w.heap.size ≤ B) (hgr : GridAt w4 w3.heap.size vr qs R) (hw3 : w.heap.size ≤ w3.heap.size) (hb4 : Below w3.heap.size w3 w4) (hf : FieldAt w3 f) (hM : 0 < M.length) (hR : 0 < R.length) :
    ∃ (l r : Nat × Nat), vl = gridV l.1 M.length l.2 ∧ vr = gridV r.1 R.length r.2 ∧ TwoAt w4 w.heap.size vl ps M vr qs R f := by
  obtain ⟨gl, capl, curl, hvl, hgl, hhl, _, _⟩ := hg.form hM
  obtain ⟨gr, capr, curr, hvr, hgr2, hhr, _, _⟩ := hgr.form hR
  refine ⟨(gl, capl), (gr, capr), hvl, hvr, (hg.below hb4).lower hB, hgr.lower hw3, fun p hp q hq e => ?_, fun e => ?_, hf.below hb4⟩
  · obtain ⟨l, hr, _⟩ := hg.rowOf hp
    obtain ⟨l2, _, hq2⟩ := hgr.rowOf hq
    have := hr.lt
    omega
  · rw [hvl, hvr] at e
    have e' : gl = gr := by injection e
    have := blk_lt hhl
    omega
theorem step_facts {n c : Nat} {L Q R : Grid} (hL : Sq n L) (hc : c < n) (h : gj (n - c) c L Q = some R) :
    ∃ pv, pivot L c = pv ∧ c ≤ pv ∧ pv < n ∧ at2 L pv c ≠ 0 ∧ (∀ i, c ≤ i → i < pv → at2 L i c = 0) ∧ gj (n - (c + 1)) (c + 1) (stepL c L) (stepR c L Q) = some R := by
  obtain ⟨m, hm⟩ : ∃ m, n - c = m + 1 := ⟨n - c - 1, by omega⟩
  rw [hm] at h
  unfold gj at h
  by_cases e : pivot L c = L.length
  · rw [if_pos e] at h
    cases h
  · rw [if_neg e] at h
    have hle := pivotGo_le L c (L.length - c) c
    have hpv : pivot L c = pivotGo L c (L.length - c) c := rfl
    have hl := hL.len
    refine ⟨pivot L c, rfl, by omega, by omega, ?_, fun i h1 h2 => pivotGo_before L c (L.length - c) c i h1 (by omega), ?_⟩
    · rw [hpv]
      exact pivotGo_at L c _ c (by omega)
    · rw [show n - (c + 1) = m by omega]
      exact h
theorem at2_get {n : Nat} {L : Grid} (hL : Sq n L) (i j : Nat) (hi : i < n) (hj : j < n) : ∃ (h1 : i < L.length) (h2 : j < L[i].length), L[i][j] = at2 L i j := by
  have h1 : i < L.length := by rw [hL.len]; exact hi
  have hr := hL.rows i hi
  rw [rowAt_lt h1] at hr
  refine ⟨h1, by omega, ?_⟩
  unfold at2
  rw [rowAt_lt h1, List.getD_eq_getElem?_getD, List.getElem?_eq_getElem (by omega)]
  rfl
theorem State.peek {w : World} {b2 gs f n : Nat} {cs : Array Value} {vL vR : Nat × Nat} {W : World} {L R : Grid} (h : State w b2 gs cs f n vL vR W L R) (hL : Sq n L) (i j : Nat) (hi : i < n) (hj : j < n) :
    ∃ p : Nat × Nat, W.cell? ⟨vL.1, i, none⟩ = some (.slice (some ⟨p.1, 0, none⟩) n p.2) ∧ W.cell? ⟨p.1, j, none⟩ = some (.int .u8 ((at2 L i j).toNat : Int)) := by
  obtain ⟨h1, h2, e⟩ := at2_get hL i j hi hj
  obtain ⟨p, c1, c2⟩ := h.read hL.len i j hi h2
  have hr := hL.rows i hi
  rw [rowAt_lt h1] at hr
  rw [hr] at c1
  rw [e] at c2
  exact ⟨p, c1, c2⟩
theorem clear_read {w : World} {b2 gs f n : Nat} {cs : Array Value} {vL vR : Nat × Nat} {W : World} {L R : Grid} {i c : Nat} (h : State w b2 gs cs f n vL vR W (clearP c L L i) R) (hL : Sq n L) (hi : i < n) (hc : c < n) :
    ∃ p : Nat × Nat, W.cell? ⟨vL.1, i, none⟩ = some (.slice (some ⟨p.1, 0, none⟩) n p.2) ∧ W.cell? ⟨p.1, c, none⟩ = some (.int .u8 ((at2 L i c).toNat : Int)) := by
  obtain ⟨h1, h2, e⟩ := at2_get hL i c hi hc
  have hr := hL.rows i hi
  rw [rowAt_lt h1] at hr
  have eg : (clearP c L L i)[i]'(by rw [clearP_len]; exact h1) = L[i] := by rw [clearP_get _ _ _ _ _ h1, if_neg (by omega)]
  obtain ⟨p, c1, c2⟩ := h.read (by rw [clearP_len]; exact hL.len) i c hi (by rw [eg]; exact h2)
  have e3 : ((clearP c L L i)[i]'(by rw [clearP_len]; exact h1)).length = n := by rw [eg, hr]
  rw [e3] at c1
  refine ⟨p, c1, ?_⟩
  rw [c2]
  congr 3
  have : ((clearP c L L i)[i]'(by rw [clearP_len]; exact h1))[c]? = L[i][c]? := by rw [eg]
  rw [List.getElem?_eq_getElem (by rw [eg]; exact h2), List.getElem?_eq_getElem h2] at this
  injection this with this
  rw [this, e]
theorem State.clear {w : World} {b2 gs f n : Nat} {cs : Array Value} {vL vR : Nat × Nat} {W : World} {L M R : Grid} {i c : Nat} (h : State w b2 gs cs f n vL vR W (clearP c L M i) R) (hM : Sq n M) (hn : n ≤ 255) (hi : i < n) (hc : c < n) (hic : i ≠ c) :
    Calls Tryd.prog 90 #[gridV vL.1 n vL.2, .pointer (some ⟨f, 0, none⟩), .int .i64 (i : Int), .int .u8 ((at2 L i c).toNat : Int), .int .i64 (c : Int)] W fun e W' => e = .returned (.tuple #[]) ∧ State w b2 gs cs f n vL vR W' (clearP c L M (i + 1)) R := by
  have h1 : i < M.length := by rw [hM.len]; exact hi
  have h2 : c < M.length := by rw [hM.len]; exact hc
  have hri := hM.rows i hi
  have hrc := hM.rows c hc
  rw [rowAt_lt h1] at hri
  rw [rowAt_lt h2] at hrc
  have ei : (clearP c L M i)[i]'(by rw [clearP_len]; exact h1) = M[i] := by rw [clearP_get _ _ _ _ _ h1, if_neg (by omega)]
  have ec : (clearP c L M i)[c]'(by rw [clearP_len]; exact h2) = M[c] := by rw [clearP_get _ _ _ _ _ h2, if_neg (by omega)]
  have := h.add (by rw [clearP_len]; exact hM.len) hn i c hi hc hic (by rw [ei]; exact hri) (by rw [ec]; exact hrc) (at2 L i c)
  have e4 := clearP_set c L M i h1 hic
  rw [rowAt_lt h2] at e4
  have e5 : (clearP c L M i).set i (addR (at2 L i c) ((clearP c L M i)[c]'(by rw [clearP_len]; exact h2)) ((clearP c L M i)[i]'(by rw [clearP_len]; exact h1))) = clearP c L M (i + 1) := by
    rw [← e4]
    congr 1
    rw [ei, ec]
  rw [e5] at this
  exact this
theorem clear_keep {n i c : Nat} {L M : Grid} (hM : Sq n M) (hi : i < n) (hc : c < n) (h : i = c ∨ at2 L i c = 0) : clearP c L M (i + 1) = clearP c L M i := by
  have h1 : i < M.length := by rw [hM.len]; exact hi
  have hri := hM.rows i hi
  have hrc := hM.rows c hc
  rw [rowAt_lt h1] at hri
  refine clearP_same c L M i h1 (h.imp_right (fun e => ?_))
  rw [e]
  exact add_none _ _ (by rw [hrc, hri])
theorem clear_end {n c : Nat} {L M : Grid} (hM : Sq n M) : clearP c L M n = clearC c L M := by rw [← clearP_full, hM.len]
theorem TwoAt.alloc {w : World} {base f : Nat} {v u : Value} {ps qs : List (Nat × Nat)} {L R : Grid} (h : TwoAt w base v ps L u qs R f) (o : Obj) : TwoAt (w.alloc o) base v ps L u qs R f :=
  have hb : Below w.heap.size w (w.alloc o) := (Below.refl _ _).alloc (Nat.le_refl _) _
  ⟨h.gl.below hb, h.gr.below hb, h.sep, h.own, h.field.below hb⟩
theorem World.Below_trans_ {w w2 w3 : World} (h : Below w.heap.size w w2) (h3 : Below w2.heap.size w2 w3) : Below w.heap.size w w3 := h.trans (h3.mono h.size)
set_option maxRecDepth 100000 in
set_option maxHeartbeats 60000000 in
theorem inverse_walk (w : World) (n : Nat) (M R : Grid) (hM : Sq n M) (hn1 : 1 ≤ n) (hn2 : n ≤ 255) (hR : inverse M = some R) :
    Calls Tryd.prog 61 #[matV n n M.flatten] w fun e w' => e = .returned (.tuple #[matV n n R.flatten, .int .i64 0]) ∧ Below w.heap.size w w' := by
  have hrows : ∀ r, r ∈ M → r.length = n := fun r hr => by
    obtain ⟨i, hi, rfl⟩ := List.getElem_of_mem hr
    have := hM.rows i (by rw [← hM.len]; exact hi)
    rwa [rowAt_lt hi] at this
  have hfl : M.flatten.length = n * n := by rw [flat_len M hrows, hM.len]
  have HC : Aside0 (∀ W, Calls Tryd.prog 86 #[matV n n M.flatten] W fun e w' => e = .returned (.int .i64 0) ∧ Below W.heap.size W w') := ⟨fun W => check_walk W n n _ hn1 hn2 hn1 hn2 hfl⟩
  have HO : Aside0 (∀ W, Calls Tryd.prog 87 #[matV n n M.flatten] W (IsGrid M W)) := ⟨fun W => by
    have := of_walk W M n hrows (by rw [hM.len]; exact hn1) (by rw [hM.len]; exact hn2) hn2
    rw [hM.len] at this
    exact this⟩
  have H1 : Aside0 (∀ W, Calls Tryd.prog 80 #[.int .i64 (n : Int)] W (IsOne n W)) := ⟨fun W => one_walk W n hn2⟩
  have HN : Aside0 (∀ W, Calls Tryd.prog 56 #[] W (Made W)) := ⟨fun W => new_walk W⟩
  unfold matV at HC HO ⊢
  obtain ⟨t, ht⟩ : ∃ t : ByteArray, t = ⟨M.flatten.toArray⟩ := ⟨_, rfl⟩
  rw [← ht] at HC HO ⊢
  clear ht hfl hrows
  go_enter Tryd.func61, Tryd.ntmps61
  have hbx : (w.alloc (.cells #[.int .i64 (n : Int), .int .i64 (n : Int), .string t] 74)).heap[w.heap.size]? = some (.cells #[.int .i64 (n : Int), .int .i64 (n : Int), .string t] 74 (0, 0)) := blk_new _ _
  go_wp2_with fail
  refine (HC.out _).mono ?_
  rintro e w1 ⟨rfl, hb1⟩
  have hsz1 : w.heap.size + 2 ≤ w1.heap.size := by
    have := hb1.size
    simpa using this
  have X1 := Aside0.mk (blk_below (blk_alloc hbx (.cells #[.int .i64 0, .int .i64 0, .string ⟨#[]⟩] 74 (0, 0))) hb1)
  have R1 : Aside0 (w1.heap[w.heap.size + 1]? = some (.cells #[.int .i64 0, .int .i64 0, .string ⟨#[]⟩] 74 (0, 0))) := ⟨by
    have := blk_below (blk_new (w.alloc (.cells #[.int .i64 (n : Int), .int .i64 (n : Int), .string t] 74)) (.cells #[.int .i64 0, .int .i64 0, .string ⟨#[]⟩] 74 (0, 0))) hb1
    simpa using this⟩
  have B1 : Aside0 (Below w.heap.size w w1) := ⟨(((Below.refl _ _).alloc (Nat.le_refl _) _).alloc (by simp) _).trans (hb1.mono (by simp; omega))⟩
  clear hb1 hbx
  have c10 := blk_cell X1.out 0
  have c11 := blk_cell X1.out 1
  have c12 := blk_cell X1.out 2
  go_wp2_with fail
  refine (HN.out _).mono ?_
  rintro e w2 ⟨rfl, hf2, hb2⟩
  have X2 := Aside0.mk (blk_below X1.out hb2)
  have R2 := Aside0.mk (blk_below R1.out hb2)
  have B2 : Aside0 (Below w.heap.size w w2) := ⟨B1.out.trans (hb2.mono B1.out.size)⟩
  have F2 := Aside0.mk hf2
  have hfw : w.heap.size ≤ w1.heap.size := B1.out.size
  obtain ⟨f, hfe⟩ : ∃ f, w1.heap.size = f := ⟨_, rfl⟩
  rw [hfe] at F2 ⊢
  clear hb2 hf2 c10 c11 c12 X1 R1 B1 HN HC
  have c20 := blk_cell X2.out 0
  have c21 := blk_cell X2.out 1
  have c22 := blk_cell X2.out 2
  go_wp2_with fail
  go_region_law (first
    | (go_simp; go_at_call 87; refine (HO.out _).mono ?_; rintro e w3 ⟨vl, ps, rfl, hgl, hb3⟩; have X3 := Aside0.mk (blk_below (by exact X2.out) hb3); have R3 := Aside0.mk (blk_below (by exact R2.out) hb3); have F3 := Aside0.mk (Fld.FieldAt.below (by exact F2.out) hb3); have B3 : Aside0 (Below w.heap.size w w3) := ⟨World.Below_trans_ (by repeat (first | exact B2.out | apply below_drew1 | apply pw_below_drewN)) hb3⟩; have G3 := Aside0.mk hgl; have c30 := blk_cell X3.out 0; clear hb3 hgl)
    | (go_simp; go_at_call 80; refine (H1.out _).mono ?_; rintro e w4 ⟨vr, qs, rfl, hgr, _, hb4⟩; have HT := Aside0.mk (And.intro hgr hb4); clear hgr hb4))
  all_goals
    have hM0 : 0 < M.length := by rw [hM.len]; exact hn1
    have hol : (oneG n).length = n := by simp [oneG]
    obtain ⟨vL, vR, hvl, hvr, h2⟩ := two_start G3.out B2.out.size HT.out.1 B3.out.size (by exact HT.out.2) F3.out hM0 (by rw [hol]; exact hn1)
    rw [hM.len] at hvl
    rw [hol] at hvr
    have H2 := Aside0.mk h2
    have R4 := Aside0.mk (blk_below (by exact R3.out) (by exact HT.out.2))
    have B4 : Aside0 (Below w.heap.size w w4) := ⟨World.Below_trans_ (by exact B3.out) (by exact HT.out.2)⟩
    subst hvl hvr
    clear h2 HT G3 R3 B3 F3 X3 X2 R2 B2 F2 c30 c20 c21 c22 hM0 HO H1
    obtain ⟨gl, cl⟩ := vL
    obtain ⟨gr, cr⟩ := vR
    dsimp only [gridV]
    go_wp2_with fail
    have HS0 : Aside0 (State w (w.heap.size + 1) w4.heap.size #[.func (.func 88) #[.slice (some ⟨gl, 0, none⟩) n cl] #[], .func (.func 88) #[.slice (some ⟨gr, 0, none⟩) n cr] #[]] f n (gl, cl) (gr, cr) (w4.alloc (.cells #[.func (.func 88) #[.slice (some ⟨gl, 0, none⟩) n cl] #[], .func (.func 88) #[.slice (some ⟨gr, 0, none⟩) n cr] #[]] 121)) M (oneG n)) := ⟨ps, qs, H2.out.alloc _, blk_alloc R4.out _, blk_new _ _, B4.out.alloc B4.out.size _⟩
    have HJ0 : Aside0 (gj (n - 0) 0 M (oneG n) = some R ∧ Sq n M ∧ Sq n (oneG n)) := ⟨by have := hR; unfold inverse at this; rw [hM.len] at this; exact this, hM, one_sq n⟩
    obtain ⟨gs, hgs⟩ : ∃ gs, w4.heap.size = gs := ⟨_, rfl⟩
    rw [hgs] at HS0 ⊢
    have hgs2 : w.heap.size + 2 ≤ gs := by
      have := blk_lt R4.out
      omega
    clear hgs H2 R4 B4
    go_loopw [40] (fun i W => ∃ (c : Nat) (L Q : Grid), c ≤ n ∧ i = .int .i64 (c : Int) ∧ Aside0 (State w (w.heap.size + 1) gs #[.func (.func 88) #[.slice (some ⟨gl, 0, none⟩) n cl] #[], .func (.func 88) #[.slice (some ⟨gr, 0, none⟩) n cr] #[]] f n (gl, cl) (gr, cr) W L Q) ∧ Aside0 (gj (n - c) c L Q = some R ∧ Sq n L ∧ Sq n Q)) (fun i _ => n - (intOf i).toNat)
    case atStart => exact ⟨0, M, oneG n, by omega, rfl, HS0, HJ0⟩
    case round =>
      obtain ⟨c, L, Q, hcn, rfl, HS, HJ⟩ := hrel
      clear HS0 HJ0
      by_cases hlt : c < n
      · obtain ⟨pv, hpe, hcp, hpn, hpz, hpb, hgj⟩ := step_facts HJ.out.2.1 hlt HJ.out.1
        have HPB := Aside0.mk hpb
        have HPZ := Aside0.mk hpz
        have HPE := Aside0.mk hpe
        have HGJ := Aside0.mk hgj
        have HSL := Aside0.mk HJ.out.2.1
        have HSQ := Aside0.mk HJ.out.2.2
        clear hpb hpz hpe hgj HJ
        go_wp2_with fail
        go_loopw [9] (fun v W => ∃ a : Nat, c ≤ a ∧ a ≤ pv ∧ v = .int .i64 (a : Int) ∧ Aside0 (State w (w.heap.size + 1) gs #[.func (.func 88) #[.slice (some ⟨gl, 0, none⟩) n cl] #[], .func (.func 88) #[.slice (some ⟨gr, 0, none⟩) n cr] #[]] f n (gl, cl) (gr, cr) W L Q)) (fun v _ => n - (intOf v).toNat)
        case atStart => exact ⟨c, by omega, hcp, rfl, HS⟩
        case round =>
          obtain ⟨a, hca, hap, rfl, HS1⟩ := hrel
          clear HS
          obtain ⟨q, k1, k2⟩ := HS1.out.peek HSL.out a c (by omega) hlt
          obtain ⟨q1, q2⟩ := q
          have han : a < n := by omega
          by_cases hav : a = pv
          · subst hav
            obtain ⟨z, hz⟩ : ∃ z, (at2 L a c).toNat = z := ⟨_, rfl⟩
            have hz0 : ¬ z = 0 := fun e => HPZ.out (b_ext (by rw [hz, e]; rfl))
            rw [hz] at k2
            have hzl : z < 256 := by rw [← hz]; exact b_lt _
            clear hz
            go_wp2_with fail
            clear k1 k2 hz0 hzl
            go_loopw [67] (fun v W => ∃ k : Nat, k ≤ 2 ∧ v = .int .i64 (k : Int) ∧ Aside0 (State w (w.heap.size + 1) gs #[.func (.func 88) #[.slice (some ⟨gl, 0, none⟩) n cl] #[], .func (.func 88) #[.slice (some ⟨gr, 0, none⟩) n cr] #[]] f n (gl, cl) (gr, cr) W (if 1 ≤ k then swapR L c a else L) (if 2 ≤ k then swapR Q c a else Q))) (fun v _ => 2 - (intOf v).toNat)
            case atStart => exact ⟨0, by omega, rfl, HS1⟩
            case round =>
              obtain ⟨k, hk2, rfl, HS2⟩ := hrel
              clear HS1
              have hk3 : k = 0 ∨ k = 1 ∨ k = 2 := by omega
              rcases hk3 with rfl | rfl | rfl
              · rw [if_neg (by omega), if_neg (by omega)] at HS2
                have s0 := blk_cell HS2.out.side.swaps 0
                go_wp2_with fail
                refine (HS2.out.swap HSL.out.len c a hlt han).mono ?_
                rintro e w5 ⟨rfl, hs5⟩
                have HS5 := Aside0.mk hs5
                clear hs5 HS2 s0
                go_wp2_with fail
                go_roundw
                case rel => exact ⟨1, by omega, by go_num, HS5⟩
                case measure => simp [intOf]
              · rw [if_pos (by omega), if_neg (by omega)] at HS2
                have s1 := blk_cell HS2.out.side.swaps 1
                go_wp2_with fail
                refine (HS2.out.symm.swap HSQ.out.len c a hlt han).mono ?_
                rintro e w5 ⟨rfl, hs5⟩
                have HS5 := Aside0.mk hs5.symm
                clear hs5 HS2 s1
                go_wp2_with fail
                go_roundw
                case rel => exact ⟨2, by omega, by go_num, HS5⟩
                case measure => simp [intOf]
              · rw [if_pos (by omega), if_pos (by omega)] at HS2
                have hL1 : Sq n (swapR L c a) := sq_swap HSL.out hlt han
                have hQ1 : Sq n (swapR Q c a) := sq_swap HSQ.out hlt han
                have hat : at2 (swapR L c a) c c ≠ 0 := by
                  rw [at2_swap HSL.out hlt han]
                  by_cases e : c = a
                  · rw [if_pos e]
                    have := HPZ.out
                    rw [← e] at this
                    exact this
                  · rw [if_neg e, if_pos rfl]
                    exact HPZ.out
                obtain ⟨L1, hL1e⟩ : ∃ L1, L1 = swapR L c a := ⟨_, rfl⟩
                obtain ⟨Q1, hQ1e⟩ : ∃ Q1, Q1 = swapR Q c a := ⟨_, rfl⟩
                rw [← hL1e] at HS2 hL1 hat
                rw [← hQ1e] at HS2 hQ1
                obtain ⟨q, k1, k2⟩ := HS2.out.peek hL1 c c hlt hlt
                obtain ⟨q1, q2⟩ := q
                have HI : Aside0 (∀ W : World, W.heap = wr.heap → Calls Tryd.prog 81 #[.pointer (some ⟨f, 0, none⟩), .int .u8 ((at2 L1 c c).toNat : Int)] W fun e w' => e = .returned (.tuple #[.int .u8 ((ginv (at2 L1 c c)).toNat : Int), .int .i64 0]) ∧ Drawn0 W w') := ⟨fun W hW => inv_walk (by have := HS2.out.field; unfold FieldAt at this ⊢; rw [hW]; exact this) _ hat⟩
                have HX : Aside0 (gjBy c L = ginv (at2 L1 c c) ∧ gjL c L = L1 ∧ swapR Q c (pivot L c) = Q1) := ⟨by
                  have e1 : gjL c L = L1 := by unfold gjL; rw [HPE.out, hL1e]
                  refine ⟨by unfold gjBy; rw [e1], e1, by rw [HPE.out, hQ1e]⟩⟩
                clear hL1e hQ1e hat
                have HL1 := Aside0.mk hL1
                have HQ1 := Aside0.mk hQ1
                clear hL1 hQ1
                obtain ⟨y, hy⟩ : ∃ y, ginv (at2 L1 c c) = y := ⟨_, rfl⟩
                rw [hy] at HX HI
                obtain ⟨yo, hyo⟩ : ∃ yo, (at2 L1 c c).toNat = yo := ⟨_, rfl⟩
                have hyob : yo < 256 := by rw [← hyo]; exact b_lt _
                rw [hyo] at k2 HI
                have hyb := b_lt y
                clear hy hyo
                go_wp2_with fail
                refine (HI.out _ (by rfl)).mono ?_
                rintro e w6 ⟨rfl, ⟨nd, rfl⟩⟩
                have HS6 := Aside0.mk (HS2.out.heap (pw_below_drewN (Below.refl _ _) nd))
                clear HS2 HI k1 k2
                go_wp2_with fail
                refine (HS6.out.scale HL1.out hn2 c hlt y).mono ?_
                rintro e w7 ⟨rfl, hs7⟩
                have HS7 := Aside0.mk hs7
                clear hs7 HS6
                go_wp2_with fail
                refine (HS7.out.symm.scale HQ1.out hn2 c hlt y).mono ?_
                rintro e w8 ⟨rfl, hs8⟩
                have HS8 := Aside0.mk hs8.symm
                have hL2 : Sq n (gjS c y L1) := sq_scale HL1.out hlt y
                have hQ2 : Sq n (gjS c y Q1) := sq_scale HQ1.out hlt y
                have HST : Aside0 (clearC c (gjS c y L1) (gjS c y L1) = stepL c L ∧ clearC c (gjS c y L1) (gjS c y Q1) = stepR c L Q) := ⟨by
                  unfold stepL stepR
                  rw [HX.out.2.2, HX.out.1, HX.out.2.1]
                  obtain ⟨h1, h2, h3⟩ := HX.out
                  exact ⟨rfl, rfl⟩⟩
                obtain ⟨L2, hL2e⟩ : ∃ L2, gjS c y L1 = L2 := ⟨_, rfl⟩
                obtain ⟨Q2, hQ2e⟩ : ∃ Q2, gjS c y Q1 = Q2 := ⟨_, rfl⟩
                rw [hL2e] at HS8 hL2 HST
                rw [hQ2e] at HS8 hQ2 HST
                have HL2 := Aside0.mk hL2
                have HQ2 := Aside0.mk hQ2
                have HS9 : Aside0 (State w (w.heap.size + 1) gs #[.func (.func 88) #[.slice (some ⟨gl, 0, none⟩) n cl] #[], .func (.func 88) #[.slice (some ⟨gr, 0, none⟩) n cr] #[]] f n (gl, cl) (gr, cr) w8 (clearP c L2 L2 0) (clearP c L2 Q2 0)) := ⟨by rw [clearP_zero, clearP_zero]; exact HS8.out⟩
                clear hs8 HS7 HS8 hL2e hQ2e hL2 hQ2 HL1 HQ1 HX
                go_wp2_with fail
                go_loopw [100] (fun v W => ∃ i : Nat, i ≤ n ∧ v = .int .i64 (i : Int) ∧ Aside0 (State w (w.heap.size + 1) gs #[.func (.func 88) #[.slice (some ⟨gl, 0, none⟩) n cl] #[], .func (.func 88) #[.slice (some ⟨gr, 0, none⟩) n cr] #[]] f n (gl, cl) (gr, cr) W (clearP c L2 L2 i) (clearP c L2 Q2 i))) (fun v _ => n - (intOf v).toNat)
                case atStart => exact ⟨0, by omega, rfl, HS9⟩
                case round =>
                  obtain ⟨i, hin, rfl, HS10⟩ := hrel
                  clear HS9
                  by_cases hil : i < n
                  · obtain ⟨q, k1, k2⟩ := clear_read HS10.out HL2.out hil hlt
                    obtain ⟨q1, q2⟩ := q
                    by_cases hic : i = c
                    · have HK : Aside0 (clearP c L2 L2 (i + 1) = clearP c L2 L2 i ∧ clearP c L2 Q2 (i + 1) = clearP c L2 Q2 i) := ⟨clear_keep HL2.out hil hlt (.inl hic), clear_keep HQ2.out hil hlt (.inl hic)⟩
                      have HS11 : Aside0 (State w (w.heap.size + 1) gs #[.func (.func 88) #[.slice (some ⟨gl, 0, none⟩) n cl] #[], .func (.func 88) #[.slice (some ⟨gr, 0, none⟩) n cr] #[]] f n (gl, cl) (gr, cr) wr (clearP c L2 L2 (i + 1)) (clearP c L2 Q2 (i + 1))) := ⟨by rw [HK.out.1, HK.out.2]; exact HS10.out⟩
                      have hbc : ((i : Int) != (c : Int)) = false := by simp [hic]
                      have hic2 : (i : Int) = (c : Int) := by omega
                      have hyb2 := b_lt (at2 L2 i c)
                      generalize (at2 L2 i c).toNat = z at *
                      subst hic
                      go_wp2_with fail
                      go_roundw
                      case rel => exact ⟨i + 1, by omega, by go_num, HS11⟩
                      case measure => simp [intOf]; omega
                    · by_cases hz : at2 L2 i c = 0
                      · have HK : Aside0 (clearP c L2 L2 (i + 1) = clearP c L2 L2 i ∧ clearP c L2 Q2 (i + 1) = clearP c L2 Q2 i) := ⟨clear_keep HL2.out hil hlt (.inr hz), clear_keep HQ2.out hil hlt (.inr hz)⟩
                        have HS11 : Aside0 (State w (w.heap.size + 1) gs #[.func (.func 88) #[.slice (some ⟨gl, 0, none⟩) n cl] #[], .func (.func 88) #[.slice (some ⟨gr, 0, none⟩) n cr] #[]] f n (gl, cl) (gr, cr) wr (clearP c L2 L2 (i + 1)) (clearP c L2 Q2 (i + 1))) := ⟨by rw [HK.out.1, HK.out.2]; exact HS10.out⟩
                        rw [hz] at k2
                        have k3 : ((0 : UInt8).toNat : Int) = 0 := rfl
                        rw [k3] at k2
                        clear hz
                        go_wp2_with fail
                        go_roundw
                        case rel => exact ⟨i + 1, by omega, by go_num, HS11⟩
                        case measure => simp [intOf]; omega
                      · have HA1 : Aside0 (∀ W R', State w (w.heap.size + 1) gs #[.func (.func 88) #[.slice (some ⟨gl, 0, none⟩) n cl] #[], .func (.func 88) #[.slice (some ⟨gr, 0, none⟩) n cr] #[]] f n (gl, cl) (gr, cr) W (clearP c L2 L2 i) R' → Calls Tryd.prog 90 #[.slice (some ⟨gl, 0, none⟩) n cl, .pointer (some ⟨f, 0, none⟩), .int .i64 (i : Int), .int .u8 ((at2 L2 i c).toNat : Int), .int .i64 (c : Int)] W fun e W' => e = .returned (.tuple #[]) ∧ State w (w.heap.size + 1) gs #[.func (.func 88) #[.slice (some ⟨gl, 0, none⟩) n cl] #[], .func (.func 88) #[.slice (some ⟨gr, 0, none⟩) n cr] #[]] f n (gl, cl) (gr, cr) W' (clearP c L2 L2 (i + 1)) R') := ⟨fun W R' h => h.clear HL2.out hn2 hil hlt hic⟩
                        have HA2 : Aside0 (∀ W L', State w (w.heap.size + 1) gs #[.func (.func 88) #[.slice (some ⟨gl, 0, none⟩) n cl] #[], .func (.func 88) #[.slice (some ⟨gr, 0, none⟩) n cr] #[]] f n (gl, cl) (gr, cr) W L' (clearP c L2 Q2 i) → Calls Tryd.prog 90 #[.slice (some ⟨gr, 0, none⟩) n cr, .pointer (some ⟨f, 0, none⟩), .int .i64 (i : Int), .int .u8 ((at2 L2 i c).toNat : Int), .int .i64 (c : Int)] W fun e W' => e = .returned (.tuple #[]) ∧ State w (w.heap.size + 1) gs #[.func (.func 88) #[.slice (some ⟨gl, 0, none⟩) n cl] #[], .func (.func 88) #[.slice (some ⟨gr, 0, none⟩) n cr] #[]] f n (gl, cl) (gr, cr) W' L' (clearP c L2 Q2 (i + 1))) := ⟨fun W L' h => (h.symm.clear HQ2.out hn2 hil hlt hic).mono fun e W' h2 => ⟨h2.1, h2.2.symm⟩⟩
                        have hz0 : ¬ (at2 L2 i c).toNat = 0 := fun e => hz (b_ext (e.trans rfl))
                        have hzb := b_lt (at2 L2 i c)
                        clear hz
                        generalize (at2 L2 i c).toNat = z at *
                        go_wp2_with fail
                        refine (HA1.out _ _ HS10.out).mono ?_
                        rintro e w9 ⟨rfl, hs9⟩
                        have HS11 := Aside0.mk hs9
                        clear hs9 HS10 k1 k2
                        go_wp2_with fail
                        refine (HA2.out _ _ HS11.out).mono ?_
                        rintro e w10 ⟨rfl, hs10⟩
                        have HS12 := Aside0.mk hs10
                        clear hs10 HS11
                        go_wp2_with fail
                        go_roundw
                        case rel => exact ⟨i + 1, by omega, by go_num, HS12⟩
                        case measure => simp [intOf]; omega
                        all_goals (rename_i hh; exfalso; first | omega | exact hz0 hh | (simp at hh; omega))
                  · have hie : i = n := by omega
                    rw [hie, clear_end HL2.out, clear_end HQ2.out, HST.out.1, HST.out.2] at HS10
                    have HJ2 : Aside0 (gj (n - (c + 1)) (c + 1) (stepL c L) (stepR c L Q) = some R ∧ Sq n (stepL c L) ∧ Sq n (stepR c L Q)) := ⟨HGJ.out, by rw [← HST.out.1]; exact sq_clear HL2.out hlt, by rw [← HST.out.2]; exact sq_clear HQ2.out hlt⟩
                    clear HST
                    go_wp2_with fail
                    go_roundw
                    case rel => exact ⟨c + 1, stepL c L, stepR c L Q, by omega, by go_num, HS10, HJ2⟩
                    case measure => simp [intOf]; omega
          · have hz := HPB.out a hca (by omega)
            rw [hz] at k2
            have k3 : ((0 : UInt8).toNat : Int) = 0 := rfl
            rw [k3] at k2
            go_wp2_with fail
            go_roundw
            case rel => exact ⟨a + 1, by omega, by omega, by go_num, HS1⟩
            case measure => simp [intOf]; omega
      · have hce : c = n := by omega
        have hQR : Q = R := by
          have := HJ.out.1
          rw [hce, Nat.sub_self] at this
          unfold gj at this
          injection this
        obtain ⟨ps2, qs2, ht2, hsd⟩ := HS.out
        have hQl := HJ.out.2.2.len
        have hrq : ∀ r, r ∈ Q → r.length = n := fun r hr => by
          obtain ⟨i, hi, rfl⟩ := List.getElem_of_mem hr
          have := HJ.out.2.2.rows i (by rw [← hQl]; exact hi)
          rwa [rowAt_lt hi] at this
        have hm := matrix_walk ht2.gr hrq (by omega) hn2 (by omega) (by omega)
        rw [hQl, hQR] at hm
        have HM := Aside0.mk hm
        have HRS := Aside0.mk hsd.res
        have HB := Aside0.mk hsd.bel
        clear hm hsd ht2 hrq HJ hQR HS
        go_wp2_with fail
        refine HM.out.mono ?_
        rintro e w6 ⟨rfl, hb6⟩
        have HB6 : Aside0 (Below w.heap.size w w6) := ⟨HB.out.trans (hb6.mono HB.out.size)⟩
        have HC1 := Aside0.mk (blk_below HRS.out hb6)
        have s0 := blk_cell HC1.out 0
        have s1 := blk_cell HC1.out 1
        have s2 := blk_cell HC1.out 2
        have f0 := blk_frozen HC1.out 0
        have f1 := blk_frozen HC1.out 1
        have f2 := blk_frozen HC1.out 2
        clear hb6 HB HRS
        unfold matV
        go_wp2
        refine bodyPost_ret (results_list (rs := [.cell 2 74, .tmp 3]) rfl (by simp) (Vals.cell (w.heap.size + 1) 74 _ (0, 0) _ rfl (blk_put (blk_put (blk_put HC1.out 0 _ rfl) 1 _ rfl) 2 _ rfl) Tryd.underlying74 rfl (by kernel_rfl) (Vals.tmp Vals.nil))) rfl ?_
        exact ⟨rfl, ((HB6.out.setCell (Nat.le_succ _) _).setCell (Nat.le_succ _) _).setCell (Nat.le_succ _) _⟩
end Go.Proofs.YtegmmefijihdeaaDoor.Grd
namespace Go.Proofs.YtegmmefijihdeaaDoor.Grd
open Go.RowKit Go.Proofs.YtegmmefijihdeaaDoorW.PrintWords Go.Proofs.YtegmmefijihdeaaDoorW.PrintLast Go.Proofs.YtegmmefijihdeaaDoorW.PrintMore Go.Proofs.YtegmmefijihdeaaDoor.Gf Go.Proofs.YtegmmefijihdeaaDoor.Rowb Go.Proofs.YtegmmefijihdeaaDoor.Fld
set_option linter.unusedVariables false
set_option linter.unusedSimpArgs false
def pickG (M : Grid) (rs : List Nat) : Grid := rs.map (Gf.rowAt M)
def pickP (ps : List (Nat × Nat)) (rs : List Nat) : List (Nat × Nat) := rs.map fun r => ps.getD r (0, 0)
theorem pickG_len (M : Grid) (rs : List Nat) : (pickG M rs).length = rs.length := by simp [pickG]
theorem pickG_rows {M : Grid} {c : Nat} (h : ∀ r, r ∈ M → r.length = c) (rs : List Nat) (hr : ∀ r, r ∈ rs → r < M.length) : ∀ r, r ∈ pickG M rs → r.length = c := fun r hm => by
  obtain ⟨x, hx, rfl⟩ := List.mem_map.1 hm
  rw [rowAt_lt (hr x hx)]
  exact h _ (List.getElem_mem _)
theorem pickG_snoc (M : Grid) (rs : List Nat) (r : Nat) : pickG M (rs ++ [r]) = pickG M rs ++ [Gf.rowAt M r] := by simp [pickG]
theorem pickP_snoc (ps : List (Nat × Nat)) (rs : List Nat) (r : Nat) : pickP ps (rs ++ [r]) = pickP ps rs ++ [ps.getD r (0, 0)] := by simp [pickP]
/-- The rows picked so far (v), and those of which they are picked. -/
structure PickAt (w : World) (b2 : Nat) (vf : Value) (psf : List (Nat × Nat)) (M : Grid) (v : Value) (rs : List Nat) (W : World) : Prop where
  src : GridAt W w.heap.size vf psf M
  out : GridAt W w.heap.size v (pickP psf rs) (pickG M rs)
  ne : ∀ g, vf.ownBlock = some g → v.ownBlock ≠ some g
  res : W.heap[b2]? = some (.cells #[.int .i64 0, .int .i64 0, .string ⟨#[]⟩] 74 (0, 0))
  bel : Below w.heap.size w W
theorem getD_lt {α : Type} (l : List α) (i : Nat) (d : α) (h : i < l.length) : l.getD i d = l[i] := by
  rw [List.getD_eq_getElem?_getD, List.getElem?_eq_getElem h]
  rfl
theorem pick_new {psf : List (Nat × Nat)} (hn : (psf.map (·.1)).Nodup) {rs : List Nat} {r : Nat} (hr : ∀ x, x ∈ rs → x < psf.length) (hlt : r < psf.length) (hnew : r ∉ rs) : ∀ p : Nat × Nat, p ∈ pickP psf rs → p.1 ≠ (psf.getD r (0, 0)).1 := fun p hp e => by
  obtain ⟨x, hx, rfl⟩ := List.mem_map.1 hp
  have hxl := hr x hx
  rw [getD_lt _ _ _ hxl, getD_lt _ _ _ hlt] at e
  have h1 : (psf.map (·.1))[x]'(by simpa using hxl) = (psf.map (·.1))[r]'(by simpa using hlt) := by simpa using e
  have := (List.getElem_inj hn).1 h1
  subst this
  exact hnew hx
theorem GridAt.apart {w w' : World} {base : Nat} {v : Value} {ps : List (Nat × Nat)} {L : Grid} {u : Value} (h : GridAt w base v ps L) {xs : List Value} {n : Nat} (hu : w.ownsRow base 60 1 u n xs) (hg : w.grownBy w' u.ownBlock) (hv : ∀ g, v.ownBlock = some g → u.ownBlock ≠ some g) : GridAt w' base v ps L := by
  cases hb : u.ownBlock with
  | none =>
    rw [hb] at hg
    exact ⟨own_other h.outer hg (by
      cases hq : v.ownBlock with
      | none => exact .inl rfl
      | some q => exact .inr (by simp)), h.len, fun i p l h1 h2 => ⟨(h.row i p l h1 h2).1, (h.row i p l h1 h2).2.1, (h.row i p l h1 h2).2.2.grown hg (by simp)⟩, h.nodup⟩
  | some b =>
    rw [hb] at hg
    refine h.grown hg (fun e => hv b e hb) (fun p hp e => ?_)
    obtain ⟨l, hrow, _⟩ := h.rowOf hp
    exact row_ne_own hrow hu (by rw [hb, e])
theorem PickAt.start {w W : World} {b2 : Nat} {vf v : Value} {psf : List (Nat × Nat)} {M : Grid} (h : GridAt W w.heap.size vf psf M) (hv : W.ownsRow w.heap.size 60 1 v 0 []) (hne : ∀ g, vf.ownBlock = some g → v.ownBlock ≠ some g) (hr : W.heap[b2]? = some (.cells #[.int .i64 0, .int .i64 0, .string ⟨#[]⟩] 74 (0, 0))) (hb : Below w.heap.size w W) : PickAt w b2 vf psf M v [] W :=
  ⟨h, ⟨hv, rfl, fun i p l h1 _ => by simp [pickP] at h1, List.nodup_nil⟩, hne, hr, hb⟩
theorem PickAt.step {w W W' : World} {b2 : Nat} {vf v v1 : Value} {psf : List (Nat × Nat)} {M : Grid} {rs : List Nat} {r : Nat} (h : PickAt w b2 vf psf M v rs W) (hr : ∀ x, x ∈ rs → x < M.length) (hlt : r < M.length) (hnew : r ∉ rs)
    (ho : W'.ownsRow w.heap.size 60 1 v1 (rs.length + 1) (List.zipWith rowV (pickP psf rs) (pickG M rs) ++ [rowV (psf.getD r (0, 0)) (Gf.rowAt M r)])) (hb : Below w.heap.size w W') (hg : W.grownBy W' v.ownBlock) (hat : v1.ownBlock = v.ownBlock ∨ ∃ b, v1.ownBlock = some b ∧ W.heap.size ≤ b) :
    PickAt w b2 vf psf M v1 (rs ++ [r]) W' := by
  have hpl : r < psf.length := by rw [h.src.len]; exact hlt
  have hrow := h.src.row r _ _ (List.getElem?_eq_getElem hpl) (List.getElem?_eq_getElem hlt)
  have hsnoc := h.out.snoc hrow.1 hrow.2.1 hrow.2.2 (fun p hp => by
    have := pick_new h.src.nodup (fun x hx => by rw [h.src.len]; exact hr x hx) hpl hnew p hp
    rwa [getD_lt _ _ _ hpl] at this) (by rw [pickG_len, ← getD_lt psf r (0, 0) hpl, ← rowAt_lt hlt]; exact ho) hg
  refine ⟨h.src.apart h.out.outer hg h.ne, ?_, fun g hvf => ?_, blk_grown h.res hg (own_ne h.out.outer h.res (by decide)), hb⟩
  · rw [pickG_snoc, pickP_snoc, getD_lt _ _ _ hpl, rowAt_lt hlt]
    exact hsnoc
  · rcases hat with e | ⟨b, e, hge⟩
    · rw [e]; exact h.ne g hvf
    · rw [e]
      intro e2
      have e3 : b = g := by injection e2
      subst e3
      have := own_lt h.src.outer _ hvf
      omega
theorem PickAt.read {w W : World} {b2 : Nat} {vf v : Value} {psf : List (Nat × Nat)} {M : Grid} {rs : List Nat} (h : PickAt w b2 vf psf M v rs W) (g n cap : Nat) (hvf : vf = .slice (some ⟨g, 0, none⟩) n cap) (r : Nat) (hlt : r < M.length) : W.cell? ⟨g, r, none⟩ = some (rowV (psf.getD r (0, 0)) (Gf.rowAt M r)) := by
  obtain ⟨g', cap', cur, hv, _, _, _, hcell⟩ := h.src.form (by omega)
  rw [hvf] at hv
  injection hv with hv1 _ _
  injection hv1 with hv1
  injection hv1 with hv1
  subst hv1
  have := hcell r hlt
  rw [this, getD_lt _ _ _ (by rw [h.src.len]; exact hlt), rowAt_lt hlt]
theorem rd_cast (rs : List Nat) (i : Nat) (hi : i < rs.length) : rd (rs.map fun n : Nat => (n : Int)) (i : Int) = ((rs[i] : Nat) : Int) := by
  unfold rd
  rw [Int.toNat_natCast, getD_lt _ _ _ (by simpa using hi), List.getElem_map]
section
variable (w : World) (M : Grid) (c : Nat) (hr : ∀ r, r ∈ M → r.length = c) (h1 : 1 ≤ M.length) (h2 : M.length ≤ 255) (hc1 : 1 ≤ c) (hc : c ≤ 255) (rs : List Nat) (A1 : Option Addr) (c1 : Nat)
variable (hrd : Kd.C (Kd.int .i64) w A1 rs.length (rs.map fun n : Nat => (n : Int))) (hcap : rs.length ≤ c1) (hrs : ∀ r, r ∈ rs → r < M.length) (hn : rs.Nodup) (hl1 : 1 ≤ rs.length) (hl2 : rs.length ≤ 255)
include hr h1 h2 hc1 hc hrd hcap hrs hn hl1 hl2
set_option maxRecDepth 100000 in
set_option maxHeartbeats 4000000 in
theorem pick_walk : Calls Tryd.prog 60 #[matV M.length c M.flatten, .slice A1 rs.length c1] w fun e w' => e = .returned (.tuple #[matV rs.length c (pickG M rs).flatten, .int .i64 0]) ∧ Below w.heap.size w w' := by
  have HC : Aside0 (∀ W, Calls Tryd.prog 86 #[matV M.length c M.flatten] W fun e w' => e = .returned (.int .i64 0) ∧ Below W.heap.size W w') := ⟨fun W => check_walk W M.length c _ h1 h2 hc1 hc (flat_len M hr)⟩
  have HO : Aside0 (∀ W, Calls Tryd.prog 87 #[matV M.length c M.flatten] W (IsGrid M W)) := ⟨fun W => of_walk W M c hr h1 h2 hc⟩
  have HMX : Aside0 (∀ (W : World) (base : Nat) (v : Value) (ps : List (Nat × Nat)), GridAt W base v ps (pickG M rs) → Calls Tryd.prog 82 #[v] W fun e w' => e = .returned (matV rs.length c (pickG M rs).flatten) ∧ Below W.heap.size W w') := ⟨fun W base v ps hg => by
    have := matrix_walk (c := c) hg (pickG_rows hr rs hrs) (by omega) hc (by rw [pickG_len]; exact hl1) (by rw [pickG_len]; exact hl2)
    rwa [pickG_len] at this⟩
  have HRD : Aside0 (∀ W, Below w.heap.size w W → ∀ i (hi : i < rs.length), ∃ ad, A1 = some ad ∧ W.cell? (ad.add i) = some (.int .i64 ((rs[i] : Nat) : Int))) := ⟨fun W hb i hi => by
    have h := Kd.C_below (by simpa using hrd : Kd.C (Kd.int .i64) w A1 rs.length (rs.map fun n : Nat => (n : Int))) hb
    obtain ⟨ad, hA, hx⟩ := Kd.at_int h (i : Int) (by omega) (by omega)
    rw [rd_cast rs i hi, Int.toNat_natCast] at hx
    exact ⟨ad, hA, hx⟩⟩
  have HRS : Aside0 (∀ i (hi : i < rs.length), rs[i] < M.length) := ⟨fun i hi => hrs _ (List.getElem_mem hi)⟩
  have HTK : Aside0 (∀ i (hi : i < rs.length), (rs.take i ++ [rs[i]] = rs.take (i + 1)) ∧ rs[i] ∉ rs.take i ∧ (∀ x, x ∈ rs.take i → x < M.length) ∧ (rs.take i).length = i) := ⟨fun i hi => by
    refine ⟨(List.take_succ_eq_append_getElem hi).symm, fun hm => ?_, fun x hx => hrs x (List.mem_of_mem_take hx), by rw [List.length_take]; omega⟩
    obtain ⟨j, hj, e⟩ := List.getElem_of_mem hm
    rw [List.length_take] at hj
    rw [List.getElem_take] at e
    have := (List.getElem_inj hn).1 e
    omega⟩
  have HFU : Aside0 (rs.take rs.length = rs) := ⟨List.take_length⟩
  have HML : Aside0 (M.length ≤ 255) := ⟨h2⟩
  unfold matV at HC HO ⊢
  unfold matV at HMX
  obtain ⟨t, ht⟩ : ∃ t : ByteArray, t = ⟨M.flatten.toArray⟩ := ⟨_, rfl⟩
  rw [← ht] at HC HO ⊢
  have hl0 : decide ((255 : Int) < (rs.length : Int)) = false := by simp; omega
  have hl3 : ((rs.length : Int) == 0) = false := by simp; intro e; subst e; simp at hl1
  clear ht hr hrd hrs hn
  go_enter Tryd.func60, Tryd.ntmps60
  have hbx : (w.alloc (.cells #[.int .i64 (M.length : Int), .int .i64 (c : Int), .string t] 74)).heap[w.heap.size]? = some (.cells #[.int .i64 (M.length : Int), .int .i64 (c : Int), .string t] 74 (0, 0)) := blk_new _ _
  go_wp2_with fail
  refine (HC.out _).mono ?_
  rintro e w1 ⟨rfl, hb1⟩
  have hsz1 : w.heap.size + 2 ≤ w1.heap.size := by
    have := hb1.size
    simpa using this
  have X1 := Aside0.mk (blk_below (blk_alloc hbx (.cells #[.int .i64 0, .int .i64 0, .string ⟨#[]⟩] 74 (0, 0))) hb1)
  have R1 : Aside0 (w1.heap[w.heap.size + 1]? = some (.cells #[.int .i64 0, .int .i64 0, .string ⟨#[]⟩] 74 (0, 0))) := ⟨by
    have := blk_below (blk_new (w.alloc (.cells #[.int .i64 (M.length : Int), .int .i64 (c : Int), .string t] 74)) (.cells #[.int .i64 0, .int .i64 0, .string ⟨#[]⟩] 74 (0, 0))) hb1
    simpa using this⟩
  have B1 : Aside0 (Below w.heap.size w w1) := ⟨(((Below.refl _ _).alloc (Nat.le_refl _) _).alloc (by simp) _).trans (hb1.mono (by simp; omega))⟩
  clear hb1 hbx
  have c10 := blk_cell X1.out 0
  have c11 := blk_cell X1.out 1
  have c12 := blk_cell X1.out 2
  go_wp2
  go_loop [18] (fun v => ∃ i : Nat, i ≤ rs.length ∧ v = .int .i64 (i : Int)) (fun v => rs.length - (intOf v).toNat)
  case atStart => exact ⟨0, by omega, rfl⟩
  case round =>
    obtain ⟨i, hi, rfl⟩ := hrel
    by_cases hlt : i < rs.length
    · obtain ⟨ad, hA, hx⟩ := HRD.out _ B1.out i hlt
      subst hA
      have hxl := HRS.out i hlt
      generalize rs[i] = x at *
      have e1 : decide ((x : Int) < 0) = false := by simp
      have e2 : decide ((M.length : Int) ≤ (x : Int)) = false := by simp; omega
      go_wp2
      go_round
      case rel => exact ⟨i + 1, by omega, by go_num⟩
      case measure => simp [intOf]; omega
    · obtain rfl : i = rs.length := by omega
      have e1 : decide ((rs.length : Int) < (rs.length : Int)) = false := by simp
      go_wp2_with fail
      refine (HO.out _).mono ?_
      rintro e w2 ⟨vf, psf, rfl, hg2, hb2⟩
      obtain ⟨gf, cf, curf, hvf, hgf, hhf, hq1, hq2⟩ := hg2.form h1
      clear hq1 hq2
      have R2 := Aside0.mk (blk_below R1.out hb2)
      have B2 : Aside0 (Below w.heap.size w w2) := ⟨B1.out.trans (hb2.mono B1.out.size)⟩
      have G2 := Aside0.mk (hg2.lower B1.out.size)
      have V2 := Aside0.mk hvf
      have hgl := blk_lt hhf
      clear hg2 hb2 hhf hgf R1 B1 X1 c10 c11 c12
      subst hvf
      go_wp2_with fail
      have P0 : Aside0 (PickAt w (w.heap.size + 1) (.slice (some ⟨gf, 0, none⟩) M.length cf) psf M (.slice (some ⟨w2.heap.size, 0, none⟩) 0 0) [] (w2.alloc (.cells #[] 60))) := ⟨PickAt.start (G2.out.below (below_alloc (Below.refl _ _) _)) ⟨rfl, .inr ⟨w2.heap.size, 0, #[], rfl, B2.out.size, blk_new _ _, Nat.le_refl _, Nat.zero_le _, rfl, rfl⟩⟩ (fun g hg e => by
        have e1 : gf = g := by simpa [Value.ownBlock] using hg
        have e2 : w2.heap.size = g := by simpa [Value.ownBlock] using e
        omega) (blk_alloc R2.out _) (B2.out.alloc B2.out.size _)⟩
      clear G2 R2 B2 V2 hgl
      go_loopw [9, 47] (fun v i W => ∃ k : Nat, k ≤ rs.length ∧ i = .int .i64 (k : Int) ∧ Aside0 (PickAt w (w.heap.size + 1) (.slice (some ⟨gf, 0, none⟩) M.length cf) psf M v (rs.take k) W)) (fun _ i _ => rs.length - (intOf i).toNat)
      case atStart => exact ⟨0, by omega, rfl, P0⟩
      case round =>
        obtain ⟨k, hk, rfl, HP⟩ := hrel
        clear P0
        generalize u9 = v at *
        by_cases hlt2 : k < rs.length
        · obtain ⟨ad, hA, hx⟩ := HRD.out wr HP.out.bel k hlt2
          subst hA
          obtain ⟨hk1, hk2, hk3, hk4⟩ := HTK.out k hlt2
          have hxl := HRS.out k hlt2
          have HST := Aside0.mk (And.intro hk1 (And.intro hk2 hk3))
          have HLN := Aside0.mk hk4
          generalize rs[k] = x at *
          clear hk1 hk2 hk3 hk4
          have y0 := HP.out.read gf M.length cf rfl x hxl
          have HRV : Aside0 (rowV (psf.getD x (0, 0)) (Gf.rowAt M x) = rowV (psf.getD x (0, 0)) (Gf.rowAt M x)) := ⟨rfl⟩
          obtain ⟨rv, hrv⟩ : ∃ rv, rv = rowV (psf.getD x (0, 0)) (Gf.rowAt M x) := ⟨_, rfl⟩
          have HRW : Aside0 (∃ (a : Addr) (n c : Nat), rv = .slice (some a) n c) := ⟨⟨_, _, _, hrv⟩⟩
          rw [← hrv] at y0
          have HRE := Aside0.mk hrv
          obtain ⟨⟨a1, n1, c1', hrs⟩⟩ := HRW
          subst hrs
          clear hrv HRV
          have hlb : (rs.take k).length ≤ 255 := by rw [HLN.out]; omega
          have x1 : decide ((k : Int) < (rs.length : Int)) = true := decide_eq_true (by omega)
          have x2 : (x : Int) < (M.length : Int) := by omega
          go_wp2_with (first | ((with_reducible refine gate_builtin (b := .append) (xs := #[.tmp 51, .tmp 56]) rfl ?_); at_builtin; refine print_append_cells w.heap.size rfl (.tmp 51) (.tmp 56) 108 60 (.slice none 0 0) 1 24 rfl Tryd.underlying108 info_row rfl (by decide) (by decide) v (pickG M (rs.take k)).length (List.zipWith rowV (pickP psf (rs.take k)) (pickG M (rs.take k))) [.slice (some a1) n1 c1'] rfl rfl rfl (by simp [Value.oneCell']) HP.out.out.outer HP.out.bel HP.out.bel.size (by rw [pickG_len]; omega) ?_; intro v1 w5 ho5 hb5 hg5 hat5; have HP5 := Aside0.mk (HP.out.step HST.out.2.2 hxl HST.out.2.1 (by rw [pickG_len] at ho5; rw [← HRE.out]; exact ho5) hb5 hg5 hat5); clear ho5 hb5 hg5 hat5))
          go_roundw
          case rel => exact ⟨k + 1, by omega, by go_num, ⟨by rw [← HST.out.1]; exact HP5.out⟩⟩
          case measure => simp [intOf]; omega
        · obtain rfl : k = rs.length := by omega
          rw [HFU.out] at HP
          have HM := Aside0.mk (HMX.out _ _ _ _ HP.out.out)
          have x1 : decide ((rs.length : Int) < (rs.length : Int)) = false := by simp
          go_wp2_with fail
          refine HM.out.mono ?_
          rintro e w6 ⟨rfl, hb6⟩
          have HB6 : Aside0 (Below w.heap.size w w6) := ⟨HP.out.bel.trans (hb6.mono HP.out.bel.size)⟩
          have HC1 := Aside0.mk (blk_below HP.out.res hb6)
          have s0 := blk_cell HC1.out 0
          have s1 := blk_cell HC1.out 1
          have s2 := blk_cell HC1.out 2
          have f0 := blk_frozen HC1.out 0
          have f1 := blk_frozen HC1.out 1
          have f2 := blk_frozen HC1.out 2
          clear hb6
          go_wp2
          refine bodyPost_ret (results_list (rs := [.cell 4 74, .tmp 5]) rfl (by simp) (Vals.cell (w.heap.size + 1) 74 _ (0, 0) _ rfl (blk_put (blk_put (blk_put HC1.out 0 _ rfl) 1 _ rfl) 2 _ rfl) Tryd.underlying74 rfl (by kernel_rfl) (Vals.tmp Vals.nil))) rfl ?_
          exact ⟨rfl, ((HB6.out.setCell (Nat.le_succ _) _).setCell (Nat.le_succ _) _).setCell (Nat.le_succ _) _⟩
end
end Go.Proofs.YtegmmefijihdeaaDoor.Grd
namespace Go.Proofs.YtegmmefijihdeaaDoor.PS
open Go.RowKit Go.Proofs.YtegmmefijihdeaaDoorW.PrintWords Go.Proofs.YtegmmefijihdeaaDoorW.PrintLast Go.Proofs.YtegmmefijihdeaaDoorW.PrintMore Go.Proofs.YtegmmefijihdeaaDoor.Gf Go.Proofs.YtegmmefijihdeaaDoor.Grd Go.Proofs.YtegmmefijihdeaaDoor.Rowb Go.Proofs.YtegmmefijihdeaaDoor.Fld
set_option linter.unusedVariables false
set_option linter.unusedSimpArgs false
/-- The rows of a text of r rows of c bytes. -/
def gridOf (r c : Nat) (s : ByteArray) : Grid := (List.range r).map fun i => (s.data.toList.drop (i * c)).take c
theorem gridOf_len (r c : Nat) (s : ByteArray) : (gridOf r c s).length = r := by simp [gridOf]
theorem gridOf_flat_from (c : Nat) (l : List UInt8) : ∀ r, ((List.range r).map fun i => (l.drop (i * c)).take c).flatten = l.take (r * c)
  | 0 => by simp
  | r + 1 => by
    rw [List.range_succ, List.map_append, List.flatten_append, gridOf_flat_from c l r]
    simp only [List.map_cons, List.map_nil, List.flatten_cons, List.flatten_nil, List.append_nil]
    rw [Nat.succ_mul, List.take_add]
theorem gridOf_flat (r c : Nat) (s : ByteArray) (h : s.size = r * c) : (gridOf r c s).flatten = s.data.toList := by
  unfold gridOf
  rw [gridOf_flat_from, ← h, List.take_of_length_le (by rw [Array.length_toList]; exact Nat.le_refl _)]
theorem gridOf_rows (r c : Nat) (s : ByteArray) (h : s.size = r * c) : ∀ x, x ∈ gridOf r c s → x.length = c := fun x hx => by
  obtain ⟨i, hi, rfl⟩ := List.mem_map.1 hx
  have hi := List.mem_range.1 hi
  have hl : s.data.toList.length = r * c := by rw [Array.length_toList]; exact h
  have : (i + 1) * c ≤ r * c := Nat.mul_le_mul_right _ (by omega)
  rw [Nat.succ_mul] at this
  rw [List.length_take, List.length_drop]
  omega
theorem gridOf_txt (r c : Nat) (L : Grid) (hl : L.length = r) (hr : ∀ x, x ∈ L → x.length = c) : gridOf r c (txt L.flatten) = L := by
  unfold gridOf
  apply List.ext_getElem
  · simp [hl]
  · intro i h1 h2
    simp only [List.getElem_map, List.getElem_range]
    rw [txt_list]
    exact flat_row L i h2 hr
theorem txt_eq (s : ByteArray) : txt s.data.toList = s := by
  apply ByteArray.ext
  apply Array.ext'
  rfl
theorem gridOf_back (r c : Nat) (s : ByteArray) (h : s.size = r * c) : txt (gridOf r c s).flatten = s := by rw [gridOf_flat r c s h, txt_eq]
theorem matV_txt (r c : Nat) (l : List UInt8) : matV r c l = .agg #[.int .i64 (r : Int), .int .i64 (c : Int), .string (txt l)] := rfl
theorem matV_of (r c : Nat) (s : ByteArray) (h : s.size = r * c) : Value.agg #[.int .i64 (r : Int), .int .i64 (c : Int), .string s] = matV r c (gridOf r c s).flatten := by rw [matV_txt, gridOf_back r c s h]
theorem sq_of {n : Nat} {L : Grid} (hl : L.length = n) (hr : ∀ x, x ∈ L → x.length = n) : Sq n L := ⟨hl, fun i hi => by rw [rowAt_lt (by omega)]; exact hr _ (List.getElem_mem _)⟩
/-! The generator. -/
def matrix_Generator.f (a0 : Int) (a1 : Int) : Option (Int × Int × ByteArray × Int) := if codeB a0 a1 = true then some (a0 + a1, a0, txt (genG a0.toNat a1.toNat).flatten, 0) else none
theorem matrix_Generator.calls (a0 : Int) (a1 : Int) (r1 : Int) (r2 : Int) (r3 : ByteArray) (r4 : Int) (w : World) (h : matrix_Generator.f a0 a1 = some (r1, r2, r3, r4)) :
    Calls Tryd.prog 55 #[.int .i64 a0, .int .i64 a1] w fun e w' => e = .returned (.tuple #[.agg #[.int .i64 r1, .int .i64 r2, .string r3], .int .i64 r4]) ∧ Below w.heap.size w w' := by
  unfold matrix_Generator.f at h
  split at h
  · rename_i hc
    obtain ⟨K, M, rfl, rfl, h1, h2⟩ := codeB_nat hc
    simp only [Int.toNat_natCast, Option.some.injEq, Prod.mk.injEq] at h
    obtain ⟨rfl, rfl, rfl, rfl⟩ := h
    refine (gen_walk w K M h1 h2).mono fun e w' ⟨he, hb⟩ => ⟨he.trans ?_, hb⟩
    rw [matV_txt]
    push_cast
    rfl
  · cases h
/-! Picked rows. -/
def pickOk (r : Nat) (l : List Int) : Bool := l.all (fun x => decide (0 ≤ x ∧ x < (r : Int))) && decide l.Nodup && decide (1 ≤ l.length ∧ l.length ≤ 255)
def shapeB (r c : Int) (s : ByteArray) : Bool := decide (1 ≤ r ∧ r ≤ 255 ∧ 1 ≤ c ∧ c ≤ 255 ∧ s.size = r.toNat * c.toNat)
theorem shapeB_nat {r c : Int} {s : ByteArray} (h : shapeB r c s = true) : ∃ R C : Nat, r = (R : Int) ∧ c = (C : Int) ∧ 1 ≤ R ∧ R ≤ 255 ∧ 1 ≤ C ∧ C ≤ 255 ∧ s.size = R * C := by
  unfold shapeB at h
  have := of_decide_eq_true h
  exact ⟨r.toNat, c.toNat, by omega, by omega, by omega, by omega, by omega, by omega, this.2.2.2.2⟩
def matrix_Pick.f (a0_0 : Int) (a0_1 : Int) (a0_2 : ByteArray) (l1 : List Int) : Option (Int × Int × ByteArray × Int) :=
  if shapeB a0_0 a0_1 a0_2 = true ∧ pickOk a0_0.toNat l1 = true then some ((l1.length : Int), a0_1, txt (pickG (gridOf a0_0.toNat a0_1.toNat a0_2) (l1.map Int.toNat)).flatten, 0) else none
theorem matrix_Pick.calls (a0_0 : Int) (a0_1 : Int) (a0_2 : ByteArray) (A1 : Option Addr) (c1 : Nat) (l1 : List Int) (r1 : Int) (r2 : Int) (r3 : ByteArray) (r4 : Int) (w : World) (hr1 : Kd.C (Kd.int .i64) w A1 l1.length l1) (hc1 : l1.length ≤ c1) (h : matrix_Pick.f a0_0 a0_1 a0_2 l1 = some (r1, r2, r3, r4)) :
    Calls Tryd.prog 60 #[.agg #[.int .i64 a0_0, .int .i64 a0_1, .string a0_2], .slice A1 l1.length c1] w fun e w' => e = .returned (.tuple #[.agg #[.int .i64 r1, .int .i64 r2, .string r3], .int .i64 r4]) ∧ Below w.heap.size w w' := by
  unfold matrix_Pick.f at h
  split at h
  · rename_i hp
    obtain ⟨R, C, rfl, rfl, h1, h2, h3, h4, h5⟩ := shapeB_nat hp.1
    have hq := hp.2
    unfold pickOk at hq
    rw [Bool.and_eq_true, Bool.and_eq_true] at hq
    obtain ⟨⟨q1, q2⟩, q3⟩ := hq
    have q2 := of_decide_eq_true q2
    have q3 := of_decide_eq_true q3
    rw [Int.toNat_natCast] at q1
    have q1' : ∀ x, x ∈ l1 → 0 ≤ x ∧ x < (R : Int) := fun x hx => of_decide_eq_true (List.all_eq_true.1 q1 x hx)
    simp only [Int.toNat_natCast, Option.some.injEq, Prod.mk.injEq] at h
    obtain ⟨rfl, rfl, rfl, rfl⟩ := h
    have hback : (l1.map Int.toNat).map (fun n : Nat => (n : Int)) = l1 := by
      rw [List.map_map]
      refine (List.map_congr_left (fun x hx => ?_)).trans (List.map_id l1)
      have := q1' x hx
      show ((x.toNat : Nat) : Int) = x
      omega
    have hnd : (l1.map Int.toNat).Nodup := nodup_map_of (fun a ha b hb e => by
      have := q1' a ha
      have := q1' b hb
      omega) q2
    have := pick_walk w (gridOf R C a0_2) C (gridOf_rows R C a0_2 h5) (by rw [gridOf_len]; exact h1) (by rw [gridOf_len]; exact h2) h3 h4 (l1.map Int.toNat) A1 c1 (by rw [hback, List.length_map]; exact hr1) (by rw [List.length_map]; exact hc1) (fun r hr => by
      obtain ⟨x, hx, rfl⟩ := List.mem_map.1 hr
      have := q1' x hx
      rw [gridOf_len]
      omega) hnd (by rw [List.length_map]; exact q3.1) (by rw [List.length_map]; exact q3.2)
    rw [gridOf_len, List.length_map, ← matV_of R C a0_2 h5] at this
    exact this
  · cases h
/-! An inverse. -/
def invF (a0_0 : Int) (a0_1 : Int) (a0_2 : ByteArray) : Option (Int × Int × ByteArray × Int) :=
  if shapeB a0_0 a0_1 a0_2 = true ∧ a0_0 = a0_1 then (inverse (gridOf a0_0.toNat a0_0.toNat a0_2)).map fun R => (a0_0, a0_0, txt R.flatten, 0) else none
theorem invF_nat {a0_0 a0_1 : Int} {a0_2 : ByteArray} {r1 r2 r4 : Int} {r3 : ByteArray} (h : invF a0_0 a0_1 a0_2 = some (r1, r2, r3, r4)) :
    ∃ (n : Nat) (M R : Grid), a0_0 = (n : Int) ∧ a0_1 = (n : Int) ∧ a0_2 = txt M.flatten ∧ Sq n M ∧ 1 ≤ n ∧ n ≤ 255 ∧ inverse M = some R ∧ r1 = (n : Int) ∧ r2 = (n : Int) ∧ r3 = txt R.flatten ∧ r4 = 0 := by
  unfold invF at h
  split at h
  · rename_i hp
    obtain ⟨n, C, rfl, rfl, h1, h2, h3, h4, h5⟩ := shapeB_nat hp.1
    have e : C = n := by have := hp.2; omega
    subst e
    obtain ⟨R, hR, e⟩ := Option.map_eq_some_iff.1 h
    simp only [Int.toNat_natCast, Prod.mk.injEq] at e hR
    obtain ⟨rfl, rfl, rfl, rfl⟩ := e
    exact ⟨C, gridOf C C a0_2, R, rfl, rfl, (gridOf_back C C a0_2 h5).symm, sq_of (gridOf_len _ _ _) (gridOf_rows C C a0_2 h5), h1, h2, hR, rfl, rfl, rfl, rfl⟩
  · cases h
def matrix_Inverse.f (a0_0 : Int) (a0_1 : Int) (a0_2 : ByteArray) : Option (Int × Int × ByteArray × Int) := invF a0_0 a0_1 a0_2
theorem matrix_Inverse.calls (a0_0 : Int) (a0_1 : Int) (a0_2 : ByteArray) (r1 : Int) (r2 : Int) (r3 : ByteArray) (r4 : Int) (w : World) (h : matrix_Inverse.f a0_0 a0_1 a0_2 = some (r1, r2, r3, r4)) :
    Calls Tryd.prog 61 #[.agg #[.int .i64 a0_0, .int .i64 a0_1, .string a0_2]] w fun e w' => e = .returned (.tuple #[.agg #[.int .i64 r1, .int .i64 r2, .string r3], .int .i64 r4]) ∧ Below w.heap.size w w' := by
  obtain ⟨n, M, R, rfl, rfl, rfl, hM, h1, h2, hR, rfl, rfl, rfl, rfl⟩ := invF_nat h
  exact inverse_walk w n M R hM h1 h2 hR
end Go.Proofs.YtegmmefijihdeaaDoor.PS
namespace Go.Proofs.YtegmmefijihdeaaDoor.PS
open Go.RowKit Go.Proofs.YtegmmefijihdeaaDoorW.PrintWords Go.Proofs.YtegmmefijihdeaaDoorW.PrintLast Go.Proofs.YtegmmefijihdeaaDoorW.PrintMore Go.Proofs.YtegmmefijihdeaaDoor.Gf Go.Proofs.YtegmmefijihdeaaDoor.Grd Go.Proofs.YtegmmefijihdeaaDoor.Rowb Go.Proofs.YtegmmefijihdeaaDoor.Fld
open Go.Lib (byteCells byteCells_length)
set_option linter.unusedVariables false
set_option linter.unusedSimpArgs false
/-- Shards behind i rounds. -/
def undP (c : Nat → Nat → UInt8) (R C n : Nat) (data : List ByteArray) (i : Nat) : List ByteArray := (List.range R).map fun r => if r < i then txt (accC (c r) n data C) else ⟨#[]⟩
def undL (c : Nat → Nat → UInt8) (R C n : Nat) (data : List ByteArray) : List ByteArray := (List.range R).map fun r => txt (accC (c r) n data C)
theorem undP_len (c : Nat → Nat → UInt8) (R C n : Nat) (data : List ByteArray) (i : Nat) : (undP c R C n data i).length = R := by simp [undP]
theorem undP_zero (c : Nat → Nat → UInt8) (R C n : Nat) (data : List ByteArray) : undP c R C n data 0 = List.replicate R ⟨#[]⟩ := by
  unfold undP
  apply List.ext_getElem
  · simp
  · intro j h1 h2
    simp
theorem undP_full (c : Nat → Nat → UInt8) (R C n : Nat) (data : List ByteArray) : undP c R C n data R = undL c R C n data := by
  unfold undP undL
  refine List.map_congr_left (fun j hj => ?_)
  rw [if_pos (List.mem_range.1 hj)]
theorem undP_set (c : Nat → Nat → UInt8) (R C n : Nat) (data : List ByteArray) (i : Nat) (h : i < R) : (undP c R C n data i).set i (txt (accC (c i) n data C)) = undP c R C n data (i + 1) := by
  unfold undP
  apply List.ext_getElem
  · simp
  · intro j h1 h2
    rw [List.getElem_set]
    simp only [List.getElem_map, List.getElem_range]
    by_cases e : i = j
    · subst e
      rw [if_pos rfl, if_pos (by omega)]
    · rw [if_neg e]
      by_cases h3 : j < i
      · rw [if_pos h3, if_pos (by omega)]
      · rw [if_neg h3, if_neg (by omega)]
/-- The matrix's entries. -/
def coef (s : ByteArray) (C r j : Nat) : UInt8 := s.data.toList.getD (r * C + j) 0
theorem accC_z (c : Nat → UInt8) (n : Nat) (data : List ByteArray) : accC c n data 0 = zeros n := by
  unfold accC zeros
  apply List.ext_getElem
  · simp
  · intro i h1 h2
    simp [xs]
theorem blk_row_ne {w : World} {g p : Nat} {l : List UInt8} {cs : Array Value} {t : TypeId} (h : RowB w p l) (hg : w.heap[g]? = some (.cells cs t (0, 0))) (ht : 5 ≠ t) : g ≠ p := by
  intro e
  subst e
  unfold RowB at h
  rw [h] at hg
  injection hg with hg
  injection hg with _ hg _
  exact ht hg
def UndIs (l : List ByteArray) (w : World) (e : Ending) (w' : World) : Prop := ∃ v0_ : Value, e = .returned v0_ ∧ Kd.R Kd.string 9 w' w.heap.size (fun _ => True) v0_ l ∧ Below w.heap.size w w'
section
variable (R C : Nat) (hR1 : 1 ≤ R) (hR : R ≤ 255) (hC1 : 1 ≤ C) (hC : C ≤ 255) (S : ByteArray) (hS : S.size = R * C) (A1 : Option Addr) (c1 : Nat) (data : List ByteArray) (w : World)
variable (hrd : Kd.C Kd.string w A1 data.length data) (hcap : data.length ≤ c1) (hl : data.length = C) (he : evenB data = true) (hn : (rdOf ByteArray.empty data 0).size ≤ 2052)
include hR1 hR hC1 hC hS hrd hcap hl he hn
set_option maxRecDepth 100000 in
set_option maxHeartbeats 4000000 in
theorem und_walk : Calls Tryd.prog 62 #[.agg #[.int .i64 (R : Int), .int .i64 (C : Int), .string S], .slice A1 data.length c1] w (UndIs (undL (coef S C) R C (rdOf ByteArray.empty data 0).size data) w) := by
  have HE0 := Aside0.mk he
  have HS0 : Aside0 (∃ s0, rdOf ByteArray.empty data 0 = s0) := ⟨_, rfl⟩
  obtain ⟨⟨s0, hs0⟩⟩ := HS0
  have HS0 := Aside0.mk hs0
  rw [hs0] at hn ⊢
  have HR := Aside0.mk (And.intro hrd hcap)
  have HX0 : Aside0 (∃ ad, A1 = some ad ∧ ∀ W, Below w.heap.size w W → W.cell? ad = some (.string s0)) := ⟨by
    obtain ⟨ad, hA, hx0⟩ := Kd.at_string hrd 0 (by omega) (by omega)
    rw [show ((0 : Int)).toNat = 0 from rfl, Addr.add_zero', hs0] at hx0
    exact ⟨ad, hA, fun W hb => pw_cell_below hb hx0⟩⟩
  obtain ⟨⟨ad, hA, hx0⟩⟩ := HX0
  subst hA
  have HX0 := Aside0.mk hx0
  have HL := Aside0.mk hl
  have HN : Aside0 (∀ W, Calls Tryd.prog 56 #[] W (Made W)) := ⟨fun W => new_walk W⟩
  have HCS : Aside0 (∀ r j, r < R → j < C → ∀ h : r * C + j < S.size, S[r * C + j] = coef S C r j) := ⟨fun r j hr hj h => by
    unfold coef
    rw [List.getD_eq_getElem?_getD, List.getElem?_eq_getElem (by rw [Array.length_toList]; exact h)]
    rfl⟩
  have HSS := Aside0.mk hS
  have hmk := run_make_strs R (by omega)
  have HU0 := Aside0.mk (undP_zero (coef S C) R C s0.size data)
  have HUF := Aside0.mk (undP_full (coef S C) R C s0.size data)
  have HUL := Aside0.mk (undP_len (coef S C) R C s0.size data)
  have HUS := Aside0.mk (fun i hi => undP_set (coef S C) R C s0.size data i hi)
  generalize coef S C = cf at *
  generalize undL cf R C s0.size data = fin at *
  clear hrd hcap hx0 he hs0 hS
  go_enter Tryd.func62, Tryd.ntmps62
  have hbx : (w.alloc (.cells #[.int .i64 (R : Int), .int .i64 (C : Int), .string S] 74)).heap[w.heap.size]? = some (.cells #[.int .i64 (R : Int), .int .i64 (C : Int), .string S] 74 (0, 0)) := blk_new _ _
  have hB0 : Below w.heap.size w (w.alloc (.cells #[.int .i64 (R : Int), .int .i64 (C : Int), .string S] 74)) := (Below.refl _ _).alloc (Nat.le_refl _) _
  go_wp2_with fail
  refine (HN.out _).mono ?_
  rintro e w1 ⟨rfl, hf1, hb1⟩
  have X1 := Aside0.mk (blk_below hbx hb1)
  have B1 : Aside0 (Below w.heap.size w w1) := ⟨hB0.trans (hb1.mono (by simp))⟩
  have F1 := Aside0.mk hf1
  generalize (w.alloc (.cells #[.int .i64 (R : Int), .int .i64 (C : Int), .string S] 74)).heap.size = p at *
  clear hb1 hf1 hbx hB0
  have c10 := blk_cell X1.out 0
  obtain ⟨W2, hW2⟩ : ∃ W2, W2 = w1.alloc (.cells (strRow (List.replicate R ⟨#[]⟩)) 9) := ⟨_, rfl⟩
  obtain ⟨go_, hgo⟩ : ∃ g, w1.heap.size = g := ⟨_, rfl⟩
  have hmk1 : (Instr.makeSlice 25 (.int .i64 (R : Int)) (.int .i64 (R : Int))).run Tryd.prog w1 = .ok (.slice (some ⟨go_, 0, none⟩) R R) W2 := by rw [hmk, hW2, hgo]
  have X2 : Aside0 (W2.heap[w.heap.size]? = some (.cells #[.int .i64 (R : Int), .int .i64 (C : Int), .string S] 74 (0, 0))) := ⟨by rw [hW2]; exact blk_alloc X1.out _⟩
  have B2 : Aside0 (Below w.heap.size w W2) := ⟨by rw [hW2]; exact B1.out.alloc B1.out.size _⟩
  have F2 : Aside0 (FieldAt W2 p) := ⟨by rw [hW2]; exact blk_alloc F1.out _⟩
  have O2 : Aside0 (W2.heap[go_]? = some (.cells (strRow (undP cf R C s0.size data 0)) 9 (0, 0))) := ⟨by rw [hW2, HU0.out, ← hgo]; exact blk_new _ _⟩
  have hgo2 : w.heap.size ≤ go_ := by rw [← hgo]; exact B1.out.size
  clear hW2 hgo hmk X1 B1 F1
  go_wp2
  have hmb := run_make_bytes s0.size (by omega)
  go_loopw [19] (fun v W => ∃ i : Nat, i ≤ R ∧ v = .int .i64 (i : Int) ∧ Aside0 (W.heap[go_]? = some (.cells (strRow (undP cf R C s0.size data i)) 9 (0, 0))) ∧ Aside0 (Below w.heap.size w W) ∧ Aside0 (FieldAt W p) ∧ Aside0 (W.heap[w.heap.size]? = some (.cells #[.int .i64 (R : Int), .int .i64 (C : Int), .string S] 74 (0, 0)))) (fun v _ => R - (intOf v).toNat)
  case atStart => exact ⟨0, by omega, rfl, O2, B2, F2, X2⟩
  case round =>
    obtain ⟨i, hiR, rfl, HO, HB, HF, HGB⟩ := hrel
    clear O2 B2 F2 X2 c10 hmk1
    generalize wr = wo at *
    by_cases hlt : i < R
    · obtain ⟨W1, hW1⟩ : ∃ W1, W1 = wo.alloc (.cells (byteCells (zeros s0.size)).toArray 5) := ⟨_, rfl⟩
      obtain ⟨b, hbd⟩ : ∃ b, wo.heap.size = b := ⟨_, rfl⟩
      have hmk1 : (Instr.makeSlice 60 (.int .i64 (s0.size : Int)) (.int .i64 (s0.size : Int))).run Tryd.prog wo = .ok (.slice (some ⟨b, 0, none⟩) s0.size s0.size) W1 := by rw [hmb, hW1, hbd]
      have HN1 : Aside0 (RowB W1 b (accC (cf i) s0.size data 0)) := ⟨by rw [accC_z, hW1, ← hbd]; exact blk_new _ _⟩
      have HW1 : Aside0 (Below wo.heap.size wo W1) := ⟨by rw [hW1]; exact below_alloc (Below.refl _ _) _⟩
      have HBD := Aside0.mk hbd
      have c0 := HX0.out wo HB.out
      have i0 : (0 : Int) < (data.length : Int) := by omega
      have i1 : 0 < data.length := by omega
      clear hW1 hmb hbd
      go_wp2
      go_loopw [29] (fun j W => ∃ q : Nat, q ≤ C ∧ j = .int .i64 (q : Int) ∧ Aside0 (RowB W b (accC (cf i) s0.size data q)) ∧ Aside0 (Below wo.heap.size wo W)) (fun j _ => C - (intOf j).toNat)
      case atStart => exact ⟨0, by omega, rfl, HN1, HW1⟩
      case round =>
        obtain ⟨q, hq, rfl, HP, HW⟩ := hrel
        generalize wr = w4 at *
        by_cases hlq : q < C
        · have hB4 : Below w.heap.size w w4 := HB.out.trans (HW.out.mono HB.out.size)
          obtain ⟨sq, hq0, hsz, hdt⟩ : ∃ sq : ByteArray, w4.cell? (ad.add q) = some (.string sq) ∧ sq.size = s0.size ∧ Aside0 (∀ t (ht : t < sq.size), dAt data q t = sq[t]) := by
            have hqd : q < data.length := by have := HL.out; omega
            obtain ⟨ad', e', hq0⟩ := Kd.at_string (Kd.C_below HR.out.1 hB4) (q : Int) (by omega) (by omega)
            obtain rfl : ad = ad' := by injection e'
            rw [rdOf_nat data q hqd, Int.toNat_natCast] at hq0
            refine ⟨data[q], hq0, ?_, ⟨fun t ht => dAt_get data q t hqd ht⟩⟩
            have := even_of HE0.out _ (List.getElem_mem hqd)
            rw [HS0.out] at this
            exact this
          have g1 := (blk_cell (blk_below HGB.out HW.out) 1)
          have g2 := (blk_cell (blk_below HGB.out HW.out) 2)
          obtain ⟨z, hz⟩ : ∃ z, i * C = z := ⟨_, rfl⟩
          have hzi : (i : Int) * (C : Int) = (z : Int) := by rw [← hz]; push_cast; rfl
          have hzb : z + q < S.size := by
            rw [HSS.out, ← hz]
            have : (i + 1) * C ≤ R * C := Nat.mul_le_mul_right _ (by omega)
            rw [Nat.succ_mul] at this
            omega
          have hSl : S.size ≤ 65025 := by
            rw [HSS.out]
            exact Nat.le_trans (Nat.mul_le_mul hR hC) (by decide)
          have hby : S[z + q] = cf i q := by
            have := HCS.out i q hlt hlq
            rw [hz] at this
            exact this hzb
          clear hz
          have HM0 : Aside0 (RowB w4 b (mixC (cf i) s0.size data q 0)) := ⟨by rw [mixC_zero]; exact HP.out⟩
          have HFI : Aside0 (∀ W, Below wo.heap.size wo W → FieldAt W p) := ⟨fun W hb => HF.out.below hb⟩
          have hbs : wo.heap.size ≤ b := by rw [HBD.out]; exact Nat.le_refl _
          clear HP hB4
          go_wp2
          go_loopw [45] (fun t W => ∃ u : Nat, u ≤ s0.size ∧ t = .int .i64 (u : Int) ∧ Aside0 (RowB W b (mixC (cf i) s0.size data q u)) ∧ Aside0 (Below wo.heap.size wo W)) (fun t _ => s0.size - (intOf t).toNat)
          case atStart => exact ⟨0, by omega, rfl, HM0, HW⟩
          case round =>
            obtain ⟨u, hu, rfl, HX, HY⟩ := hrel
            generalize wr = w5 at *
            by_cases hlu : u < s0.size
            · have huq : u < sq.size := by omega
              have r0 := HX.out.cell u (by rw [mixC_len]; exact hlu)
              rw [mixC_get, if_neg (Nat.lt_irrefl _)] at r0
              have f0 := HX.out.frozen u
              have HST : Aside0 (∀ W : World, W.heap = w5.heap → RowB (W.setCell ⟨b, u, none⟩ (.int .u8 ((((xs (List.range q) fun j => gmul (cf i j) (dAt data j u)) ^^^ gmul (cf i q) (dAt data q u)).toNat : Nat) : Int))) b (mixC (cf i) s0.size data q (u + 1))) := ⟨fun W hW => by
                have h0 : RowB W b (mixC (cf i) s0.size data q u) := by unfold RowB; rw [hW]; exact HX.out
                have := h0.put u ((xs (List.range q) fun j => gmul (cf i j) (dAt data j u)) ^^^ gmul (cf i q) (dAt data q u))
                rwa [mixC_set _ _ _ _ _ hlu] at this⟩
              rw [hdt.out u huq] at HST
              have HMU : Aside0 (∀ W : World, W.heap = w5.heap → Calls Tryd.prog 57 #[.pointer (some ⟨p, 0, none⟩), .int .u8 ((cf i q).toNat : Int), .int .u8 (sq[u].toNat : Int)] W fun e w' => e = .returned (.int .u8 ((gmul (cf i q) sq[u]).toNat : Int)) ∧ Drawn0 W w') := ⟨fun W hW => mul_walk (by unfold FieldAt; rw [hW]; exact HFI.out w5 HY.out) _ _⟩
              have hxr := xor_u8 (xs (List.range q) fun j => gmul (cf i j) (dAt data j u)).toNat (gmul (cf i q) sq[u]).toNat (b_lt _) (b_lt _)
              rw [← UInt8.toNat_xor] at hxr
              generalize ((xs (List.range q) fun j => gmul (cf i j) (dAt data j u)) ^^^ gmul (cf i q) sq[u]).toNat = res at *
              generalize (xs (List.range q) fun j => gmul (cf i j) (dAt data j u)).toNat = old at *
              generalize (gmul (cf i q) sq[u]).toNat = prod at *
              clear hby
              generalize (cf i q).toNat = gy at *
              go_wp2_with fail
              go_region_law (first | (go_simp; go_at_call 57; refine (HMU.out _ (by rfl)).mono ?_; rintro e w6 ⟨rfl, ⟨nd, rfl⟩⟩))
              all_goals go_wp2
              all_goals go_roundw
              all_goals first
                | (case rel => exact ⟨u + 1, by omega, by go_num, ⟨HST.out _ (by rfl)⟩, ⟨Below.setCell (by repeat (first | exact HY.out | apply pw_below_drewN | apply below_drew1)) hbs _⟩⟩)
                | skip
              all_goals (case measure => simp [intOf]; omega)
            · obtain rfl : u = s0.size := by omega
              rw [mixC_full] at HX
              clear hby
              go_wp2
              go_roundw
              case rel => exact ⟨q + 1, by omega, by go_num, HX, HY⟩
              case measure => simp [intOf]; omega
        · obtain rfl : q = C := by omega
          have hcv := HP.out.whole s0.size
          rw [accC_len] at hcv
          have HBW : Aside0 (Below w.heap.size w w4) := ⟨HB.out.trans (HW.out.mono HB.out.size)⟩
          have HOW := Aside0.mk (blk_below HO.out HW.out)
          have HFW := Aside0.mk (HF.out.below HW.out)
          have HGW := Aside0.mk (blk_below HGB.out HW.out)
          have hgi : i < (undP cf R q s0.size data i).length := by rw [HUL.out i]; exact hlt
          have k0 := (blk_cell HOW.out i).trans (strRow_at _ i hgi)
          have f0 := blk_frozen HOW.out i
          have HSET := Aside0.mk (blk_put HOW.out i (.string (txt (accC (cf i) s0.size data q))) (by rw [strRow_set, HUS.out i hlt]))
          have HTX : Aside0 ((⟨(accC (cf i) s0.size data q).toArray⟩ : ByteArray) = txt (accC (cf i) s0.size data q)) := ⟨rfl⟩
          rw [HTX.out] at hcv
          generalize txt (accC (cf i) s0.size data q) = tx at *
          have hnf : ¬ (w.heap.size = go_) := fun e => by
            have h1 := HGW.out
            rw [e, HOW.out] at h1
            injection h1 with h1
            injection h1 with _ h1 _
            cases h1
          have hnp : p ≠ go_ := fun e => by
            have h1 := HFW.out
            unfold FieldAt at h1
            rw [e, HOW.out] at h1
            injection h1 with h1
            injection h1 with _ h1 _
            cases h1
          clear HB HO HF HGB HW HP HN1 HW1
          go_wp2
          go_roundw
          case rel => exact ⟨i + 1, by omega, by go_num, HSET, ⟨HBW.out.setCell hgo2 _⟩, ⟨blk_far HFW.out hnp _⟩, ⟨blk_far HGW.out hnf _⟩⟩
          case measure => simp [intOf]; omega
    · obtain rfl : i = R := by omega
      have hfin := HO.out
      rw [HUF.out] at hfin
      have hfl : fin.length = i := by rw [← HUF.out, HUL.out]
      have hKR := own_strs hgo2 (by rw [hfl]; exact Nat.le_trans hR (by decide)) hfin
      rw [hfl] at hKR
      have HKR := Aside0.mk hKR
      clear hmb hKR hfin
      go_wp2
      go_ret
      exact ⟨_, rfl, HKR.out, HB.out⟩
end
def mend_under.f (a0_0 : Int) (a0_1 : Int) (a0_2 : ByteArray) (l1 : List ByteArray) : Option (List ByteArray) :=
  if 1 ≤ a0_0 ∧ a0_0 ≤ 255 ∧ 1 ≤ a0_1 ∧ a0_1 ≤ 255 ∧ a0_2.size = a0_0.toNat * a0_1.toNat ∧ l1.length = a0_1.toNat ∧ evenB l1 = true ∧ (rdOf ByteArray.empty l1 0).size ≤ 2052 then some (undL (coef a0_2 a0_1.toNat) a0_0.toNat a0_1.toNat (rdOf ByteArray.empty l1 0).size l1) else none
theorem mend_under.calls (a0_0 : Int) (a0_1 : Int) (a0_2 : ByteArray) (A1 : Option Addr) (c1 : Nat) (l1 : List ByteArray) (r : List ByteArray) (w : World) (hr1 : Kd.C Kd.string w A1 l1.length l1) (hc1 : l1.length ≤ c1) (h : mend_under.f a0_0 a0_1 a0_2 l1 = some r) :
    Calls Tryd.prog 62 #[.agg #[.int .i64 a0_0, .int .i64 a0_1, .string a0_2], .slice A1 l1.length c1] w fun e w' => ∃ v0_ : Value, e = .returned (v0_) ∧ Kd.R Kd.string 9 w' w.heap.size (fun _ => True) v0_ r ∧ Below w.heap.size w w' := by
  unfold mend_under.f at h
  split at h
  · rename_i hp
    obtain ⟨p1, p2, p3, p4, p5, p6, p7, p8⟩ := hp
    obtain ⟨R, rfl⟩ : ∃ R : Nat, a0_0 = (R : Int) := ⟨a0_0.toNat, by omega⟩
    obtain ⟨C, rfl⟩ : ∃ C : Nat, a0_1 = (C : Int) := ⟨a0_1.toNat, by omega⟩
    simp only [Int.toNat_natCast] at p5 p6 h
    have := und_walk R C (by omega) (by omega) (by omega) (by omega) a0_2 p5 A1 c1 l1 w hr1 hc1 p6 p7 p8
    rw [← Option.some.inj h]
    exact this
  · cases h
end Go.Proofs.YtegmmefijihdeaaDoor.PS
namespace Go.Proofs.YtegmmefijihdeaaDoor.PS
open Go.RowKit Go.Proofs.YtegmmefijihdeaaDoorW.PrintWords Go.Proofs.YtegmmefijihdeaaDoorW.PrintLast Go.Proofs.YtegmmefijihdeaaDoorW.PrintMore
attribute [local go_sem] Mk.str_leq Mk.str_gtr Mk.str_geq max2_int min2_int max_two min_two max_three min_three max_four min_four   -- for this text's walks alone
set_option linter.unusedVariables false
set_option linter.unusedSimpArgs false

/-! ### corncribbook_Among: function 30 -/
def corncribbook_Among.f (a0 : Int) (a1 : Int) : Option (Int) := if a1 = 0 then (none) else (some (Int.tmod (wrap64 ((Int.tmod a0 a1) + a1)) a1))
set_option maxHeartbeats 8000000 in
set_option maxRecDepth 100000 in
theorem corncribbook_Among.calls (a0 : Int) (a1 : Int) (r : Int) (w : World) (h : corncribbook_Among.f a0 a1 = some r) :
  Calls Tryd.prog 30 #[.int .i64 a0, .int .i64 a1] w fun e w' => e = .returned (.int .i64 r) ∧ Drawn0 w w' := by
 have H : (if a1 = 0 then (none) else (some (Int.tmod (wrap64 ((Int.tmod a0 a1) + a1)) a1))) = some r := h
 clear h
 by_cases c3 : a1 = 0
 ·rw [if_pos c3] at H
  exact absurd H (by simp)
 ·rw [if_neg c3] at H
  have c3b0 : (a1 == 0) = false := beq_eq_false_iff_ne.mpr c3
  have c3b1 : (a1 != 0) = true := bne_iff_ne.mpr c3
  obtain rfl := Option.some.inj H
  go_enter Tryd.func30, Tryd.ntmps30
  go_wp2
  go_ret
  exact ⟨by first | rfl | (simp; done) | (simp [*]; done), by repeat (first | exact Drawn0.refl _ | apply Drawn0.step)⟩

end Go.Proofs.YtegmmefijihdeaaDoor.PS
namespace Go.Proofs.YtegmmefijihdeaaDoor.PS
open Go.RowKit Go.Proofs.YtegmmefijihdeaaDoorW.PrintWords Go.Proofs.YtegmmefijihdeaaDoorW.PrintLast Go.Proofs.YtegmmefijihdeaaDoorW.PrintMore Go.Proofs.YtegmmefijihdeaaDoor.Gf Go.Proofs.YtegmmefijihdeaaDoor.Fld Go.Proofs.YtegmmefijihdeaaDoor.Grd Go.Proofs.YtegmmefijihdeaaDoor.Rowb
set_option linter.unusedVariables false
set_option linter.unusedSimpArgs false
theorem among_f (x : Int) (n : Nat) (hx : -9223372036854775808 ≤ x) (hx2 : x ≤ 9223372036854775807) (h1 : 1 ≤ n) (h2 : n ≤ 100000) : ∃ y : Nat, y < n ∧ corncribbook_Among.f x (n : Int) = some (y : Int) := by
  unfold corncribbook_Among.f
  rw [if_neg (by omega)]
  have h3 : -(n : Int) < x.tmod (n : Int) ∧ x.tmod (n : Int) < (n : Int) := by
    have ha := Int.lt_tmod_of_pos x (show (0 : Int) < (n : Int) by omega)
    have hb := Int.tmod_lt_of_pos x (show (0 : Int) < (n : Int) by omega)
    exact ⟨ha, hb⟩
  obtain ⟨t, ht⟩ : ∃ t, x.tmod (n : Int) = t := ⟨_, rfl⟩
  rw [ht] at h3 ⊢
  rw [w64_in (t + (n : Int)) (by omega) (by omega)]
  obtain ⟨s, hs⟩ : ∃ s : Nat, t + (n : Int) = (s : Int) := ⟨(t + (n : Int)).toNat, by omega⟩
  rw [hs, Int.tmod_eq_emod_of_nonneg (by omega)]
  refine ⟨s % n, Nat.mod_lt _ (by omega), ?_⟩
  rw [Int.natCast_emod]
theorem mn_nat (a b : Nat) : mn (a : Int) (b : Int) = ((min a b : Nat) : Int) := by
  unfold mn
  rcases Nat.le_total a b with h | h
  · rw [Nat.min_eq_left h]; first | rw [if_pos (by omega)] | rw [if_neg (by omega)] | (split <;> omega)
  · rw [Nat.min_eq_right h]; first | (split <;> omega) | rw [if_neg (by omega)]
theorem w64_nat (n : Nat) (h : n ≤ 9223372036854775807) : wrap64 (n : Int) = (n : Int) := w64_in _ (by omega) (by omega)
theorem wf_i64 {x : Int} (h : (Lit.int .i64 x).wf = true) : -9223372036854775808 ≤ x ∧ x ≤ 9223372036854775807 := by
  have : IntKind.i64.min ≤ x ∧ x ≤ IntKind.i64.max := by simpa [Lit.wf] using h
  exact this
end Go.Proofs.YtegmmefijihdeaaDoor.PS
namespace Go.Proofs.YtegmmefijihdeaaDoor.PS
open Go.RowKit Go.Proofs.YtegmmefijihdeaaDoorW.PrintWords Go.Proofs.YtegmmefijihdeaaDoorW.PrintLast Go.Proofs.YtegmmefijihdeaaDoorW.PrintMore
attribute [local go_sem] Mk.str_leq Mk.str_gtr Mk.str_geq max2_int min2_int max_two min_two max_three min_three max_four min_four   -- for this text's walks alone
set_option linter.unusedVariables false
set_option linter.unusedSimpArgs false

/-! ### mend_Data: function 38 -/
def mend_Data.l0 : Nat → List Int → List ByteArray → List (S62) → Int → Int → Int → Int → ByteArray → Option (List ByteArray × Int)
 | 0, _, _, _, _, _, _, _, _ => none
 | k + 1, x12, x13, x38, x39, x40, x338000, x338001, x338002 => if x40 < x39 then (if 0 ≤ x40 then (if x40 < (x38.length : Int) then ((some (([(rd_T62 x38 x40).f0] : List Int) : List Int)).bind fun y344 => (if x12.length + y344.length < 17592186044416 then ((some (([(rd_T62 x38 x40).f1] : List ByteArray) : List ByteArray)).bind fun y350 => (if x13.length + y350.length < 8796093022208 then (mend_Data.l0 k (x12 ++ y344) (x13 ++ y350) x38 x39 (wrap64 (x40 + 1)) x338000 x338001 x338002) else (none))) else (none))) else (none)) else (none)) else ((matrix_Pick.f x338000 x338001 x338002 x12).bind fun bt356 => ((matrix_Inverse.f bt356.1 bt356.2.1 bt356.2.2.1).bind fun bt361 => (if bt361.2.2.2 = 0 then ((mend_under.f bt361.1 bt361.2.1 bt361.2.2.1 x13).bind fun t366 => (some (t366, 0))) else (some (([] : List ByteArray), bt361.2.2.2)))))
def mend_Data.f (k : Nat) (a0 : Int) (a1 : Int) (l2 : List (S62)) : Option (List ByteArray × Int) := (mend_Check.f a0 a1 l2).bind fun bt331 => (if bt331.2 = 0 then ((matrix_Generator.f a0 a1).bind fun bt333 => (if 0 ≤ a0 then (if a0 ≤ (l2.length : Int) then ((some (l2.take (a0 : Int).toNat : List (S62))).bind fun y338 => (mend_Data.l0 k ([] : List Int) ([] : List ByteArray) y338 (y338.length : Int) 0 bt333.1 bt333.2.1 bt333.2.2.1)) else (none)) else (none))) else (some (([] : List ByteArray), bt331.2)))
theorem mend_Data.mono_l : ∀ k, (∀ y0 y1 y2 y3 y4 y5 y6 y7, LeO (mend_Data.l0 k y0 y1 y2 y3 y4 y5 y6 y7) (mend_Data.l0 (k + 1) y0 y1 y2 y3 y4 y5 y6 y7))
 | 0 => fun _ _ _ _ _ _ _ _ r h => by simp [mend_Data.l0] at h
 | k + 1 => by
  have ih0 := mend_Data.mono_l k
  ·intro y0 y1 y2 y3 y4 y5 y6 y7
   unfold mend_Data.l0
   repeat' first
   | (with_reducible exact ih0 _ _ _ _ _ _ _ _)
   | (with_reducible exact LeO.refl _)
   | (with_reducible exact LeO.none _)
   | (with_reducible refine LeO.ite ?_ ?_)
   | (with_reducible refine LeO.bind ?_ (fun _ => ?_))
   | exact ih0 _ _ _ _ _ _ _ _
   | exact LeO.none _
   | refine LeO.ite ?_ ?_
   | refine LeO.bind ?_ (fun _ => ?_)
theorem mend_Data.mono : ∀ a0 a1 a2 k, LeO (mend_Data.f k a0 a1 a2) (mend_Data.f (k + 1) a0 a1 a2) := by
 intro a0 a1 a2 k
 have ih0 := mend_Data.mono_l k
 unfold mend_Data.f
 repeat' first
   | (with_reducible exact ih0 _ _ _ _ _ _ _ _)
   | (with_reducible exact LeO.refl _)
   | (with_reducible exact LeO.none _)
   | (with_reducible refine LeO.ite ?_ ?_)
   | (with_reducible refine LeO.bind ?_ (fun _ => ?_))
   | exact ih0 _ _ _ _ _ _ _ _
   | exact LeO.none _
   | refine LeO.ite ?_ ?_
   | refine LeO.bind ?_ (fun _ => ?_)
def mend_Data.T10 : Bool × List (List Nat × List Nat) := (true, [([], []), ([], []), ([1], [1]), ([2], [2]), ([0, 3], [0, 3]), ([], []), ([], []), ([6], [6]), ([7], [7]), ([5, 8, 4], [5, 8]), ([4, 9, 0, 1, 2, 3, 4], [0, 4]), ([9, 10, 0, 1, 2, 3, 4, 5, 6, 7, 8, 9, 10], [5, 9])])
def mend_Data.B10 : List Nat := [0, 0, 2, 6, 15, 0, 0, 64, 192, 511, 1023, 2047]
theorem mend_Data.tab10 : rtab .any (opsOf Tryd.f38 10) = mend_Data.T10 := by kernel_rfl
theorem mend_Data.bits10 : waitsOk mend_Data.T10.2 mend_Data.B10 = true := by kernel_rfl
set_option maxHeartbeats 8000000 in
set_option maxRecDepth 100000 in
theorem mend_Data.calls (k : Nat) (a0 : Int) (a1 : Int) (A2 : Option Addr) (c2 : Nat) (l2 : List (S62)) (r1 : List ByteArray) (r2 : Int) (w : World) (hr2 : Kd.C k62 w A2 l2.length l2) (hc2 : l2.length ≤ c2) (h : mend_Data.f k a0 a1 l2 = some (r1, r2)) :
  Calls Tryd.prog 38 #[.int .i64 a0, .int .i64 a1, .slice A2 l2.length c2] w fun e w' => ∃ v0_ : Value, e = .returned (.tuple #[v0_, .int .i64 r2]) ∧ Kd.R Kd.string 9 w' w.heap.size (fun _ => True) v0_ r1 ∧ Below w.heap.size w w' := by
 have hu74 := Tryd.underlying74
 have hu62 := Tryd.underlying62
 have HR2 := Aside0.mk hr2
 have HC2 := Aside0.mk hc2
 clear hr2 hc2
 have HB := Aside0.mk (Below.refl w.heap.size w)
 have H : ((mend_Check.f a0 a1 l2).bind fun bt331 => (if bt331.2 = 0 then ((matrix_Generator.f a0 a1).bind fun bt333 => (if 0 ≤ a0 then (if a0 ≤ (l2.length : Int) then ((some (l2.take (a0 : Int).toNat : List (S62))).bind fun y338 => (mend_Data.l0 k ([] : List Int) ([] : List ByteArray) y338 (y338.length : Int) 0 bt333.1 bt333.2.1 bt333.2.2.1)) else (none)) else (none))) else (some (([] : List ByteArray), bt331.2)))) = some (r1, r2) := h
 clear h
 replace H := Option.bind_eq_some_iff.mp H
 obtain ⟨⟨t331, t332⟩, A40, H⟩ := H
 replace H : (if t332 = 0 then ((matrix_Generator.f a0 a1).bind fun bt333 => (if 0 ≤ a0 then (if a0 ≤ (l2.length : Int) then ((some (l2.take (a0 : Int).toNat : List (S62))).bind fun y338 => (mend_Data.l0 k ([] : List Int) ([] : List ByteArray) y338 (y338.length : Int) 0 bt333.1 bt333.2.1 bt333.2.2.1)) else (none)) else (none))) else (some (([] : List ByteArray), t332))) = some (r1, r2) := H
 have A4 := Aside0.mk A40
 clear A40
 by_cases c5 : t332 = 0
 ·rw [if_pos c5] at H
  have c5b0 : (t332 == 0) = true := beq_iff_eq.mpr c5
  have c5b1 : (t332 != 0) = false := bne_eq_false_iff_eq.mpr c5
  clear c5
  replace H := Option.bind_eq_some_iff.mp H
  obtain ⟨⟨t333, t334, t335, t336⟩, A60, H⟩ := H
  replace H : (if 0 ≤ a0 then (if a0 ≤ (l2.length : Int) then ((some (l2.take (a0 : Int).toNat : List (S62))).bind fun y338 => (mend_Data.l0 k ([] : List Int) ([] : List ByteArray) y338 (y338.length : Int) 0 t333 t334 t335)) else (none)) else (none)) = some (r1, r2) := H
  have A6 := Aside0.mk A60
  clear A60
  by_cases c7 : 0 ≤ a0
  ·rw [if_pos c7] at H
   have c7b0 := eq_true c7
   have c7b1 : decide (0 ≤ a0) = true := decide_eq_true c7
   clear c7
   by_cases c8 : a0 ≤ (l2.length : Int)
   ·rw [if_pos c8] at H
    have c8b0 := eq_true c8
    have c8b1 : decide (a0 ≤ (l2.length : Int)) = true := decide_eq_true c8
    clear c8
    obtain ⟨y338, hy338⟩ : ∃ y_ : List (S62), y_ = (l2.take (a0 : Int).toNat) := ⟨_, rfl⟩
    replace H : (mend_Data.l0 k ([] : List Int) ([] : List ByteArray) y338 (y338.length : Int) 0 t333 t334 t335) = some (r1, r2) := by first | (rw [hy338]; with_reducible exact H) | (have H2_ := (Option.bind_some _ _).symm.trans H; rw [hy338]; with_reducible exact H2_) | (have H2_ := (Option.bind_some _ _).symm.trans H; with_reducible exact H2_) | with_reducible exact H | (rw [hy338]; exact H) | exact H
    have Ny338 := Aside0.mk hy338
    clear hy338
    have H' := Aside0.mk H
    clear H
    go_enter Tryd.func38, Tryd.ntmps38
    go_wp2_with (first | ((with_reducible refine gate_callee (f := 34) rfl ?_); refine goesL_ (some 24) rfl rfl Tryd.func34 (by kernel_rfl) rfl #[.int .i64 a0, .int .i64 a1, .slice A2 l2.length c2] rfl (by (try simp only [List.map_toArray, List.map_cons, List.map_nil]); first | done | rfl | (simp only [List.length_drop, List.length_take]; rfl)) ?_; (with_reducible refine (mend_Check.calls a0 a1 _ _ l2 t331 t332 _ ?side1 ?side2 A4.out).mono ?_); (case side1 => repeat (first | exact HR2.out | (with_reducible refine Kd.C_alloc ?_ _) | (with_reducible refine Kd.C_drewN ?_ _) | (with_reducible refine Kd.C_drew ?_))); (case side2 => exact HC2.out); rintro e w9 ⟨rfl, hb⟩; refine ⟨_, rfl, ?_⟩; have n0_ := Aside0.mk (below_step (by repeat (first | (with_reducible first | exact HB.out | apply below_alloc | apply pw_below_drewN | apply below_drew1) | exact HB.out)) hb); clear HB; have HB := n0_; clear n0_; (try clear hb); (try clear hb2); (try clear hk); (try clear hi)) | ((with_reducible refine gate_callee (f := 55) rfl ?_); refine goesL_ (some 33) rfl rfl Tryd.func55 (by kernel_rfl) rfl #[.int .i64 a0, .int .i64 a1] rfl (by (try simp only [List.map_toArray, List.map_cons, List.map_nil]); first | done | rfl | (simp only [List.length_drop, List.length_take]; rfl)) ?_; (with_reducible refine (matrix_Generator.calls a0 a1 t333 t334 t335 t336 _ A6.out).mono ?_); rintro e w10 ⟨rfl, hb⟩; refine ⟨_, rfl, ?_⟩; have n0_ := Aside0.mk (below_step (by repeat (first | (with_reducible first | exact HB.out | apply below_alloc | apply pw_below_drewN | apply below_drew1) | exact HB.out)) hb); clear HB; have HB := n0_; clear n0_; (try clear hb); (try clear hb2); (try clear hk); (try clear hi)) | ((with_reducible refine gate_dst (N := 10) rfl ?_); refine box_event ?hg (N := 10) ?hd (cs := #[.int .i64 0, .int .i64 0, .string (⟨#[]⟩ : ByteArray)]) (t := 74) ?hr ?_; (case hd => rfl); (case hg => rfl); (case hr => first | (go_simp; done) | (go_simp; rfl)); intro gb337 hg w11 hbox hb; have n0_ := Aside0.mk (below_step (by repeat (first | (with_reducible first | exact HB.out | apply below_alloc | apply pw_below_drewN | apply below_drew1) | exact HB.out)) hb); have n1_ := Aside0.mk (hbox); have n2_ := Aside0.mk ((by rw [hg]; exact (below_size (by repeat (first | (with_reducible first | exact HB.out | apply below_alloc | apply pw_below_drewN | apply below_drew1) | exact HB.out))) : w.heap.size ≤ gb337)); have n3_ := Aside0.mk ((by rw [hg]; exact (below_size (by repeat (first | (with_reducible first | exact HB.out | apply below_alloc | apply pw_below_drewN | apply below_drew1) | exact HB.out))) : w.heap.size ≤ gb337)); clear HB; have HB := n0_; have BK337 := n1_; have GW337 := n2_; have GE337 := n3_; clear n0_ n1_ n2_ n3_; clear hb hbox hg; have hcz12_0 : w11.cell? ⟨gb337, 0, none⟩ = some (.int .i64 0) := (blk_cell BK337.out 0).trans rfl; have hcz12_1 : w11.cell? ⟨gb337, 1, none⟩ = some (.int .i64 0) := (blk_cell BK337.out 1).trans rfl; have hcz12_2 : w11.cell? ⟨gb337, 2, none⟩ = some (.string (⟨#[]⟩ : ByteArray)) := (blk_cell BK337.out 2).trans rfl; have hfz12_0 := blk_frozen BK337.out 0; have hfz12_1 := blk_frozen BK337.out 1; have hfz12_2 := blk_frozen BK337.out 2) | ((with_reducible refine gate_store (t := 74) (p := 10) rfl ?_); refine store_event (t := 74) (p := 10) (v := ?vo_w13) (w1 := (((w11.setCell ⟨gb337, 0, none⟩ (.int .i64 t333)).setCell ⟨gb337, 1, none⟩ (.int .i64 t334)).setCell ⟨gb337, 2, none⟩ (.string t335))) ?hg ?ho ?hn ?hr ?_; (case ho => rfl); (case hg => rfl); (case hn => rfl); (case hr => first | (go_simp; done) | (go_simp; rfl)); intro w13 hw; have n0_ : Aside0 (w13.heap[gb337]? = some (.cells #[.int .i64 t333, .int .i64 t334, .string t335] 74 (0, 0))) := ⟨(by rw [hw]; exact (by (with_reducible repeat (first | refine blk_drewN ?_ _ | refine blk_drew ?_ | refine blk_alloc ?_ _)); refine blk_put (cs := #[.int .i64 t333, .int .i64 t334, .string (⟨#[]⟩ : ByteArray)]) ?_ 2 _ rfl; (with_reducible repeat (first | refine blk_drewN ?_ _ | refine blk_drew ?_ | refine blk_alloc ?_ _)); refine blk_put (cs := #[.int .i64 t333, .int .i64 0, .string (⟨#[]⟩ : ByteArray)]) ?_ 1 _ rfl; (with_reducible repeat (first | refine blk_drewN ?_ _ | refine blk_drew ?_ | refine blk_alloc ?_ _)); refine blk_put (cs := #[.int .i64 0, .int .i64 0, .string (⟨#[]⟩ : ByteArray)]) ?_ 0 _ rfl; (with_reducible repeat (first | refine blk_drewN ?_ _ | refine blk_drew ?_ | refine blk_alloc ?_ _)); exact BK337.out))⟩; have n1_ : Aside0 (Below w.heap.size w w13) := ⟨(by rw [hw]; exact (by repeat (first | (with_reducible first | exact HB.out | apply below_alloc | apply pw_below_drewN | apply below_drew1 | refine below_set ?_ GE337.out) | exact HB.out)))⟩; clear hw; clear BK337; clear HB; have BK337 := n0_; have HB := n1_; clear n0_ n1_; have q14 : (a0 : Int) ≤ ((l2.length : Int) : Int) := of_decide_eq_true (by first | (with_reducible assumption) | assumption); obtain ⟨i014, hi014, _, hsz14, _⟩ := info_parts info62; have hroom14 : l2.length ≤ c2 := HC2.out; have hC14 : Kd.C k62 _ A2 l2.length l2 := HR2.out; have hcut14 := cut_to (P := Tryd.prog) 47 62 .i64 Tryd.underlying47 hi014 A2 l2.length c2 a0 (of_decide_eq_true (by first | (with_reducible assumption) | assumption)) q14 hroom14; have hr14 := Kd.C_take (m := (a0 : Int).toNat) hC14 (by omega); have hy14 : y338.length = (a0 : Int).toNat := (by rw [Ny338.out, List.length_take]; omega); rw [← Ny338.out] at hr14; rw [← hy14] at hcut14; have HR341 := Aside0.mk hr14; have HC341 := Aside0.mk (show y338.length ≤ c2 from by omega); clear hr14 hC14 hroom14 hi014 hsz14; have KY14 := Aside0.mk hy14; clear hy14; replace q14 := eq_true q14))
    go_loopg [12, 13, 40] k (fun kq v12 v13 v40 w' => ∃ (x12_1 : List Int) (x13_1 : List ByteArray) (x40_1 : Int), v40 = .int .i64 x40_1 ∧ Aside0 (mend_Data.l0 kq x12_1 x13_1 y338 (y338.length : Int) x40_1 t333 t334 t335 = some (r1, r2)) ∧ Aside0 (kq ≤ k) ∧ Aside0 (Kd.R (Kd.int .i64) 3 w' w.heap.size (fun _ => True) v12 x12_1) ∧ Aside0 (Kd.R Kd.string 9 w' w.heap.size (fun _ => True) v13 x13_1) ∧ Aside0 (w'.heap[gb337]? = some (.cells #[.int .i64 t333, .int .i64 t334, .string t335] 74 (0, 0))) ∧ Aside0 (Below w.heap.size w w'))
    case atStart => exact ⟨(([] : List Int)), (([] : List ByteArray)), (0), (by first | rfl | (simp; done) | (simp [*]; done)), H', ⟨Nat.le_refl _⟩, ⟨by first | exact Kd.R_nil _ _ _ _ _ | exact Kd.N_nil _ _ _ _ _ | exact Kd.V_nil _ _ _ _ _ | exact Kd.Q_nil _ _ _ _ _ | exact Kd.S_nil _ _ _ _ _⟩, ⟨by first | exact Kd.R_nil _ _ _ _ _ | exact Kd.N_nil _ _ _ _ _ | exact Kd.V_nil _ _ _ _ _ | exact Kd.Q_nil _ _ _ _ _ | exact Kd.S_nil _ _ _ _ _⟩, ⟨by (with_reducible repeat (first | refine blk_drewN ?_ _ | refine blk_drew ?_ | refine blk_alloc ?_ _)); exact BK337.out⟩, ⟨by repeat (first | (with_reducible first | exact HB.out | apply below_alloc | apply pw_below_drewN | apply below_drew1 | refine below_set ?_ GE337.out) | exact HB.out)⟩⟩
    case round =>
     clear H'
     try clear q1
     try clear c2
     try clear p2
     try clear c3
     try clear c5
     try clear c5b0
     try clear c5b1
     try clear c7
     try clear c7b0
     try clear c7b1
     try clear c8
     try clear c8b0
     try clear c8b1
     try clear q14
     try clear hcz12_0
     try clear hcz12_1
     try clear hcz12_2
     try clear hfz12_0
     try clear hfz12_1
     try clear hfz12_2
     try clear q14
     obtain ⟨x12_1, x13_1, x40_1, rfl, HA, HK1, HO_12, HO_13, BK337, HB⟩ := hrel
     cases gk with
     | zero => exact absurd HA.out (by simp [mend_Data.l0])
     | succ k1 =>
      have H := HA.out
      clear HA
      simp only [mend_Data.l0] at H
      by_cases c15 : x40_1 < (y338.length : Int)
      ·rw [if_pos c15] at H
       have c15b0 : decide (x40_1 < (y338.length : Int)) = true := decide_eq_true c15
       clear c15
       by_cases c16 : 0 ≤ x40_1
       ·rw [if_pos c16] at H
        have c16b0 : decide (0 ≤ x40_1) = true := decide_eq_true c16
        clear c16
        by_cases c17 : x40_1 < (y338.length : Int)
        ·rw [if_pos c17] at H
         have c17b0 : decide (x40_1 < (y338.length : Int)) = true := decide_eq_true c17
         clear c17
         obtain ⟨y344, hy344⟩ : ∃ y_ : List Int, y_ = (([(rd_T62 y338 x40_1).f0] : List Int)) := ⟨_, rfl⟩
         replace H : (if x12_1.length + y344.length < 17592186044416 then ((some (([(rd_T62 y338 x40_1).f1] : List ByteArray) : List ByteArray)).bind fun y350 => (if x13_1.length + y350.length < 8796093022208 then (mend_Data.l0 k1 (x12_1 ++ y344) (x13_1 ++ y350) y338 (y338.length : Int) (wrap64 (x40_1 + 1)) t333 t334 t335) else (none))) else (none)) = some (r1, r2) := by first | (rw [hy344]; with_reducible exact H) | (have H2_ := (Option.bind_some _ _).symm.trans H; rw [hy344]; with_reducible exact H2_) | (have H2_ := (Option.bind_some _ _).symm.trans H; with_reducible exact H2_) | with_reducible exact H | (rw [hy344]; exact H) | exact H
         have Ny344 := Aside0.mk hy344
         clear hy344
         by_cases c18 : x12_1.length + y344.length < 17592186044416
         ·rw [if_pos c18] at H
          have LMc18 := Aside0.mk c18
          clear c18
          obtain ⟨y347, hy347⟩ : ∃ y_ : List Int, y_ = (x12_1 ++ y344) := ⟨_, rfl⟩
          replace H : ((some (([(rd_T62 y338 x40_1).f1] : List ByteArray) : List ByteArray)).bind fun y350 => (if x13_1.length + y350.length < 8796093022208 then (mend_Data.l0 k1 y347 (x13_1 ++ y350) y338 (y338.length : Int) (wrap64 (x40_1 + 1)) t333 t334 t335) else (none))) = some (r1, r2) := by first | (rw [hy347]; with_reducible exact H) | (have H2_ := (Option.bind_some _ _).symm.trans H; rw [hy347]; with_reducible exact H2_) | (have H2_ := (Option.bind_some _ _).symm.trans H; with_reducible exact H2_) | with_reducible exact H | (rw [hy347]; exact H) | exact H
          have Ny347 := Aside0.mk hy347
          clear hy347
          obtain ⟨y350, hy350⟩ : ∃ y_ : List ByteArray, y_ = (([(rd_T62 y338 x40_1).f1] : List ByteArray)) := ⟨_, rfl⟩
          replace H : (if x13_1.length + y350.length < 8796093022208 then (mend_Data.l0 k1 y347 (x13_1 ++ y350) y338 (y338.length : Int) (wrap64 (x40_1 + 1)) t333 t334 t335) else (none)) = some (r1, r2) := by first | (rw [hy350]; with_reducible exact H) | (have H2_ := (Option.bind_some _ _).symm.trans H; rw [hy350]; with_reducible exact H2_) | (have H2_ := (Option.bind_some _ _).symm.trans H; with_reducible exact H2_) | with_reducible exact H | (rw [hy350]; exact H) | exact H
          have Ny350 := Aside0.mk hy350
          clear hy350
          by_cases c19 : x13_1.length + y350.length < 8796093022208
          ·rw [if_pos c19] at H
           have LMc19 := Aside0.mk c19
           clear c19
           obtain ⟨y353, hy353⟩ : ∃ y_ : List ByteArray, y_ = (x13_1 ++ y350) := ⟨_, rfl⟩
           replace H : (mend_Data.l0 k1 y347 y353 y338 (y338.length : Int) (wrap64 (x40_1 + 1)) t333 t334 t335) = some (r1, r2) := by first | (rw [hy353]; with_reducible exact H) | (have H2_ := (Option.bind_some _ _).symm.trans H; rw [hy353]; with_reducible exact H2_) | (have H2_ := (Option.bind_some _ _).symm.trans H; with_reducible exact H2_) | with_reducible exact H | (rw [hy353]; exact H) | exact H
           have Ny353 := Aside0.mk hy353
           clear hy353
           have H' := Aside0.mk H
           clear H
           have p342 : 0 ≤ (x40_1 : Int) := of_decide_eq_true (by first | (with_reducible assumption) | assumption)
           have q342 : x40_1 < (y338.length : Int) := of_decide_eq_true (by first | (with_reducible assumption) | assumption)
           obtain ⟨ad342, e342, hx342_0, hx342_1⟩ := at_T62 HR341.out x40_1 p342 q342
           cases e342
           replace hx342_0 := (HB.out.cell (World.block_lt_of_cell? w _ hx342_0)).trans hx342_0
           replace hx342_1 := (HB.out.cell (World.block_lt_of_cell? w _ hx342_1)).trans hx342_1
           replace p342 := eq_true p342
           replace q342 := eq_true q342
           try go_wp2_with (first | ((with_reducible refine gate_dst (N := 15) rfl ?_); refine box_event ?hg (N := 15) ?hd (cs := #[.int .i64 0, .string (⟨#[]⟩ : ByteArray)]) (t := 62) ?hr ?_; (case hd => rfl); (case hg => rfl); (case hr => first | (go_simp; done) | (go_simp; rfl)); intro gb343 hg w20 hbox hb; have n0_ := Aside0.mk (Kd.R_below (by (with_reducible repeat (first | apply Kd.R_alloc | apply Kd.R_drewN | apply Kd.R_drew)); exact HO_12.out) hb); have n1_ := Aside0.mk (Kd.R_below (by (with_reducible repeat (first | apply Kd.R_alloc | apply Kd.R_drewN | apply Kd.R_drew)); exact HO_13.out) hb); have n2_ := Aside0.mk (blk_below (g := gb337) (o := .cells #[.int .i64 t333, .int .i64 t334, .string t335] 74 (0, 0)) (by (with_reducible repeat (first | refine blk_drewN ?_ _ | refine blk_drew ?_ | refine blk_alloc ?_ _)); exact BK337.out) hb); have n3_ := Aside0.mk (below_step (by repeat (first | (with_reducible first | exact HB.out | apply below_alloc | apply pw_below_drewN | apply below_drew1 | refine below_set ?_ GE337.out) | exact HB.out)) hb); have n4_ := Aside0.mk (hbox); have n5_ := Aside0.mk ((by rw [hg]; exact (below_size (by repeat (first | (with_reducible first | exact HB.out | apply below_alloc | apply pw_below_drewN | apply below_drew1 | refine below_set ?_ GE337.out) | exact HB.out))) : w.heap.size ≤ gb343)); have n6_ := Aside0.mk ((by rw [hg]; exact (below_size (by repeat (first | (with_reducible first | exact HB.out | apply below_alloc | apply pw_below_drewN | apply below_drew1 | refine below_set ?_ GE337.out) | exact HB.out))) : w.heap.size ≤ gb343)); have n7_ := Aside0.mk ((by rw [hg]; exact Nat.ne_of_lt (blk_lt (g := gb337) (o := .cells #[.int .i64 t333, .int .i64 t334, .string t335] 74 (0, 0)) (by (with_reducible repeat (first | refine blk_drewN ?_ _ | refine blk_drew ?_ | refine blk_alloc ?_ _)); exact BK337.out)) : gb337 ≠ gb343)); have n8_ := Aside0.mk ((by rw [hg]; exact Nat.ne_of_gt (blk_lt (g := gb337) (o := .cells #[.int .i64 t333, .int .i64 t334, .string t335] 74 (0, 0)) (by (with_reducible repeat (first | refine blk_drewN ?_ _ | refine blk_drew ?_ | refine blk_alloc ?_ _)); exact BK337.out)) : gb343 ≠ gb337)); clear HO_12; clear HO_13; clear BK337; clear HB; have HO_12 := n0_; have HO_13 := n1_; have BK337 := n2_; have HB := n3_; have BK343 := n4_; have GW343 := n5_; have GE343 := n6_; have NB337_343 := n7_; have NB343_337 := n8_; clear n0_ n1_ n2_ n3_ n4_ n5_ n6_ n7_ n8_; clear hb hbox hg; have hnb21 := NB343_337.out; have hnc21 := NB337_343.out; have hcz22_0 : w20.cell? ⟨gb343, 0, none⟩ = some (.int .i64 0) := (blk_cell BK343.out 0).trans rfl; have hcz22_1 : w20.cell? ⟨gb343, 1, none⟩ = some (.string (⟨#[]⟩ : ByteArray)) := (blk_cell BK343.out 1).trans rfl; have hfz22_0 := blk_frozen BK343.out 0; have hfz22_1 := blk_frozen BK343.out 1; obtain ⟨Ao23, co23, eo23⟩ := Kd.R_slice HO_12.out; subst eo23; obtain ⟨Ao24, co24, eo24⟩ := Kd.R_slice HO_13.out; subst eo24))
           have n0_ : Aside0 (Kd.R (Kd.int .i64) 3 ((w20.setCell ⟨gb343, 0, none⟩ (.int .i64 ((rd_T62 y338 x40_1).f0))).setCell ⟨gb343, 1, none⟩ (.string ((rd_T62 y338 x40_1).f1))) w.heap.size (fun _ => True) (.slice Ao23 x12_1.length co23) x12_1) := ⟨by (with_reducible repeat (first | apply Kd.R_alloc | apply Kd.R_drewN | apply Kd.R_drew)); exact Kd.R_mono (Kd.R_far (p := ⟨gb343, 1, none⟩) (Kd.R_far (p := ⟨gb343, 0, none⟩) (Kd.R_types HO_12.out BK343.out (by decide)) (fun _ hk => hk.2) (.int .i64 ((rd_T62 y338 x40_1).f0))) (fun _ hk => hk.2) (.string ((rd_T62 y338 x40_1).f1))) (fun _ hk => trivial)⟩
           have n1_ : Aside0 (Kd.R Kd.string 9 ((w20.setCell ⟨gb343, 0, none⟩ (.int .i64 ((rd_T62 y338 x40_1).f0))).setCell ⟨gb343, 1, none⟩ (.string ((rd_T62 y338 x40_1).f1))) w.heap.size (fun _ => True) (.slice Ao24 x13_1.length co24) x13_1) := ⟨by (with_reducible repeat (first | apply Kd.R_alloc | apply Kd.R_drewN | apply Kd.R_drew)); exact Kd.R_mono (Kd.R_far (p := ⟨gb343, 1, none⟩) (Kd.R_far (p := ⟨gb343, 0, none⟩) (Kd.R_types HO_13.out BK343.out (by decide)) (fun _ hk => hk.2) (.int .i64 ((rd_T62 y338 x40_1).f0))) (fun _ hk => hk.2) (.string ((rd_T62 y338 x40_1).f1))) (fun _ hk => trivial)⟩
           have n2_ : Aside0 (((w20.setCell ⟨gb343, 0, none⟩ (.int .i64 ((rd_T62 y338 x40_1).f0))).setCell ⟨gb343, 1, none⟩ (.string ((rd_T62 y338 x40_1).f1))).heap[gb337]? = some (.cells #[.int .i64 t333, .int .i64 t334, .string t335] 74 (0, 0))) := ⟨by (with_reducible repeat (first | refine blk_drewN ?_ _ | refine blk_drew ?_ | refine blk_alloc ?_ _)); refine blk_far ?_ NB337_343.out _; (with_reducible repeat (first | refine blk_drewN ?_ _ | refine blk_drew ?_ | refine blk_alloc ?_ _)); refine blk_far ?_ NB337_343.out _; (with_reducible repeat (first | refine blk_drewN ?_ _ | refine blk_drew ?_ | refine blk_alloc ?_ _)); exact BK337.out⟩
           have n3_ : Aside0 (((w20.setCell ⟨gb343, 0, none⟩ (.int .i64 ((rd_T62 y338 x40_1).f0))).setCell ⟨gb343, 1, none⟩ (.string ((rd_T62 y338 x40_1).f1))).heap[gb343]? = some (.cells #[.int .i64 ((rd_T62 y338 x40_1).f0), .string ((rd_T62 y338 x40_1).f1)] 62 (0, 0))) := ⟨by (with_reducible repeat (first | refine blk_drewN ?_ _ | refine blk_drew ?_ | refine blk_alloc ?_ _)); refine blk_put (cs := #[.int .i64 ((rd_T62 y338 x40_1).f0), .string (⟨#[]⟩ : ByteArray)]) ?_ 1 _ rfl; (with_reducible repeat (first | refine blk_drewN ?_ _ | refine blk_drew ?_ | refine blk_alloc ?_ _)); refine blk_put (cs := #[.int .i64 0, .string (⟨#[]⟩ : ByteArray)]) ?_ 0 _ rfl; (with_reducible repeat (first | refine blk_drewN ?_ _ | refine blk_drew ?_ | refine blk_alloc ?_ _)); exact BK343.out⟩
           have n4_ : Aside0 (Below w.heap.size w ((w20.setCell ⟨gb343, 0, none⟩ (.int .i64 ((rd_T62 y338 x40_1).f0))).setCell ⟨gb343, 1, none⟩ (.string ((rd_T62 y338 x40_1).f1)))) := ⟨by repeat (first | (with_reducible first | exact HB.out | apply below_alloc | apply pw_below_drewN | apply below_drew1 | refine below_set ?_ GE337.out | refine below_set ?_ GE343.out) | exact HB.out)⟩
           (try clear HO_12)
           (try clear HO_13)
           (try clear BK337)
           (try clear BK343)
           (try clear HB)
           generalize ((w20.setCell ⟨gb343, 0, none⟩ (.int .i64 ((rd_T62 y338 x40_1).f0))).setCell ⟨gb343, 1, none⟩ (.string ((rd_T62 y338 x40_1).f1))) = w25 at n0_ n1_ n2_ n3_ n4_ ⊢
           have HO_12 := n0_
           have HO_13 := n1_
           have BK337 := n2_
           have BK343 := n3_
           have HB := n4_
           clear n0_ n1_ n2_ n3_ n4_
           have n0_ := Aside0.mk (Kd.R_drew HO_12.out)
           have n1_ := Aside0.mk (Kd.R_drew HO_13.out)
           have n2_ := Aside0.mk (blk_drew BK337.out)
           have n3_ := Aside0.mk (blk_drew BK343.out)
           have n4_ := Aside0.mk (below_drew1 HB.out)
           clear HO_12
           clear HO_13
           clear BK337
           clear BK343
           clear HB
           have HO_12 := n0_
           have HO_13 := n1_
           have BK337 := n2_
           have BK343 := n3_
           have HB := n4_
           clear n0_ n1_ n2_ n3_ n4_
           refine start_ (n := 12) (S := fun w' => w'.cell? ⟨gb343, 0, none⟩ = some (.int .i64 ((rd_T62 y338 x40_1).f0)) ∧ w'.cell? ⟨gb343, 1, none⟩ = some (.string ((rd_T62 y338 x40_1).f1))) (ds := []) #[false, false, false, false, false, false, false, false, false, false, false, false] (by kernel_rfl) rfl rfl ⟨(blk_cell BK343.out 0).trans rfl, (blk_cell BK343.out 1).trans rfl⟩ (fun hHeld => ?_); refine with_tabW mend_Data.tab10 mend_Data.bits10 (fun HT_ HW_ => ?_)
           generalize w25.drew = w26 at HO_12 HO_13 BK337 BK343 HB hHeld ⊢
           refine pure_ (i := 0) (N := some 44) (v := ?_) (a' := ?_) #[true, false, false, false, false, false, false, false, false, false, false, false] rfl rfl (any_of HT_.out (by kernel_rfl)) (fun _ _ _ h => h) (Or.inl ⟨by rfl, ?_⟩) ?_ ?_
           rotate_left
           ·intro w'
            go_simp
            with_reducible rfl
           rotate_left
           ·simp only [Act.put, List.setIfInBounds_toArray, List.set_cons_zero, List.set_cons_succ, i64_w, i32_w]
            rfl
           refine pure_ (i := 1) (N := some 45) (v := ?_) (a' := ?_) #[true, true, false, false, false, false, false, false, false, false, false, false] rfl rfl (any_of HT_.out (by kernel_rfl)) (fun _ _ _ h => h) (Or.inl ⟨by rfl, ?_⟩) ?_ ?_
           rotate_left
           ·intro w'
            go_simp
            with_reducible rfl
           rotate_left
           ·simp only [Act.put, List.setIfInBounds_toArray, List.set_cons_zero, List.set_cons_succ, i64_w, i32_w]
            rfl
           refine pure_ (i := 5) (N := some 49) (v := ?_) (a' := ?_) #[true, true, false, false, false, true, false, false, false, false, false, false] rfl rfl (any_of HT_.out (by kernel_rfl)) (fun _ _ _ h => h) (Or.inl ⟨by rfl, ?_⟩) ?_ ?_
           rotate_left
           ·intro w'
            go_simp
            with_reducible rfl
           rotate_left
           ·simp only [Act.put, List.setIfInBounds_toArray, List.set_cons_zero, List.set_cons_succ, i64_w, i32_w]
            rfl
           refine pure_ (i := 6) (N := some 50) (v := ?_) (a' := ?_) #[true, true, false, false, false, true, true, false, false, false, false, false] rfl rfl (any_of HT_.out (by kernel_rfl)) (fun _ _ _ h => h) (Or.inl ⟨by rfl, ?_⟩) ?_ ?_
           rotate_left
           ·intro w'
            go_simp
            with_reducible rfl
           rotate_left
           ·simp only [Act.put, List.setIfInBounds_toArray, List.set_cons_zero, List.set_cons_succ, i64_w, i32_w]
            rfl
           refine take_ (i := 2) (N := some 46) (v := ?_) (a' := ?_) #[true, true, true, false, false, true, true, false, false, false, false, false] rfl rfl (take_ofW HT_.out HW_.out (by kernel_rfl)) (fun _ _ _ h => h) (Or.inl ⟨by rfl, ?_⟩) hHeld ?_ ?_
           rotate_left
           ·rintro w' ⟨s0, s1⟩
            go_simp
            with_reducible rfl
           rotate_left
           ·simp only [Act.put, List.setIfInBounds_toArray, List.set_cons_zero, List.set_cons_succ, i64_w, i32_w]
            rfl
           refine take_ (i := 7) (N := some 51) (v := ?_) (a' := ?_) #[true, true, true, false, false, true, true, true, false, false, false, false] rfl rfl (take_ofW HT_.out HW_.out (by kernel_rfl)) (fun _ _ _ h => h) (Or.inl ⟨by rfl, ?_⟩) hHeld ?_ ?_
           rotate_left
           ·rintro w' ⟨s0, s1⟩
            go_simp
            with_reducible rfl
           rotate_left
           ·simp only [Act.put, List.setIfInBounds_toArray, List.set_cons_zero, List.set_cons_succ, i64_w, i32_w]
            rfl
           refine join_ (σ := Value × Value × Value) 3 #[true, true, true, true, true, true, true, true, true, false, false, false] (fun s_ => [(47, s_.1), (48, s_.2.1), (52, s_.2.2)]) (fun s_ w' => (w'.cell? ⟨gb343, 0, none⟩ = some (.int .i64 ((rd_T62 y338 x40_1).f0)) ∧ w'.cell? ⟨gb343, 1, none⟩ = some (.string ((rd_T62 y338 x40_1).f1))) ∧ (Kd.R (Kd.int .i64) 3 w' w.heap.size (fun k_ => some k_ ≠ (s_.2.1 : Value).ownBlock) s_.1 y344) ∧ (Kd.R (Kd.int .i64) 3 w' w.heap.size (fun k_ => some k_ ≠ (s_.1 : Value).ownBlock) s_.2.1 y347) ∧ (Kd.R Kd.string 9 w' w.heap.size (fun k_ => some k_ ≠ (.slice Ao24 x13_1.length co24 : Value).ownBlock) s_.2.2 y350) ∧ (Kd.R Kd.string 9 w' w.heap.size (fun k_ => some k_ ≠ (s_.2.2 : Value).ownBlock) (.slice Ao24 x13_1.length co24) x13_1) ∧ (w'.heap[gb337]? = some (.cells #[.int .i64 t333, .int .i64 t334, .string t335] 74 (0, 0))) ∧ (w'.heap[gb343]? = some (.cells #[.int .i64 ((rd_T62 y338 x40_1).f0), .string ((rd_T62 y338 x40_1).f1)] 62 (0, 0))) ∧ (Below w.heap.size w w')) ?_ ?_
           rotate_left
           ·intro hCont
            refine two_ (i := 3) (j := 8) (Ni := some 47) (Nj := some 52) #[true, true, true, true, false, true, true, true, false, false, false, false] #[true, true, true, false, false, true, true, true, true, false, false, false] rfl rfl rfl rfl (two_of HT_.out (by kernel_rfl)) (by decide) (by decide) (fun K hK => ?_) (fun K hK => ?_)
            ·skip
             refine Kd.R_lit_step (Kd.int .i64) _ 3 ?hg (N := 47) ?hd (xs := ([(rd_T62 y338 x40_1).f0] : List Int)) (inner := [.int .i64 ((rd_T62 y338 x40_1).f0)]) (ok := fun _ => True) (okp := fun _ => True) ?hr ?hp (fun _ hk => hk) trivial (Below.refl _ _) (Nat.le_refl _) (by simp) ?_; (case hd => rfl); (case hg => rfl); (case hr => first | (go_simp; done) | (go_simp; rfl)); (case hp => exact (Reps.one (show Kd.M (Kd.int .i64) _ _ _ ((rd_T62 y338 x40_1).f0) [.int .i64 ((rd_T62 y338 x40_1).f0)] from rfl) (Reps.none _ _)))
             intro v345 w27 ho28 hb hg_ hnew_
             clear hg_ hnew_
             (first | rw [← Ny344.out] at ho28 | (simp only [Int.reduceToNat] at ho28; rw [← Ny344.out] at ho28))
             have n0_ := Aside0.mk (Kd.R_elder' (by (with_reducible repeat (first | apply Kd.R_alloc | apply Kd.R_drewN | apply Kd.R_drew)); exact HO_12.out) (Kd.R_base ho28) hb)
             have n1_ := Aside0.mk (Kd.R_below (by (with_reducible repeat (first | apply Kd.R_alloc | apply Kd.R_drewN | apply Kd.R_drew)); exact HO_13.out) hb)
             have n2_ := Aside0.mk (Kd.R_lower (Kd.R_new' ho28 (Kd.R_lt (by (with_reducible repeat (first | apply Kd.R_alloc | apply Kd.R_drewN | apply Kd.R_drew)); exact HO_12.out))) (below_size (by repeat (first | (with_reducible first | exact HB.out | apply below_alloc | apply pw_below_drewN | apply below_drew1 | refine below_set ?_ GE337.out | refine below_set ?_ GE343.out) | exact HB.out))))
             have n3_ := Aside0.mk (blk_below (g := gb337) (o := .cells #[.int .i64 t333, .int .i64 t334, .string t335] 74 (0, 0)) (by (with_reducible repeat (first | refine blk_drewN ?_ _ | refine blk_drew ?_ | refine blk_alloc ?_ _)); exact BK337.out) hb)
             have n4_ := Aside0.mk (blk_below (g := gb343) (o := .cells #[.int .i64 ((rd_T62 y338 x40_1).f0), .string ((rd_T62 y338 x40_1).f1)] 62 (0, 0)) (by (with_reducible repeat (first | refine blk_drewN ?_ _ | refine blk_drew ?_ | refine blk_alloc ?_ _)); exact BK343.out) hb)
             have n5_ := Aside0.mk (below_step (by repeat (first | (with_reducible first | exact HB.out | apply below_alloc | apply pw_below_drewN | apply below_drew1 | refine below_set ?_ GE337.out | refine below_set ?_ GE343.out) | exact HB.out)) hb)
             clear HO_12
             clear HO_13
             clear BK337
             clear BK343
             clear HB
             have HO_12 := n0_
             have HO_13 := n1_
             have HO346 := n2_
             have BK337 := n3_
             have BK343 := n4_
             have HB := n5_
             clear n0_ n1_ n2_ n3_ n4_ n5_
             clear hb ho28
             obtain ⟨Ao30, co30, eo30⟩ := Kd.R_slice HO346.out
             (first | subst eo30 | (injection eo30 with f1_ f2_ f3_; have f4_ := f1_.symm; have f5_ := f3_.symm; clear f1_ f2_ f3_; subst f4_; subst f5_))
             refine hK.out _ _ ⟨(blk_cell BK343.out 0).trans rfl, (blk_cell BK343.out 1).trans rfl⟩ (fun hHeld => ?_)
             clear hK K
             refine norm_ (a' := ?_) ?_ ?_
             rotate_left
             ·show Act.put _ (some 47) _ = _
              simp only [Act.put, List.setIfInBounds_toArray, List.set_cons_zero, List.set_cons_succ, i64_w, i32_w]
              rfl
             refine two_ (i := 4) (j := 8) (Ni := some 48) (Nj := some 52) #[true, true, true, true, true, true, true, true, false, false, false, false] #[true, true, true, true, false, true, true, true, true, false, false, false] rfl rfl rfl rfl (two_of HT_.out (by kernel_rfl)) (by decide) (by decide) (fun K hK => ?_) (fun K hK => ?_)
             ·skip
              refine Kd.R_append_rows_step (Kd.int .i64) (w0 := w) w.heap.size (by rfl) (.tmp 44) (.tmp 47) 56 3 (.int .i64 0) 8 rfl Tryd.underlying56 info3 rfl (by decide) (by omega) (.slice Ao23 x12_1.length co23) x12_1 y344 _ _ _ (fun k_ => some k_ ≠ (.slice Ao30 y344.length co30 : Value).ownBlock) (fun _ => False) rfl rfl ?aO ?aR (fun _ _ h => h) (fun _ h => h.elim) ?aF ?aB ?aS ?aL ?_
              (case aR => repeat (first | exact (Kd.R_reads' HO346.out).2.2 | (with_reducible refine Kd.C_alloc ?_ _) | (with_reducible refine Kd.C_drewN ?_ _) | (with_reducible refine Kd.C_drew ?_)))
              (case aB => exact (by repeat (first | (with_reducible first | exact HB.out | apply below_alloc | apply pw_below_drewN | apply below_drew1 | refine below_set ?_ GE337.out | refine below_set ?_ GE343.out) | exact HB.out)))
              (case aF => exact (fun k_ hk => Kd.fresh' (Kd.R_lt (by (with_reducible repeat (first | apply Kd.R_alloc | apply Kd.R_drewN | apply Kd.R_drew)); exact HO346.out)) k_ hk))
              (case aO => exact (by (with_reducible repeat (first | apply Kd.R_alloc | apply Kd.R_drewN | apply Kd.R_drew)); exact Kd.R_mono HO_12.out (fun _ hk => hk.2)))
              (case aS => exact (below_size (by repeat (first | (with_reducible first | exact HB.out | apply below_alloc | apply pw_below_drewN | apply below_drew1 | refine below_set ?_ GE337.out | refine below_set ?_ GE343.out) | exact HB.out))))
              (case aL => have := LMc18.out; omega)
              intro v348 w29 ho hb hg hat
              rw [← Ny347.out] at ho
              have n0_ := Aside0.mk (Kd.R_over' (by (with_reducible repeat (first | apply Kd.R_alloc | apply Kd.R_drewN | apply Kd.R_drew)); exact HO_13.out) (Kd.R_typed (by (with_reducible repeat (first | apply Kd.R_alloc | apply Kd.R_drewN | apply Kd.R_drew)); exact HO_12.out)) (by decide) hg)
              have n1_ := Aside0.mk (blk_grown (g := gb337) (o := .cells #[.int .i64 t333, .int .i64 t334, .string t335] 74 (0, 0)) (by (with_reducible repeat (first | refine blk_drewN ?_ _ | refine blk_drew ?_ | refine blk_alloc ?_ _)); exact BK337.out) hg (Kd.R_ne HO_12.out BK337.out (by decide)))
              have n2_ := Aside0.mk (blk_grown (g := gb343) (o := .cells #[.int .i64 ((rd_T62 y338 x40_1).f0), .string ((rd_T62 y338 x40_1).f1)] 62 (0, 0)) (by (with_reducible repeat (first | refine blk_drewN ?_ _ | refine blk_drew ?_ | refine blk_alloc ?_ _)); exact BK343.out) hg (Kd.R_ne HO_12.out BK343.out (by decide)))
              have n3_ := Aside0.mk (Kd.R_after (ok := (fun _ => True)) (by (with_reducible repeat (first | apply Kd.R_alloc | apply Kd.R_drewN | apply Kd.R_drew)); exact HO346.out) hg hat)
              have n4_ := Aside0.mk (hb)
              have n5_ := Aside0.mk (ho)
              clear HO_13
              clear BK337
              clear BK343
              clear HO346
              clear HB
              clear HO_12
              have HO_13 := n0_
              have BK337 := n1_
              have BK343 := n2_
              have HO346 := n3_
              have HB := n4_
              have HO349 := n5_
              clear n0_ n1_ n2_ n3_ n4_ n5_
              clear ho hb hg hat
              refine hK.out _ _ ⟨(blk_cell BK343.out 0).trans rfl, (blk_cell BK343.out 1).trans rfl⟩ (fun hHeld => ?_)
              clear hK K
              refine norm_ (a' := ?_) ?_ ?_
              rotate_left
              ·show Act.put _ (some 48) _ = _
               simp only [Act.put, List.setIfInBounds_toArray, List.set_cons_zero, List.set_cons_succ, i64_w, i32_w]
               rfl
              refine one_ (i := 8) (N := some 52) #[true, true, true, true, true, true, true, true, true, false, false, false] rfl rfl (one_of HT_.out (by kernel_rfl)) (by decide) (fun K hK => ?_)
              refine Kd.R_lit_step Kd.string _ 9 ?hg (N := 52) ?hd (xs := ([(rd_T62 y338 x40_1).f1] : List ByteArray)) (inner := [.string ((rd_T62 y338 x40_1).f1)]) (ok := fun _ => True) (okp := fun _ => True) ?hr ?hp (fun _ hk => hk) trivial (Below.refl _ _) (Nat.le_refl _) (by simp) ?_; (case hd => rfl); (case hg => rfl); (case hr => first | (go_simp; done) | (go_simp; rfl)); (case hp => exact (Reps.one (show Kd.M Kd.string _ _ _ ((rd_T62 y338 x40_1).f1) [.string ((rd_T62 y338 x40_1).f1)] from rfl) (Reps.none _ _)))
              intro v351 w31 ho32 hb hg_ hnew_
              clear hg_ hnew_
              (first | rw [← Ny350.out] at ho32 | (simp only [Int.reduceToNat] at ho32; rw [← Ny350.out] at ho32))
              have n0_ := Aside0.mk (Kd.R_elder' (by (with_reducible repeat (first | apply Kd.R_alloc | apply Kd.R_drewN | apply Kd.R_drew)); exact HO_13.out) (Kd.R_base ho32) hb)
              have n1_ := Aside0.mk (Kd.R_below (by (with_reducible repeat (first | apply Kd.R_alloc | apply Kd.R_drewN | apply Kd.R_drew)); exact HO346.out) hb)
              have n2_ := Aside0.mk (Kd.R_below (by (with_reducible repeat (first | apply Kd.R_alloc | apply Kd.R_drewN | apply Kd.R_drew)); exact HO349.out) hb)
              have n3_ := Aside0.mk (Kd.R_lower (Kd.R_new' ho32 (Kd.R_lt (by (with_reducible repeat (first | apply Kd.R_alloc | apply Kd.R_drewN | apply Kd.R_drew)); exact HO_13.out))) (below_size (by repeat (first | (with_reducible first | exact HB.out | apply below_alloc | apply pw_below_drewN | apply below_drew1 | refine below_set ?_ GE337.out | refine below_set ?_ GE343.out) | exact HB.out))))
              have n4_ := Aside0.mk (blk_below (g := gb337) (o := .cells #[.int .i64 t333, .int .i64 t334, .string t335] 74 (0, 0)) (by (with_reducible repeat (first | refine blk_drewN ?_ _ | refine blk_drew ?_ | refine blk_alloc ?_ _)); exact BK337.out) hb)
              have n5_ := Aside0.mk (blk_below (g := gb343) (o := .cells #[.int .i64 ((rd_T62 y338 x40_1).f0), .string ((rd_T62 y338 x40_1).f1)] 62 (0, 0)) (by (with_reducible repeat (first | refine blk_drewN ?_ _ | refine blk_drew ?_ | refine blk_alloc ?_ _)); exact BK343.out) hb)
              have n6_ := Aside0.mk (below_step (by repeat (first | (with_reducible first | exact HB.out | apply below_alloc | apply pw_below_drewN | apply below_drew1 | refine below_set ?_ GE337.out | refine below_set ?_ GE343.out) | exact HB.out)) hb)
              clear HO_13
              clear HO346
              clear HO349
              clear BK337
              clear BK343
              clear HB
              have HO_13 := n0_
              have HO346 := n1_
              have HO349 := n2_
              have HO352 := n3_
              have BK337 := n4_
              have BK343 := n5_
              have HB := n6_
              clear n0_ n1_ n2_ n3_ n4_ n5_ n6_
              clear hb ho32
              refine hK.out _ _ ⟨(blk_cell BK343.out 0).trans rfl, (blk_cell BK343.out 1).trans rfl⟩ (fun hHeld => ?_)
              clear hK K
              refine norm_ (a' := ?_) ?_ ?_
              rotate_left
              ·show Act.put _ (some 52) _ = _
               simp only [Act.put, List.setIfInBounds_toArray, List.set_cons_zero, List.set_cons_succ, i64_w, i32_w]
               rfl
              exact norm_ (by simp only [putAll, Act.put, List.setIfInBounds_toArray, List.set_cons_zero, List.set_cons_succ]) (hCont (.slice Ao30 y344.length co30, v348, v351) _ ⟨hHeld, (by (with_reducible repeat (first | apply Kd.R_alloc | apply Kd.R_drewN | apply Kd.R_drew)); exact Kd.R_mono HO346.out (fun _ hk => hk.2)), (by (with_reducible repeat (first | apply Kd.R_alloc | apply Kd.R_drewN | apply Kd.R_drew)); exact HO349.out), (by (with_reducible repeat (first | apply Kd.R_alloc | apply Kd.R_drewN | apply Kd.R_drew)); exact Kd.R_mono HO352.out (fun _ hk => hk.2)), (by (with_reducible repeat (first | apply Kd.R_alloc | apply Kd.R_drewN | apply Kd.R_drew)); exact Kd.R_mono HO_13.out (fun _ hk => hk.2)), (by (with_reducible repeat (first | refine blk_drewN ?_ _ | refine blk_drew ?_ | refine blk_alloc ?_ _)); exact BK337.out), (by (with_reducible repeat (first | refine blk_drewN ?_ _ | refine blk_drew ?_ | refine blk_alloc ?_ _)); exact BK343.out), (by repeat (first | (with_reducible first | exact HB.out | apply below_alloc | apply pw_below_drewN | apply below_drew1 | refine below_set ?_ GE337.out | refine below_set ?_ GE343.out) | exact HB.out))⟩)
             ·skip
              refine Kd.R_lit_step Kd.string _ 9 ?hg (N := 52) ?hd (xs := ([(rd_T62 y338 x40_1).f1] : List ByteArray)) (inner := [.string ((rd_T62 y338 x40_1).f1)]) (ok := fun _ => True) (okp := fun _ => True) ?hr ?hp (fun _ hk => hk) trivial (Below.refl _ _) (Nat.le_refl _) (by simp) ?_; (case hd => rfl); (case hg => rfl); (case hr => first | (go_simp; done) | (go_simp; rfl)); (case hp => exact (Reps.one (show Kd.M Kd.string _ _ _ ((rd_T62 y338 x40_1).f1) [.string ((rd_T62 y338 x40_1).f1)] from rfl) (Reps.none _ _)))
              intro v351 w29 ho30 hb hg_ hnew_
              clear hg_ hnew_
              (first | rw [← Ny350.out] at ho30 | (simp only [Int.reduceToNat] at ho30; rw [← Ny350.out] at ho30))
              have n0_ := Aside0.mk (Kd.R_below (by (with_reducible repeat (first | apply Kd.R_alloc | apply Kd.R_drewN | apply Kd.R_drew)); exact HO_12.out) hb)
              have n1_ := Aside0.mk (Kd.R_elder' (by (with_reducible repeat (first | apply Kd.R_alloc | apply Kd.R_drewN | apply Kd.R_drew)); exact HO_13.out) (Kd.R_base ho30) hb)
              have n2_ := Aside0.mk (Kd.R_below (by (with_reducible repeat (first | apply Kd.R_alloc | apply Kd.R_drewN | apply Kd.R_drew)); exact HO346.out) hb)
              have n3_ := Aside0.mk (Kd.R_lower (Kd.R_new' ho30 (Kd.R_lt (by (with_reducible repeat (first | apply Kd.R_alloc | apply Kd.R_drewN | apply Kd.R_drew)); exact HO_13.out))) (below_size (by repeat (first | (with_reducible first | exact HB.out | apply below_alloc | apply pw_below_drewN | apply below_drew1 | refine below_set ?_ GE337.out | refine below_set ?_ GE343.out) | exact HB.out))))
              have n4_ := Aside0.mk (blk_below (g := gb337) (o := .cells #[.int .i64 t333, .int .i64 t334, .string t335] 74 (0, 0)) (by (with_reducible repeat (first | refine blk_drewN ?_ _ | refine blk_drew ?_ | refine blk_alloc ?_ _)); exact BK337.out) hb)
              have n5_ := Aside0.mk (blk_below (g := gb343) (o := .cells #[.int .i64 ((rd_T62 y338 x40_1).f0), .string ((rd_T62 y338 x40_1).f1)] 62 (0, 0)) (by (with_reducible repeat (first | refine blk_drewN ?_ _ | refine blk_drew ?_ | refine blk_alloc ?_ _)); exact BK343.out) hb)
              have n6_ := Aside0.mk (below_step (by repeat (first | (with_reducible first | exact HB.out | apply below_alloc | apply pw_below_drewN | apply below_drew1 | refine below_set ?_ GE337.out | refine below_set ?_ GE343.out) | exact HB.out)) hb)
              clear HO_12
              clear HO_13
              clear HO346
              clear BK337
              clear BK343
              clear HB
              have HO_12 := n0_
              have HO_13 := n1_
              have HO346 := n2_
              have HO352 := n3_
              have BK337 := n4_
              have BK343 := n5_
              have HB := n6_
              clear n0_ n1_ n2_ n3_ n4_ n5_ n6_
              clear hb ho30
              obtain ⟨Ao32, co32, eo32⟩ := Kd.R_slice HO346.out
              (first | subst eo32 | (injection eo32 with f1_ f2_ f3_; have f4_ := f1_.symm; have f5_ := f3_.symm; clear f1_ f2_ f3_; subst f4_; subst f5_))
              refine hK.out _ _ ⟨(blk_cell BK343.out 0).trans rfl, (blk_cell BK343.out 1).trans rfl⟩ (fun hHeld => ?_)
              clear hK K
              refine norm_ (a' := ?_) ?_ ?_
              rotate_left
              ·show Act.put _ (some 52) _ = _
               simp only [Act.put, List.setIfInBounds_toArray, List.set_cons_zero, List.set_cons_succ, i64_w, i32_w]
               rfl
              refine one_ (i := 4) (N := some 48) #[true, true, true, true, true, true, true, true, true, false, false, false] rfl rfl (one_of HT_.out (by kernel_rfl)) (by decide) (fun K hK => ?_)
              refine Kd.R_append_rows_step (Kd.int .i64) (w0 := w) w.heap.size (by rfl) (.tmp 44) (.tmp 47) 56 3 (.int .i64 0) 8 rfl Tryd.underlying56 info3 rfl (by decide) (by omega) (.slice Ao23 x12_1.length co23) x12_1 y344 _ _ _ (fun k_ => some k_ ≠ (.slice Ao32 y344.length co32 : Value).ownBlock) (fun _ => False) rfl rfl ?aO ?aR (fun _ _ h => h) (fun _ h => h.elim) ?aF ?aB ?aS ?aL ?_
              (case aR => repeat (first | exact (Kd.R_reads' HO346.out).2.2 | (with_reducible refine Kd.C_alloc ?_ _) | (with_reducible refine Kd.C_drewN ?_ _) | (with_reducible refine Kd.C_drew ?_)))
              (case aB => exact (by repeat (first | (with_reducible first | exact HB.out | apply below_alloc | apply pw_below_drewN | apply below_drew1 | refine below_set ?_ GE337.out | refine below_set ?_ GE343.out) | exact HB.out)))
              (case aF => exact (fun k_ hk => Kd.fresh' (Kd.R_lt (by (with_reducible repeat (first | apply Kd.R_alloc | apply Kd.R_drewN | apply Kd.R_drew)); exact HO346.out)) k_ hk))
              (case aO => exact (by (with_reducible repeat (first | apply Kd.R_alloc | apply Kd.R_drewN | apply Kd.R_drew)); exact Kd.R_mono HO_12.out (fun _ hk => hk.2)))
              (case aS => exact (below_size (by repeat (first | (with_reducible first | exact HB.out | apply below_alloc | apply pw_below_drewN | apply below_drew1 | refine below_set ?_ GE337.out | refine below_set ?_ GE343.out) | exact HB.out))))
              (case aL => have := LMc18.out; omega)
              intro v348 w31 ho hb hg hat
              rw [← Ny347.out] at ho
              have n0_ := Aside0.mk (Kd.R_over' (by (with_reducible repeat (first | apply Kd.R_alloc | apply Kd.R_drewN | apply Kd.R_drew)); exact HO_13.out) (Kd.R_typed (by (with_reducible repeat (first | apply Kd.R_alloc | apply Kd.R_drewN | apply Kd.R_drew)); exact HO_12.out)) (by decide) hg)
              have n1_ := Aside0.mk (blk_grown (g := gb337) (o := .cells #[.int .i64 t333, .int .i64 t334, .string t335] 74 (0, 0)) (by (with_reducible repeat (first | refine blk_drewN ?_ _ | refine blk_drew ?_ | refine blk_alloc ?_ _)); exact BK337.out) hg (Kd.R_ne HO_12.out BK337.out (by decide)))
              have n2_ := Aside0.mk (blk_grown (g := gb343) (o := .cells #[.int .i64 ((rd_T62 y338 x40_1).f0), .string ((rd_T62 y338 x40_1).f1)] 62 (0, 0)) (by (with_reducible repeat (first | refine blk_drewN ?_ _ | refine blk_drew ?_ | refine blk_alloc ?_ _)); exact BK343.out) hg (Kd.R_ne HO_12.out BK343.out (by decide)))
              have n3_ := Aside0.mk (Kd.R_after (ok := (fun _ => True)) (by (with_reducible repeat (first | apply Kd.R_alloc | apply Kd.R_drewN | apply Kd.R_drew)); exact HO346.out) hg hat)
              have n4_ := Aside0.mk (Kd.R_over' (by (with_reducible repeat (first | apply Kd.R_alloc | apply Kd.R_drewN | apply Kd.R_drew)); exact HO352.out) (Kd.R_typed (by (with_reducible repeat (first | apply Kd.R_alloc | apply Kd.R_drewN | apply Kd.R_drew)); exact HO_12.out)) (by decide) hg)
              have n5_ := Aside0.mk (hb)
              have n6_ := Aside0.mk (ho)
              clear HO_13
              clear BK337
              clear BK343
              clear HO346
              clear HO352
              clear HB
              clear HO_12
              have HO_13 := n0_
              have BK337 := n1_
              have BK343 := n2_
              have HO346 := n3_
              have HO352 := n4_
              have HB := n5_
              have HO349 := n6_
              clear n0_ n1_ n2_ n3_ n4_ n5_ n6_
              clear ho hb hg hat
              refine hK.out _ _ ⟨(blk_cell BK343.out 0).trans rfl, (blk_cell BK343.out 1).trans rfl⟩ (fun hHeld => ?_)
              clear hK K
              refine norm_ (a' := ?_) ?_ ?_
              rotate_left
              ·show Act.put _ (some 48) _ = _
               simp only [Act.put, List.setIfInBounds_toArray, List.set_cons_zero, List.set_cons_succ, i64_w, i32_w]
               rfl
              exact norm_ (by simp only [putAll, Act.put, List.setIfInBounds_toArray, List.set_cons_zero, List.set_cons_succ]) (hCont (.slice Ao32 y344.length co32, v348, v351) _ ⟨hHeld, (by (with_reducible repeat (first | apply Kd.R_alloc | apply Kd.R_drewN | apply Kd.R_drew)); exact Kd.R_mono HO346.out (fun _ hk => hk.2)), (by (with_reducible repeat (first | apply Kd.R_alloc | apply Kd.R_drewN | apply Kd.R_drew)); exact HO349.out), (by (with_reducible repeat (first | apply Kd.R_alloc | apply Kd.R_drewN | apply Kd.R_drew)); exact Kd.R_mono HO352.out (fun _ hk => hk.2)), (by (with_reducible repeat (first | apply Kd.R_alloc | apply Kd.R_drewN | apply Kd.R_drew)); exact Kd.R_mono HO_13.out (fun _ hk => hk.2)), (by (with_reducible repeat (first | refine blk_drewN ?_ _ | refine blk_drew ?_ | refine blk_alloc ?_ _)); exact BK337.out), (by (with_reducible repeat (first | refine blk_drewN ?_ _ | refine blk_drew ?_ | refine blk_alloc ?_ _)); exact BK343.out), (by repeat (first | (with_reducible first | exact HB.out | apply below_alloc | apply pw_below_drewN | apply below_drew1 | refine below_set ?_ GE337.out | refine below_set ?_ GE343.out) | exact HB.out))⟩)
            ·skip
             refine Kd.R_lit_step Kd.string _ 9 ?hg (N := 52) ?hd (xs := ([(rd_T62 y338 x40_1).f1] : List ByteArray)) (inner := [.string ((rd_T62 y338 x40_1).f1)]) (ok := fun _ => True) (okp := fun _ => True) ?hr ?hp (fun _ hk => hk) trivial (Below.refl _ _) (Nat.le_refl _) (by simp) ?_; (case hd => rfl); (case hg => rfl); (case hr => first | (go_simp; done) | (go_simp; rfl)); (case hp => exact (Reps.one (show Kd.M Kd.string _ _ _ ((rd_T62 y338 x40_1).f1) [.string ((rd_T62 y338 x40_1).f1)] from rfl) (Reps.none _ _)))
             intro v351 w27 ho28 hb hg_ hnew_
             clear hg_ hnew_
             (first | rw [← Ny350.out] at ho28 | (simp only [Int.reduceToNat] at ho28; rw [← Ny350.out] at ho28))
             have n0_ := Aside0.mk (Kd.R_below (by (with_reducible repeat (first | apply Kd.R_alloc | apply Kd.R_drewN | apply Kd.R_drew)); exact HO_12.out) hb)
             have n1_ := Aside0.mk (Kd.R_elder' (by (with_reducible repeat (first | apply Kd.R_alloc | apply Kd.R_drewN | apply Kd.R_drew)); exact HO_13.out) (Kd.R_base ho28) hb)
             have n2_ := Aside0.mk (Kd.R_lower (Kd.R_new' ho28 (Kd.R_lt (by (with_reducible repeat (first | apply Kd.R_alloc | apply Kd.R_drewN | apply Kd.R_drew)); exact HO_13.out))) (below_size (by repeat (first | (with_reducible first | exact HB.out | apply below_alloc | apply pw_below_drewN | apply below_drew1 | refine below_set ?_ GE337.out | refine below_set ?_ GE343.out) | exact HB.out))))
             have n3_ := Aside0.mk (blk_below (g := gb337) (o := .cells #[.int .i64 t333, .int .i64 t334, .string t335] 74 (0, 0)) (by (with_reducible repeat (first | refine blk_drewN ?_ _ | refine blk_drew ?_ | refine blk_alloc ?_ _)); exact BK337.out) hb)
             have n4_ := Aside0.mk (blk_below (g := gb343) (o := .cells #[.int .i64 ((rd_T62 y338 x40_1).f0), .string ((rd_T62 y338 x40_1).f1)] 62 (0, 0)) (by (with_reducible repeat (first | refine blk_drewN ?_ _ | refine blk_drew ?_ | refine blk_alloc ?_ _)); exact BK343.out) hb)
             have n5_ := Aside0.mk (below_step (by repeat (first | (with_reducible first | exact HB.out | apply below_alloc | apply pw_below_drewN | apply below_drew1 | refine below_set ?_ GE337.out | refine below_set ?_ GE343.out) | exact HB.out)) hb)
             clear HO_12
             clear HO_13
             clear BK337
             clear BK343
             clear HB
             have HO_12 := n0_
             have HO_13 := n1_
             have HO352 := n2_
             have BK337 := n3_
             have BK343 := n4_
             have HB := n5_
             clear n0_ n1_ n2_ n3_ n4_ n5_
             clear hb ho28
             refine hK.out _ _ ⟨(blk_cell BK343.out 0).trans rfl, (blk_cell BK343.out 1).trans rfl⟩ (fun hHeld => ?_)
             clear hK K
             refine norm_ (a' := ?_) ?_ ?_
             rotate_left
             ·show Act.put _ (some 52) _ = _
              simp only [Act.put, List.setIfInBounds_toArray, List.set_cons_zero, List.set_cons_succ, i64_w, i32_w]
              rfl
             refine one_ (i := 3) (N := some 47) #[true, true, true, true, false, true, true, true, true, false, false, false] rfl rfl (one_of HT_.out (by kernel_rfl)) (by decide) (fun K hK => ?_)
             refine Kd.R_lit_step (Kd.int .i64) _ 3 ?hg (N := 47) ?hd (xs := ([(rd_T62 y338 x40_1).f0] : List Int)) (inner := [.int .i64 ((rd_T62 y338 x40_1).f0)]) (ok := fun _ => True) (okp := fun _ => True) ?hr ?hp (fun _ hk => hk) trivial (Below.refl _ _) (Nat.le_refl _) (by simp) ?_; (case hd => rfl); (case hg => rfl); (case hr => first | (go_simp; done) | (go_simp; rfl)); (case hp => exact (Reps.one (show Kd.M (Kd.int .i64) _ _ _ ((rd_T62 y338 x40_1).f0) [.int .i64 ((rd_T62 y338 x40_1).f0)] from rfl) (Reps.none _ _)))
             intro v345 w29 ho30 hb hg_ hnew_
             clear hg_ hnew_
             (first | rw [← Ny344.out] at ho30 | (simp only [Int.reduceToNat] at ho30; rw [← Ny344.out] at ho30))
             have n0_ := Aside0.mk (Kd.R_elder' (by (with_reducible repeat (first | apply Kd.R_alloc | apply Kd.R_drewN | apply Kd.R_drew)); exact HO_12.out) (Kd.R_base ho30) hb)
             have n1_ := Aside0.mk (Kd.R_below (by (with_reducible repeat (first | apply Kd.R_alloc | apply Kd.R_drewN | apply Kd.R_drew)); exact HO_13.out) hb)
             have n2_ := Aside0.mk (Kd.R_below (by (with_reducible repeat (first | apply Kd.R_alloc | apply Kd.R_drewN | apply Kd.R_drew)); exact HO352.out) hb)
             have n3_ := Aside0.mk (Kd.R_lower (Kd.R_new' ho30 (Kd.R_lt (by (with_reducible repeat (first | apply Kd.R_alloc | apply Kd.R_drewN | apply Kd.R_drew)); exact HO_12.out))) (below_size (by repeat (first | (with_reducible first | exact HB.out | apply below_alloc | apply pw_below_drewN | apply below_drew1 | refine below_set ?_ GE337.out | refine below_set ?_ GE343.out) | exact HB.out))))
             have n4_ := Aside0.mk (blk_below (g := gb337) (o := .cells #[.int .i64 t333, .int .i64 t334, .string t335] 74 (0, 0)) (by (with_reducible repeat (first | refine blk_drewN ?_ _ | refine blk_drew ?_ | refine blk_alloc ?_ _)); exact BK337.out) hb)
             have n5_ := Aside0.mk (blk_below (g := gb343) (o := .cells #[.int .i64 ((rd_T62 y338 x40_1).f0), .string ((rd_T62 y338 x40_1).f1)] 62 (0, 0)) (by (with_reducible repeat (first | refine blk_drewN ?_ _ | refine blk_drew ?_ | refine blk_alloc ?_ _)); exact BK343.out) hb)
             have n6_ := Aside0.mk (below_step (by repeat (first | (with_reducible first | exact HB.out | apply below_alloc | apply pw_below_drewN | apply below_drew1 | refine below_set ?_ GE337.out | refine below_set ?_ GE343.out) | exact HB.out)) hb)
             clear HO_12
             clear HO_13
             clear HO352
             clear BK337
             clear BK343
             clear HB
             have HO_12 := n0_
             have HO_13 := n1_
             have HO352 := n2_
             have HO346 := n3_
             have BK337 := n4_
             have BK343 := n5_
             have HB := n6_
             clear n0_ n1_ n2_ n3_ n4_ n5_ n6_
             clear hb ho30
             obtain ⟨Ao32, co32, eo32⟩ := Kd.R_slice HO346.out
             (first | subst eo32 | (injection eo32 with f1_ f2_ f3_; have f4_ := f1_.symm; have f5_ := f3_.symm; clear f1_ f2_ f3_; subst f4_; subst f5_))
             refine hK.out _ _ ⟨(blk_cell BK343.out 0).trans rfl, (blk_cell BK343.out 1).trans rfl⟩ (fun hHeld => ?_)
             clear hK K
             refine norm_ (a' := ?_) ?_ ?_
             rotate_left
             ·show Act.put _ (some 47) _ = _
              simp only [Act.put, List.setIfInBounds_toArray, List.set_cons_zero, List.set_cons_succ, i64_w, i32_w]
              rfl
             refine one_ (i := 4) (N := some 48) #[true, true, true, true, true, true, true, true, true, false, false, false] rfl rfl (one_of HT_.out (by kernel_rfl)) (by decide) (fun K hK => ?_)
             refine Kd.R_append_rows_step (Kd.int .i64) (w0 := w) w.heap.size (by rfl) (.tmp 44) (.tmp 47) 56 3 (.int .i64 0) 8 rfl Tryd.underlying56 info3 rfl (by decide) (by omega) (.slice Ao23 x12_1.length co23) x12_1 y344 _ _ _ (fun k_ => some k_ ≠ (.slice Ao32 y344.length co32 : Value).ownBlock) (fun _ => False) rfl rfl ?aO ?aR (fun _ _ h => h) (fun _ h => h.elim) ?aF ?aB ?aS ?aL ?_
             (case aR => repeat (first | exact (Kd.R_reads' HO346.out).2.2 | (with_reducible refine Kd.C_alloc ?_ _) | (with_reducible refine Kd.C_drewN ?_ _) | (with_reducible refine Kd.C_drew ?_)))
             (case aB => exact (by repeat (first | (with_reducible first | exact HB.out | apply below_alloc | apply pw_below_drewN | apply below_drew1 | refine below_set ?_ GE337.out | refine below_set ?_ GE343.out) | exact HB.out)))
             (case aF => exact (fun k_ hk => Kd.fresh' (Kd.R_lt (by (with_reducible repeat (first | apply Kd.R_alloc | apply Kd.R_drewN | apply Kd.R_drew)); exact HO346.out)) k_ hk))
             (case aO => exact (by (with_reducible repeat (first | apply Kd.R_alloc | apply Kd.R_drewN | apply Kd.R_drew)); exact Kd.R_mono HO_12.out (fun _ hk => hk.2)))
             (case aS => exact (below_size (by repeat (first | (with_reducible first | exact HB.out | apply below_alloc | apply pw_below_drewN | apply below_drew1 | refine below_set ?_ GE337.out | refine below_set ?_ GE343.out) | exact HB.out))))
             (case aL => have := LMc18.out; omega)
             intro v348 w31 ho hb hg hat
             rw [← Ny347.out] at ho
             have n0_ := Aside0.mk (Kd.R_over' (by (with_reducible repeat (first | apply Kd.R_alloc | apply Kd.R_drewN | apply Kd.R_drew)); exact HO_13.out) (Kd.R_typed (by (with_reducible repeat (first | apply Kd.R_alloc | apply Kd.R_drewN | apply Kd.R_drew)); exact HO_12.out)) (by decide) hg)
             have n1_ := Aside0.mk (blk_grown (g := gb337) (o := .cells #[.int .i64 t333, .int .i64 t334, .string t335] 74 (0, 0)) (by (with_reducible repeat (first | refine blk_drewN ?_ _ | refine blk_drew ?_ | refine blk_alloc ?_ _)); exact BK337.out) hg (Kd.R_ne HO_12.out BK337.out (by decide)))
             have n2_ := Aside0.mk (blk_grown (g := gb343) (o := .cells #[.int .i64 ((rd_T62 y338 x40_1).f0), .string ((rd_T62 y338 x40_1).f1)] 62 (0, 0)) (by (with_reducible repeat (first | refine blk_drewN ?_ _ | refine blk_drew ?_ | refine blk_alloc ?_ _)); exact BK343.out) hg (Kd.R_ne HO_12.out BK343.out (by decide)))
             have n3_ := Aside0.mk (Kd.R_over' (by (with_reducible repeat (first | apply Kd.R_alloc | apply Kd.R_drewN | apply Kd.R_drew)); exact HO352.out) (Kd.R_typed (by (with_reducible repeat (first | apply Kd.R_alloc | apply Kd.R_drewN | apply Kd.R_drew)); exact HO_12.out)) (by decide) hg)
             have n4_ := Aside0.mk (Kd.R_after (ok := (fun _ => True)) (by (with_reducible repeat (first | apply Kd.R_alloc | apply Kd.R_drewN | apply Kd.R_drew)); exact HO346.out) hg hat)
             have n5_ := Aside0.mk (hb)
             have n6_ := Aside0.mk (ho)
             clear HO_13
             clear BK337
             clear BK343
             clear HO352
             clear HO346
             clear HB
             clear HO_12
             have HO_13 := n0_
             have BK337 := n1_
             have BK343 := n2_
             have HO352 := n3_
             have HO346 := n4_
             have HB := n5_
             have HO349 := n6_
             clear n0_ n1_ n2_ n3_ n4_ n5_ n6_
             clear ho hb hg hat
             refine hK.out _ _ ⟨(blk_cell BK343.out 0).trans rfl, (blk_cell BK343.out 1).trans rfl⟩ (fun hHeld => ?_)
             clear hK K
             refine norm_ (a' := ?_) ?_ ?_
             rotate_left
             ·show Act.put _ (some 48) _ = _
              simp only [Act.put, List.setIfInBounds_toArray, List.set_cons_zero, List.set_cons_succ, i64_w, i32_w]
              rfl
             exact norm_ (by simp only [putAll, Act.put, List.setIfInBounds_toArray, List.set_cons_zero, List.set_cons_succ]) (hCont (.slice Ao32 y344.length co32, v348, v351) _ ⟨hHeld, (by (with_reducible repeat (first | apply Kd.R_alloc | apply Kd.R_drewN | apply Kd.R_drew)); exact Kd.R_mono HO346.out (fun _ hk => hk.2)), (by (with_reducible repeat (first | apply Kd.R_alloc | apply Kd.R_drewN | apply Kd.R_drew)); exact HO349.out), (by (with_reducible repeat (first | apply Kd.R_alloc | apply Kd.R_drewN | apply Kd.R_drew)); exact Kd.R_mono HO352.out (fun _ hk => hk.2)), (by (with_reducible repeat (first | apply Kd.R_alloc | apply Kd.R_drewN | apply Kd.R_drew)); exact Kd.R_mono HO_13.out (fun _ hk => hk.2)), (by (with_reducible repeat (first | refine blk_drewN ?_ _ | refine blk_drew ?_ | refine blk_alloc ?_ _)); exact BK337.out), (by (with_reducible repeat (first | refine blk_drewN ?_ _ | refine blk_drew ?_ | refine blk_alloc ?_ _)); exact BK343.out), (by repeat (first | (with_reducible first | exact HB.out | apply below_alloc | apply pw_below_drewN | apply below_drew1 | refine below_set ?_ GE337.out | refine below_set ?_ GE343.out) | exact HB.out))⟩)
           rintro ⟨v345, v348, v351⟩ w33 ⟨hS_, h0_, h1_, h2_, h3_, h4_, h5_, h6_⟩
           have n0_ : Aside0 (Kd.R (Kd.int .i64) 3 w33 w.heap.size (fun k_ => some k_ ≠ (v348 : Value).ownBlock) v345 y344) := ⟨h0_⟩
           have n1_ : Aside0 (Kd.R (Kd.int .i64) 3 w33 w.heap.size (fun k_ => some k_ ≠ (v345 : Value).ownBlock) v348 y347) := ⟨h1_⟩
           have n2_ : Aside0 (Kd.R Kd.string 9 w33 w.heap.size (fun k_ => some k_ ≠ (.slice Ao24 x13_1.length co24 : Value).ownBlock) v351 y350) := ⟨h2_⟩
           have n3_ : Aside0 (Kd.R Kd.string 9 w33 w.heap.size (fun k_ => some k_ ≠ (v351 : Value).ownBlock) (.slice Ao24 x13_1.length co24) x13_1) := ⟨h3_⟩
           have n4_ : Aside0 (w33.heap[gb337]? = some (.cells #[.int .i64 t333, .int .i64 t334, .string t335] 74 (0, 0))) := ⟨h4_⟩
           have n5_ : Aside0 (w33.heap[gb343]? = some (.cells #[.int .i64 ((rd_T62 y338 x40_1).f0), .string ((rd_T62 y338 x40_1).f1)] 62 (0, 0))) := ⟨h5_⟩
           have n6_ : Aside0 (Below w.heap.size w w33) := ⟨h6_⟩
           clear HO_12
           clear HO_13
           clear BK337
           clear BK343
           clear HB
           clear h0_ h1_ h2_ h3_ h4_ h5_ h6_
           have HO346 := n0_
           have HO349 := n1_
           have HO352 := n2_
           have HO_13 := n3_
           have BK337 := n4_
           have BK343 := n5_
           have HB := n6_
           clear n0_ n1_ n2_ n3_ n4_ n5_ n6_
           have hHeld : w33.cell? ⟨gb343, 0, none⟩ = some (.int .i64 ((rd_T62 y338 x40_1).f0)) ∧ w33.cell? ⟨gb343, 1, none⟩ = some (.string ((rd_T62 y338 x40_1).f1)) := hS_
           obtain ⟨Ao35, co35, eo35⟩ := Kd.R_slice HO352.out
           (first | subst eo35 | (injection eo35 with f1_ f2_ f3_; have f4_ := f1_.symm; have f5_ := f3_.symm; clear f1_ f2_ f3_; subst f4_; subst f5_))
           refine norm_ (a' := ?_) ?_ ?_
           rotate_left
           ·simp only [putAll, Act.put, List.setIfInBounds_toArray, List.set_cons_zero, List.set_cons_succ]
            rfl
           refine one_ (i := 9) (N := some 53) #[true, true, true, true, true, true, true, true, true, true, false, false] rfl rfl (one_of HT_.out (by kernel_rfl)) (by decide) (fun K hK => ?_)
           refine Kd.R_append_rows_step Kd.string (w0 := w) w.heap.size (by rfl) (.tmp 49) (.tmp 52) 25 9 (.string ⟨#[]⟩) 16 rfl Tryd.underlying25 info9 rfl (by decide) (by omega) (.slice Ao24 x13_1.length co24) x13_1 y350 _ _ _ (fun k_ => some k_ ≠ (.slice Ao35 y350.length co35 : Value).ownBlock) (fun _ => False) rfl rfl ?aO ?aR (fun _ _ h => h) (fun _ h => h.elim) ?aF ?aB ?aS ?aL ?_
           (case aR => repeat (first | exact (Kd.R_reads' HO352.out).2.2 | (with_reducible refine Kd.C_alloc ?_ _) | (with_reducible refine Kd.C_drewN ?_ _) | (with_reducible refine Kd.C_drew ?_)))
           (case aB => exact (by repeat (first | (with_reducible first | exact HB.out | apply below_alloc | apply pw_below_drewN | apply below_drew1 | refine below_set ?_ GE337.out | refine below_set ?_ GE343.out) | exact HB.out)))
           (case aF => exact (fun k_ hk => Kd.fresh' (Kd.R_lt (by (with_reducible repeat (first | apply Kd.R_alloc | apply Kd.R_drewN | apply Kd.R_drew)); exact HO352.out)) k_ hk))
           (case aO => exact (by (with_reducible repeat (first | apply Kd.R_alloc | apply Kd.R_drewN | apply Kd.R_drew)); exact HO_13.out))
           (case aS => exact (below_size (by repeat (first | (with_reducible first | exact HB.out | apply below_alloc | apply pw_below_drewN | apply below_drew1 | refine below_set ?_ GE337.out | refine below_set ?_ GE343.out) | exact HB.out))))
           (case aL => have := LMc19.out; omega)
           intro v354 w34 ho hb hg hat
           rw [← Ny353.out] at ho
           have n0_ := Aside0.mk (blk_grown (g := gb337) (o := .cells #[.int .i64 t333, .int .i64 t334, .string t335] 74 (0, 0)) (by (with_reducible repeat (first | refine blk_drewN ?_ _ | refine blk_drew ?_ | refine blk_alloc ?_ _)); exact BK337.out) hg (Kd.R_ne HO_13.out BK337.out (by decide)))
           have n1_ := Aside0.mk (blk_grown (g := gb343) (o := .cells #[.int .i64 ((rd_T62 y338 x40_1).f0), .string ((rd_T62 y338 x40_1).f1)] 62 (0, 0)) (by (with_reducible repeat (first | refine blk_drewN ?_ _ | refine blk_drew ?_ | refine blk_alloc ?_ _)); exact BK343.out) hg (Kd.R_ne HO_13.out BK343.out (by decide)))
           have n2_ := Aside0.mk (Kd.R_over' (by (with_reducible repeat (first | apply Kd.R_alloc | apply Kd.R_drewN | apply Kd.R_drew)); exact HO346.out) (Kd.R_typed (by (with_reducible repeat (first | apply Kd.R_alloc | apply Kd.R_drewN | apply Kd.R_drew)); exact HO_13.out)) (by decide) hg)
           have n3_ := Aside0.mk (Kd.R_over' (by (with_reducible repeat (first | apply Kd.R_alloc | apply Kd.R_drewN | apply Kd.R_drew)); exact HO349.out) (Kd.R_typed (by (with_reducible repeat (first | apply Kd.R_alloc | apply Kd.R_drewN | apply Kd.R_drew)); exact HO_13.out)) (by decide) hg)
           have n4_ := Aside0.mk (Kd.R_after (ok := (fun _ => True)) (by (with_reducible repeat (first | apply Kd.R_alloc | apply Kd.R_drewN | apply Kd.R_drew)); exact Kd.R_mono HO352.out (fun _ hk => ⟨trivial, hk⟩)) hg hat)
           have n5_ := Aside0.mk (hb)
           have n6_ := Aside0.mk (ho)
           clear BK337
           clear BK343
           clear HO346
           clear HO349
           clear HO352
           clear HB
           clear HO_13
           have BK337 := n0_
           have BK343 := n1_
           have HO346 := n2_
           have HO349 := n3_
           have HO352 := n4_
           have HB := n5_
           have HO355 := n6_
           clear n0_ n1_ n2_ n3_ n4_ n5_ n6_
           clear ho hb hg hat
           refine hK.out _ _ ⟨(blk_cell BK343.out 0).trans rfl, (blk_cell BK343.out 1).trans rfl⟩ (fun hHeld => ?_)
           clear hK K
           refine norm_ (a' := ?_) ?_ ?_
           rotate_left
           ·show Act.put _ (some 53) _ = _
            simp only [Act.put, List.setIfInBounds_toArray, List.set_cons_zero, List.set_cons_succ, i64_w, i32_w]
            rfl
           refine pure_ (i := 10) (N := some 12) (v := ?_) (a' := ?_) #[true, true, true, true, true, true, true, true, true, true, true, false] rfl rfl (any_of HT_.out (by kernel_rfl)) (fun _ _ _ h => h) (Or.inl ⟨by rfl, ?_⟩) ?_ ?_
           rotate_left
           ·intro w'
            go_simp
            with_reducible rfl
           rotate_left
           ·simp only [Act.put, List.setIfInBounds_toArray, List.set_cons_zero, List.set_cons_succ, i64_w, i32_w]
            rfl
           refine pure_ (i := 11) (N := some 13) (v := ?_) (a' := ?_) #[true, true, true, true, true, true, true, true, true, true, true, true] rfl rfl (any_of HT_.out (by kernel_rfl)) (fun _ _ _ h => h) (Or.inl ⟨by rfl, ?_⟩) ?_ ?_
           rotate_left
           ·intro w'
            go_simp
            with_reducible rfl
           rotate_left
           ·simp only [Act.put, List.setIfInBounds_toArray, List.set_cons_zero, List.set_cons_succ, i64_w, i32_w]
            rfl
           refine done_ (done_of HT_.out (by kernel_rfl)) ?_
           try go_wp2
           go_roundg k1
           case measure => have := HK1.out; omega
           case rel => exact ⟨(y347), (y353), (wrap64 (x40_1 + 1)), (by first | rfl | (simp; done) | (simp [*]; done)), H', ⟨by have := HK1.out; omega⟩, ⟨by (with_reducible repeat (first | apply Kd.R_alloc | apply Kd.R_drewN | apply Kd.R_drew)); exact Kd.R_mono HO349.out (fun _ hk => trivial)⟩, ⟨by (with_reducible repeat (first | apply Kd.R_alloc | apply Kd.R_drewN | apply Kd.R_drew)); exact Kd.R_mono HO355.out (fun _ hk => trivial)⟩, ⟨by (with_reducible repeat (first | refine blk_drewN ?_ _ | refine blk_drew ?_ | refine blk_alloc ?_ _)); exact BK337.out⟩, ⟨by repeat (first | (with_reducible first | exact HB.out | apply below_alloc | apply pw_below_drewN | apply below_drew1 | refine below_set ?_ GE337.out | refine below_set ?_ GE343.out) | exact HB.out)⟩⟩
          ·rw [if_neg c19] at H
           exact absurd H (by simp)
         ·rw [if_neg c18] at H
          exact absurd H (by simp)
        ·rw [if_neg c17] at H
         exact absurd H (by simp)
       ·rw [if_neg c16] at H
        exact absurd H (by simp)
      ·rw [if_neg c15] at H
       have c15b0 : decide (x40_1 < (y338.length : Int)) = false := decide_eq_false c15
       clear c15
       replace H := Option.bind_eq_some_iff.mp H
       obtain ⟨⟨t356, t357, t358, t359⟩, A360, H⟩ := H
       replace H : ((matrix_Inverse.f t356 t357 t358).bind fun bt361 => (if bt361.2.2.2 = 0 then ((mend_under.f bt361.1 bt361.2.1 bt361.2.2.1 x13_1).bind fun t366 => (some (t366, 0))) else (some (([] : List ByteArray), bt361.2.2.2)))) = some (r1, r2) := H
       have A36 := Aside0.mk A360
       clear A360
       replace H := Option.bind_eq_some_iff.mp H
       obtain ⟨⟨t361, t362, t363, t364⟩, A370, H⟩ := H
       replace H : (if t364 = 0 then ((mend_under.f t361 t362 t363 x13_1).bind fun t366 => (some (t366, 0))) else (some (([] : List ByteArray), t364))) = some (r1, r2) := H
       have A37 := Aside0.mk A370
       clear A370
       by_cases c38 : t364 = 0
       ·rw [if_pos c38] at H
        have c38b0 : (t364 == 0) = true := beq_iff_eq.mpr c38
        have c38b1 : (t364 != 0) = false := bne_eq_false_iff_eq.mpr c38
        clear c38
        replace H := Option.bind_eq_some_iff.mp H
        obtain ⟨t366, A390, H⟩ := H
        replace H : (some (t366, 0)) = some (r1, r2) := H
        have A39 := Aside0.mk A390
        clear A390
        simp only [Option.some.injEq, Prod.mk.injEq] at H
        obtain ⟨rfl, rfl⟩ := H
        have hcz40_0 : wr.cell? ⟨gb337, 0, none⟩ = some (.int .i64 t333) := (blk_cell BK337.out 0).trans rfl
        have hcz40_1 : wr.cell? ⟨gb337, 1, none⟩ = some (.int .i64 t334) := (blk_cell BK337.out 1).trans rfl
        have hcz40_2 : wr.cell? ⟨gb337, 2, none⟩ = some (.string t335) := (blk_cell BK337.out 2).trans rfl
        have hfz40_0 := blk_frozen BK337.out 0
        have hfz40_1 := blk_frozen BK337.out 1
        have hfz40_2 := blk_frozen BK337.out 2
        obtain ⟨Ao41, co41, eo41⟩ := Kd.R_slice HO_12.out
        subst eo41
        go_wp2_with (first | ((with_reducible refine gate_callee (f := 60) rfl ?_); refine goesL_ (some 58) rfl rfl Tryd.func60 (by kernel_rfl) rfl #[.agg #[.int .i64 t333, .int .i64 t334, .string t335], .slice Ao41 x12_1.length co41] rfl (by (try simp only [List.map_toArray, List.map_cons, List.map_nil]); first | done | rfl | (simp only [List.length_drop, List.length_take]; rfl)) ?_; (with_reducible refine (matrix_Pick.calls t333 t334 t335 _ _ x12_1 t356 t357 t358 t359 _ ?side1 ?side2 A36.out).mono ?_); (case side1 => repeat (first | exact (Kd.R_reads' HO_12.out).2.2 | (with_reducible refine Kd.C_alloc ?_ _) | (with_reducible refine Kd.C_drewN ?_ _) | (with_reducible refine Kd.C_drew ?_))); (case side2 => exact (Kd.R_reads' HO_12.out).2.1); rintro e w42 ⟨rfl, hb⟩; refine ⟨_, rfl, ?_⟩; have n0_ := Aside0.mk (Kd.R_below (by (with_reducible repeat (first | apply Kd.R_alloc | apply Kd.R_drewN | apply Kd.R_drew)); exact HO_12.out) hb); have n1_ := Aside0.mk (Kd.R_below (by (with_reducible repeat (first | apply Kd.R_alloc | apply Kd.R_drewN | apply Kd.R_drew)); exact HO_13.out) hb); have n2_ := Aside0.mk (blk_below (g := gb337) (o := .cells #[.int .i64 t333, .int .i64 t334, .string t335] 74 (0, 0)) (by (with_reducible repeat (first | refine blk_drewN ?_ _ | refine blk_drew ?_ | refine blk_alloc ?_ _)); exact BK337.out) hb); have n3_ := Aside0.mk (below_step (by repeat (first | (with_reducible first | exact HB.out | apply below_alloc | apply pw_below_drewN | apply below_drew1 | refine below_set ?_ GE337.out) | exact HB.out)) hb); clear HO_12; clear HO_13; clear BK337; clear HB; have HO_12 := n0_; have HO_13 := n1_; have BK337 := n2_; have HB := n3_; clear n0_ n1_ n2_ n3_; (try clear hb); (try clear hb2); (try clear hk); (try clear hi)) | ((with_reducible refine gate_dst (N := 16) rfl ?_); refine box_event ?hg (N := 16) ?hd (cs := #[.int .i64 0, .int .i64 0, .string (⟨#[]⟩ : ByteArray)]) (t := 74) ?hr ?_; (case hd => rfl); (case hg => rfl); (case hr => first | (go_simp; done) | (go_simp; rfl)); intro gb360 hg w43 hbox hb; have n0_ := Aside0.mk (Kd.R_below (by (with_reducible repeat (first | apply Kd.R_alloc | apply Kd.R_drewN | apply Kd.R_drew)); exact HO_12.out) hb); have n1_ := Aside0.mk (Kd.R_below (by (with_reducible repeat (first | apply Kd.R_alloc | apply Kd.R_drewN | apply Kd.R_drew)); exact HO_13.out) hb); have n2_ := Aside0.mk (blk_below (g := gb337) (o := .cells #[.int .i64 t333, .int .i64 t334, .string t335] 74 (0, 0)) (by (with_reducible repeat (first | refine blk_drewN ?_ _ | refine blk_drew ?_ | refine blk_alloc ?_ _)); exact BK337.out) hb); have n3_ := Aside0.mk (below_step (by repeat (first | (with_reducible first | exact HB.out | apply below_alloc | apply pw_below_drewN | apply below_drew1 | refine below_set ?_ GE337.out) | exact HB.out)) hb); have n4_ := Aside0.mk (hbox); have n5_ := Aside0.mk ((by rw [hg]; exact (below_size (by repeat (first | (with_reducible first | exact HB.out | apply below_alloc | apply pw_below_drewN | apply below_drew1 | refine below_set ?_ GE337.out) | exact HB.out))) : w.heap.size ≤ gb360)); have n6_ := Aside0.mk ((by rw [hg]; exact (below_size (by repeat (first | (with_reducible first | exact HB.out | apply below_alloc | apply pw_below_drewN | apply below_drew1 | refine below_set ?_ GE337.out) | exact HB.out))) : w.heap.size ≤ gb360)); have n7_ := Aside0.mk ((by rw [hg]; exact Nat.ne_of_lt (blk_lt (g := gb337) (o := .cells #[.int .i64 t333, .int .i64 t334, .string t335] 74 (0, 0)) (by (with_reducible repeat (first | refine blk_drewN ?_ _ | refine blk_drew ?_ | refine blk_alloc ?_ _)); exact BK337.out)) : gb337 ≠ gb360)); have n8_ := Aside0.mk ((by rw [hg]; exact Nat.ne_of_gt (blk_lt (g := gb337) (o := .cells #[.int .i64 t333, .int .i64 t334, .string t335] 74 (0, 0)) (by (with_reducible repeat (first | refine blk_drewN ?_ _ | refine blk_drew ?_ | refine blk_alloc ?_ _)); exact BK337.out)) : gb360 ≠ gb337)); clear HO_12; clear HO_13; clear BK337; clear HB; have HO_12 := n0_; have HO_13 := n1_; have BK337 := n2_; have HB := n3_; have BK360 := n4_; have GW360 := n5_; have GE360 := n6_; have NB337_360 := n7_; have NB360_337 := n8_; clear n0_ n1_ n2_ n3_ n4_ n5_ n6_ n7_ n8_; clear hb hbox hg; have hnb44 := NB360_337.out; have hnc44 := NB337_360.out; have hcz45_0 : w43.cell? ⟨gb360, 0, none⟩ = some (.int .i64 0) := (blk_cell BK360.out 0).trans rfl; have hcz45_1 : w43.cell? ⟨gb360, 1, none⟩ = some (.int .i64 0) := (blk_cell BK360.out 1).trans rfl; have hcz45_2 : w43.cell? ⟨gb360, 2, none⟩ = some (.string (⟨#[]⟩ : ByteArray)) := (blk_cell BK360.out 2).trans rfl; have hfz45_0 := blk_frozen BK360.out 0; have hfz45_1 := blk_frozen BK360.out 1; have hfz45_2 := blk_frozen BK360.out 2) | ((with_reducible refine gate_callee (f := 61) rfl ?_); refine goesL_ (some 63) rfl rfl Tryd.func61 (by kernel_rfl) rfl #[.agg #[.int .i64 t356, .int .i64 t357, .string t358]] rfl (by (try simp only [List.map_toArray, List.map_cons, List.map_nil]); first | done | rfl | (simp only [List.length_drop, List.length_take]; rfl)) ?_; (with_reducible refine (matrix_Inverse.calls t356 t357 t358 t361 t362 t363 t364 _ A37.out).mono ?_); rintro e w46 ⟨rfl, hb⟩; refine ⟨_, rfl, ?_⟩; have n0_ := Aside0.mk (Kd.R_below (by (with_reducible repeat (first | apply Kd.R_alloc | apply Kd.R_drewN | apply Kd.R_drew)); exact (Kd.R_mono (Kd.R_far (p := ⟨gb360, 2, none⟩) (Kd.R_far (p := ⟨gb360, 1, none⟩) (Kd.R_far (p := ⟨gb360, 0, none⟩) (Kd.R_types HO_12.out BK360.out (by decide)) (fun _ hk => hk.2) (.int .i64 t356)) (fun _ hk => hk.2) (.int .i64 t357)) (fun _ hk => hk.2) (.string t358)) (fun _ h_ => h_.1))) hb); have n1_ := Aside0.mk (Kd.R_below (by (with_reducible repeat (first | apply Kd.R_alloc | apply Kd.R_drewN | apply Kd.R_drew)); exact (Kd.R_mono (Kd.R_far (p := ⟨gb360, 2, none⟩) (Kd.R_far (p := ⟨gb360, 1, none⟩) (Kd.R_far (p := ⟨gb360, 0, none⟩) (Kd.R_types HO_13.out BK360.out (by decide)) (fun _ hk => hk.2) (.int .i64 t356)) (fun _ hk => hk.2) (.int .i64 t357)) (fun _ hk => hk.2) (.string t358)) (fun _ h_ => h_.1))) hb); have n2_ := Aside0.mk (blk_below (g := gb337) (o := .cells #[.int .i64 t333, .int .i64 t334, .string t335] 74 (0, 0)) (by (with_reducible repeat (first | refine blk_drewN ?_ _ | refine blk_drew ?_ | refine blk_alloc ?_ _)); refine blk_far ?_ NB337_360.out _; (with_reducible repeat (first | refine blk_drewN ?_ _ | refine blk_drew ?_ | refine blk_alloc ?_ _)); refine blk_far ?_ NB337_360.out _; (with_reducible repeat (first | refine blk_drewN ?_ _ | refine blk_drew ?_ | refine blk_alloc ?_ _)); refine blk_far ?_ NB337_360.out _; (with_reducible repeat (first | refine blk_drewN ?_ _ | refine blk_drew ?_ | refine blk_alloc ?_ _)); exact BK337.out) hb); have n3_ := Aside0.mk (blk_below (g := gb360) (o := .cells #[.int .i64 t356, .int .i64 t357, .string t358] 74 (0, 0)) (by (with_reducible repeat (first | refine blk_drewN ?_ _ | refine blk_drew ?_ | refine blk_alloc ?_ _)); refine blk_put (cs := #[.int .i64 t356, .int .i64 t357, .string (⟨#[]⟩ : ByteArray)]) ?_ 2 _ rfl; (with_reducible repeat (first | refine blk_drewN ?_ _ | refine blk_drew ?_ | refine blk_alloc ?_ _)); refine blk_put (cs := #[.int .i64 t356, .int .i64 0, .string (⟨#[]⟩ : ByteArray)]) ?_ 1 _ rfl; (with_reducible repeat (first | refine blk_drewN ?_ _ | refine blk_drew ?_ | refine blk_alloc ?_ _)); refine blk_put (cs := #[.int .i64 0, .int .i64 0, .string (⟨#[]⟩ : ByteArray)]) ?_ 0 _ rfl; (with_reducible repeat (first | refine blk_drewN ?_ _ | refine blk_drew ?_ | refine blk_alloc ?_ _)); exact BK360.out) hb); have n4_ := Aside0.mk (below_step (by repeat (first | (with_reducible first | exact HB.out | apply below_alloc | apply pw_below_drewN | apply below_drew1 | refine below_set ?_ GE337.out | refine below_set ?_ GE360.out) | exact HB.out)) hb); clear HO_12; clear HO_13; clear BK337; clear BK360; clear HB; have HO_12 := n0_; have HO_13 := n1_; have BK337 := n2_; have BK360 := n3_; have HB := n4_; clear n0_ n1_ n2_ n3_ n4_; (try clear hb); (try clear hb2); (try clear hk); (try clear hi)) | ((with_reducible refine gate_dst (N := 18) rfl ?_); refine box_event ?hg (N := 18) ?hd (cs := #[.int .i64 0, .int .i64 0, .string (⟨#[]⟩ : ByteArray)]) (t := 74) ?hr ?_; (case hd => rfl); (case hg => rfl); (case hr => first | (go_simp; done) | (go_simp; rfl)); intro gb365 hg w47 hbox hb; have n0_ := Aside0.mk (Kd.R_below (by (with_reducible repeat (first | apply Kd.R_alloc | apply Kd.R_drewN | apply Kd.R_drew)); exact HO_12.out) hb); have n1_ := Aside0.mk (Kd.R_below (by (with_reducible repeat (first | apply Kd.R_alloc | apply Kd.R_drewN | apply Kd.R_drew)); exact HO_13.out) hb); have n2_ := Aside0.mk (blk_below (g := gb337) (o := .cells #[.int .i64 t333, .int .i64 t334, .string t335] 74 (0, 0)) (by (with_reducible repeat (first | refine blk_drewN ?_ _ | refine blk_drew ?_ | refine blk_alloc ?_ _)); exact BK337.out) hb); have n3_ := Aside0.mk (blk_below (g := gb360) (o := .cells #[.int .i64 t356, .int .i64 t357, .string t358] 74 (0, 0)) (by (with_reducible repeat (first | refine blk_drewN ?_ _ | refine blk_drew ?_ | refine blk_alloc ?_ _)); exact BK360.out) hb); have n4_ := Aside0.mk (below_step (by repeat (first | (with_reducible first | exact HB.out | apply below_alloc | apply pw_below_drewN | apply below_drew1 | refine below_set ?_ GE337.out | refine below_set ?_ GE360.out) | exact HB.out)) hb); have n5_ := Aside0.mk (hbox); have n6_ := Aside0.mk ((by rw [hg]; exact (below_size (by repeat (first | (with_reducible first | exact HB.out | apply below_alloc | apply pw_below_drewN | apply below_drew1 | refine below_set ?_ GE337.out | refine below_set ?_ GE360.out) | exact HB.out))) : w.heap.size ≤ gb365)); have n7_ := Aside0.mk ((by rw [hg]; exact (below_size (by repeat (first | (with_reducible first | exact HB.out | apply below_alloc | apply pw_below_drewN | apply below_drew1 | refine below_set ?_ GE337.out | refine below_set ?_ GE360.out) | exact HB.out))) : w.heap.size ≤ gb365)); have n8_ := Aside0.mk ((by rw [hg]; exact Nat.ne_of_lt (blk_lt (g := gb337) (o := .cells #[.int .i64 t333, .int .i64 t334, .string t335] 74 (0, 0)) (by (with_reducible repeat (first | refine blk_drewN ?_ _ | refine blk_drew ?_ | refine blk_alloc ?_ _)); exact BK337.out)) : gb337 ≠ gb365)); have n9_ := Aside0.mk ((by rw [hg]; exact Nat.ne_of_gt (blk_lt (g := gb337) (o := .cells #[.int .i64 t333, .int .i64 t334, .string t335] 74 (0, 0)) (by (with_reducible repeat (first | refine blk_drewN ?_ _ | refine blk_drew ?_ | refine blk_alloc ?_ _)); exact BK337.out)) : gb365 ≠ gb337)); have n10_ := Aside0.mk ((by rw [hg]; exact Nat.ne_of_lt (blk_lt (g := gb360) (o := .cells #[.int .i64 t356, .int .i64 t357, .string t358] 74 (0, 0)) (by (with_reducible repeat (first | refine blk_drewN ?_ _ | refine blk_drew ?_ | refine blk_alloc ?_ _)); exact BK360.out)) : gb360 ≠ gb365)); have n11_ := Aside0.mk ((by rw [hg]; exact Nat.ne_of_gt (blk_lt (g := gb360) (o := .cells #[.int .i64 t356, .int .i64 t357, .string t358] 74 (0, 0)) (by (with_reducible repeat (first | refine blk_drewN ?_ _ | refine blk_drew ?_ | refine blk_alloc ?_ _)); exact BK360.out)) : gb365 ≠ gb360)); clear HO_12; clear HO_13; clear BK337; clear BK360; clear HB; have HO_12 := n0_; have HO_13 := n1_; have BK337 := n2_; have BK360 := n3_; have HB := n4_; have BK365 := n5_; have GW365 := n6_; have GE365 := n7_; have NB337_365 := n8_; have NB365_337 := n9_; have NB360_365 := n10_; have NB365_360 := n11_; clear n0_ n1_ n2_ n3_ n4_ n5_ n6_ n7_ n8_ n9_ n10_ n11_; clear hb hbox hg; have hnb48 := NB365_337.out; have hnc48 := NB337_365.out; have hnb49 := NB365_360.out; have hnc49 := NB360_365.out; have hcz50_0 : w47.cell? ⟨gb365, 0, none⟩ = some (.int .i64 0) := (blk_cell BK365.out 0).trans rfl; have hcz50_1 : w47.cell? ⟨gb365, 1, none⟩ = some (.int .i64 0) := (blk_cell BK365.out 1).trans rfl; have hcz50_2 : w47.cell? ⟨gb365, 2, none⟩ = some (.string (⟨#[]⟩ : ByteArray)) := (blk_cell BK365.out 2).trans rfl; have hfz50_0 := blk_frozen BK365.out 0; have hfz50_1 := blk_frozen BK365.out 1; have hfz50_2 := blk_frozen BK365.out 2; obtain ⟨Ao51, co51, eo51⟩ := Kd.R_slice HO_13.out; subst eo51) | ((with_reducible refine gate_callee (f := 62) rfl ?_); refine goesL_ (some 71) rfl rfl Tryd.func62 (by kernel_rfl) rfl #[.agg #[.int .i64 t361, .int .i64 t362, .string t363], .slice Ao51 x13_1.length co51] rfl (by (try simp only [List.map_toArray, List.map_cons, List.map_nil]); first | done | rfl | (simp only [List.length_drop, List.length_take]; rfl)) ?_; (with_reducible refine (mend_under.calls t361 t362 t363 _ _ x13_1 t366 _ ?side1 ?side2 A39.out).mono ?_); (case side1 => refine (Kd.R_reads' (e := 9) (base := w.heap.size) (ok := fun k_ => True) (n := x13_1.length) (c := co51) ?_).2.2; exact (by (with_reducible repeat (first | apply Kd.R_alloc | apply Kd.R_drewN | apply Kd.R_drew)); exact (Kd.R_mono (Kd.R_far (p := ⟨gb365, 2, none⟩) (Kd.R_far (p := ⟨gb365, 1, none⟩) (Kd.R_far (p := ⟨gb365, 0, none⟩) (Kd.R_types HO_13.out BK365.out (by decide)) (fun _ hk => hk.2) (.int .i64 t361)) (fun _ hk => hk.2) (.int .i64 t362)) (fun _ hk => hk.2) (.string t363)) (fun _ h_ => h_.1)))); (case side2 => exact (Kd.R_reads' HO_13.out).2.1); rintro e w52 ⟨v367, rfl, ho0, hb⟩; refine ⟨_, rfl, ?_⟩; have n0_ := Aside0.mk (Kd.R_below (by (with_reducible repeat (first | apply Kd.R_alloc | apply Kd.R_drewN | apply Kd.R_drew)); exact (Kd.R_mono (Kd.R_far (p := ⟨gb365, 2, none⟩) (Kd.R_far (p := ⟨gb365, 1, none⟩) (Kd.R_far (p := ⟨gb365, 0, none⟩) (Kd.R_types HO_12.out BK365.out (by decide)) (fun _ hk => hk.2) (.int .i64 t361)) (fun _ hk => hk.2) (.int .i64 t362)) (fun _ hk => hk.2) (.string t363)) (fun _ h_ => h_.1))) hb); have n1_ := Aside0.mk (Kd.R_elder' (by (with_reducible repeat (first | apply Kd.R_alloc | apply Kd.R_drewN | apply Kd.R_drew)); exact (Kd.R_mono (Kd.R_far (p := ⟨gb365, 2, none⟩) (Kd.R_far (p := ⟨gb365, 1, none⟩) (Kd.R_far (p := ⟨gb365, 0, none⟩) (Kd.R_types HO_13.out BK365.out (by decide)) (fun _ hk => hk.2) (.int .i64 t361)) (fun _ hk => hk.2) (.int .i64 t362)) (fun _ hk => hk.2) (.string t363)) (fun _ h_ => h_.1))) (Kd.R_base ho0) hb); have n2_ := Aside0.mk (Kd.R_lower (Kd.R_new' ho0 (Kd.R_lt (by (with_reducible repeat (first | apply Kd.R_alloc | apply Kd.R_drewN | apply Kd.R_drew)); exact (Kd.R_mono (Kd.R_far (p := ⟨gb365, 2, none⟩) (Kd.R_far (p := ⟨gb365, 1, none⟩) (Kd.R_far (p := ⟨gb365, 0, none⟩) (Kd.R_types HO_13.out BK365.out (by decide)) (fun _ hk => hk.2) (.int .i64 t361)) (fun _ hk => hk.2) (.int .i64 t362)) (fun _ hk => hk.2) (.string t363)) (fun _ h_ => h_.1))))) (below_size (by repeat (first | (with_reducible first | exact HB.out | apply below_alloc | apply pw_below_drewN | apply below_drew1 | refine below_set ?_ GE337.out | refine below_set ?_ GE360.out | refine below_set ?_ GE365.out) | exact HB.out)))); have n3_ := Aside0.mk (blk_below (g := gb337) (o := .cells #[.int .i64 t333, .int .i64 t334, .string t335] 74 (0, 0)) (by (with_reducible repeat (first | refine blk_drewN ?_ _ | refine blk_drew ?_ | refine blk_alloc ?_ _)); refine blk_far ?_ NB337_365.out _; (with_reducible repeat (first | refine blk_drewN ?_ _ | refine blk_drew ?_ | refine blk_alloc ?_ _)); refine blk_far ?_ NB337_365.out _; (with_reducible repeat (first | refine blk_drewN ?_ _ | refine blk_drew ?_ | refine blk_alloc ?_ _)); refine blk_far ?_ NB337_365.out _; (with_reducible repeat (first | refine blk_drewN ?_ _ | refine blk_drew ?_ | refine blk_alloc ?_ _)); exact BK337.out) hb); have n4_ := Aside0.mk (blk_below (g := gb360) (o := .cells #[.int .i64 t356, .int .i64 t357, .string t358] 74 (0, 0)) (by (with_reducible repeat (first | refine blk_drewN ?_ _ | refine blk_drew ?_ | refine blk_alloc ?_ _)); refine blk_far ?_ NB360_365.out _; (with_reducible repeat (first | refine blk_drewN ?_ _ | refine blk_drew ?_ | refine blk_alloc ?_ _)); refine blk_far ?_ NB360_365.out _; (with_reducible repeat (first | refine blk_drewN ?_ _ | refine blk_drew ?_ | refine blk_alloc ?_ _)); refine blk_far ?_ NB360_365.out _; (with_reducible repeat (first | refine blk_drewN ?_ _ | refine blk_drew ?_ | refine blk_alloc ?_ _)); exact BK360.out) hb); have n5_ := Aside0.mk (blk_below (g := gb365) (o := .cells #[.int .i64 t361, .int .i64 t362, .string t363] 74 (0, 0)) (by (with_reducible repeat (first | refine blk_drewN ?_ _ | refine blk_drew ?_ | refine blk_alloc ?_ _)); refine blk_put (cs := #[.int .i64 t361, .int .i64 t362, .string (⟨#[]⟩ : ByteArray)]) ?_ 2 _ rfl; (with_reducible repeat (first | refine blk_drewN ?_ _ | refine blk_drew ?_ | refine blk_alloc ?_ _)); refine blk_put (cs := #[.int .i64 t361, .int .i64 0, .string (⟨#[]⟩ : ByteArray)]) ?_ 1 _ rfl; (with_reducible repeat (first | refine blk_drewN ?_ _ | refine blk_drew ?_ | refine blk_alloc ?_ _)); refine blk_put (cs := #[.int .i64 0, .int .i64 0, .string (⟨#[]⟩ : ByteArray)]) ?_ 0 _ rfl; (with_reducible repeat (first | refine blk_drewN ?_ _ | refine blk_drew ?_ | refine blk_alloc ?_ _)); exact BK365.out) hb); have n6_ := Aside0.mk (below_step (by repeat (first | (with_reducible first | exact HB.out | apply below_alloc | apply pw_below_drewN | apply below_drew1 | refine below_set ?_ GE337.out | refine below_set ?_ GE360.out | refine below_set ?_ GE365.out) | exact HB.out)) hb); clear HO_12; clear HO_13; clear BK337; clear BK360; clear BK365; clear HB; have HO_12 := n0_; have HO_13 := n1_; have HO368 := n2_; have BK337 := n3_; have BK360 := n4_; have BK365 := n5_; have HB := n6_; clear n0_ n1_ n2_ n3_ n4_ n5_ n6_; (try clear hb); (try clear hb2); (try clear hk); (try clear hi); (try clear ho0)))
        go_ret2
        exact ⟨_, by first | rfl | (simp [errW_none, errW_some] <;> rfl) | (simp [*, errW_none, errW_some] <;> rfl), by (with_reducible repeat (first | apply Kd.R_alloc | apply Kd.R_drewN | apply Kd.R_drew)); exact Kd.R_mono HO368.out (fun _ hk => trivial), by repeat (first | (with_reducible first | exact HB.out | apply below_alloc | apply pw_below_drewN | apply below_drew1 | refine below_set ?_ GE337.out | refine below_set ?_ GE360.out | refine below_set ?_ GE365.out) | exact HB.out)⟩
       ·rw [if_neg c38] at H
        have c38b0 : (t364 == 0) = false := beq_eq_false_iff_ne.mpr c38
        have c38b1 : (t364 != 0) = true := bne_iff_ne.mpr c38
        simp only [Option.some.injEq, Prod.mk.injEq] at H
        obtain ⟨rfl, rfl⟩ := H
        have hcz53_0 : wr.cell? ⟨gb337, 0, none⟩ = some (.int .i64 t333) := (blk_cell BK337.out 0).trans rfl
        have hcz53_1 : wr.cell? ⟨gb337, 1, none⟩ = some (.int .i64 t334) := (blk_cell BK337.out 1).trans rfl
        have hcz53_2 : wr.cell? ⟨gb337, 2, none⟩ = some (.string t335) := (blk_cell BK337.out 2).trans rfl
        have hfz53_0 := blk_frozen BK337.out 0
        have hfz53_1 := blk_frozen BK337.out 1
        have hfz53_2 := blk_frozen BK337.out 2
        obtain ⟨Ao54, co54, eo54⟩ := Kd.R_slice HO_12.out
        subst eo54
        go_wp2_with (first | ((with_reducible refine gate_callee (f := 60) rfl ?_); refine goesL_ (some 58) rfl rfl Tryd.func60 (by kernel_rfl) rfl #[.agg #[.int .i64 t333, .int .i64 t334, .string t335], .slice Ao54 x12_1.length co54] rfl (by (try simp only [List.map_toArray, List.map_cons, List.map_nil]); first | done | rfl | (simp only [List.length_drop, List.length_take]; rfl)) ?_; (with_reducible refine (matrix_Pick.calls t333 t334 t335 _ _ x12_1 t356 t357 t358 t359 _ ?side1 ?side2 A36.out).mono ?_); (case side1 => repeat (first | exact (Kd.R_reads' HO_12.out).2.2 | (with_reducible refine Kd.C_alloc ?_ _) | (with_reducible refine Kd.C_drewN ?_ _) | (with_reducible refine Kd.C_drew ?_))); (case side2 => exact (Kd.R_reads' HO_12.out).2.1); rintro e w55 ⟨rfl, hb⟩; refine ⟨_, rfl, ?_⟩; have n0_ := Aside0.mk (Kd.R_below (by (with_reducible repeat (first | apply Kd.R_alloc | apply Kd.R_drewN | apply Kd.R_drew)); exact HO_12.out) hb); have n1_ := Aside0.mk (Kd.R_below (by (with_reducible repeat (first | apply Kd.R_alloc | apply Kd.R_drewN | apply Kd.R_drew)); exact HO_13.out) hb); have n2_ := Aside0.mk (blk_below (g := gb337) (o := .cells #[.int .i64 t333, .int .i64 t334, .string t335] 74 (0, 0)) (by (with_reducible repeat (first | refine blk_drewN ?_ _ | refine blk_drew ?_ | refine blk_alloc ?_ _)); exact BK337.out) hb); have n3_ := Aside0.mk (below_step (by repeat (first | (with_reducible first | exact HB.out | apply below_alloc | apply pw_below_drewN | apply below_drew1 | refine below_set ?_ GE337.out) | exact HB.out)) hb); clear HO_12; clear HO_13; clear BK337; clear HB; have HO_12 := n0_; have HO_13 := n1_; have BK337 := n2_; have HB := n3_; clear n0_ n1_ n2_ n3_; (try clear hb); (try clear hb2); (try clear hk); (try clear hi)) | ((with_reducible refine gate_dst (N := 16) rfl ?_); refine box_event ?hg (N := 16) ?hd (cs := #[.int .i64 0, .int .i64 0, .string (⟨#[]⟩ : ByteArray)]) (t := 74) ?hr ?_; (case hd => rfl); (case hg => rfl); (case hr => first | (go_simp; done) | (go_simp; rfl)); intro gb360 hg w56 hbox hb; have n0_ := Aside0.mk (Kd.R_below (by (with_reducible repeat (first | apply Kd.R_alloc | apply Kd.R_drewN | apply Kd.R_drew)); exact HO_12.out) hb); have n1_ := Aside0.mk (Kd.R_below (by (with_reducible repeat (first | apply Kd.R_alloc | apply Kd.R_drewN | apply Kd.R_drew)); exact HO_13.out) hb); have n2_ := Aside0.mk (blk_below (g := gb337) (o := .cells #[.int .i64 t333, .int .i64 t334, .string t335] 74 (0, 0)) (by (with_reducible repeat (first | refine blk_drewN ?_ _ | refine blk_drew ?_ | refine blk_alloc ?_ _)); exact BK337.out) hb); have n3_ := Aside0.mk (below_step (by repeat (first | (with_reducible first | exact HB.out | apply below_alloc | apply pw_below_drewN | apply below_drew1 | refine below_set ?_ GE337.out) | exact HB.out)) hb); have n4_ := Aside0.mk (hbox); have n5_ := Aside0.mk ((by rw [hg]; exact (below_size (by repeat (first | (with_reducible first | exact HB.out | apply below_alloc | apply pw_below_drewN | apply below_drew1 | refine below_set ?_ GE337.out) | exact HB.out))) : w.heap.size ≤ gb360)); have n6_ := Aside0.mk ((by rw [hg]; exact (below_size (by repeat (first | (with_reducible first | exact HB.out | apply below_alloc | apply pw_below_drewN | apply below_drew1 | refine below_set ?_ GE337.out) | exact HB.out))) : w.heap.size ≤ gb360)); have n7_ := Aside0.mk ((by rw [hg]; exact Nat.ne_of_lt (blk_lt (g := gb337) (o := .cells #[.int .i64 t333, .int .i64 t334, .string t335] 74 (0, 0)) (by (with_reducible repeat (first | refine blk_drewN ?_ _ | refine blk_drew ?_ | refine blk_alloc ?_ _)); exact BK337.out)) : gb337 ≠ gb360)); have n8_ := Aside0.mk ((by rw [hg]; exact Nat.ne_of_gt (blk_lt (g := gb337) (o := .cells #[.int .i64 t333, .int .i64 t334, .string t335] 74 (0, 0)) (by (with_reducible repeat (first | refine blk_drewN ?_ _ | refine blk_drew ?_ | refine blk_alloc ?_ _)); exact BK337.out)) : gb360 ≠ gb337)); clear HO_12; clear HO_13; clear BK337; clear HB; have HO_12 := n0_; have HO_13 := n1_; have BK337 := n2_; have HB := n3_; have BK360 := n4_; have GW360 := n5_; have GE360 := n6_; have NB337_360 := n7_; have NB360_337 := n8_; clear n0_ n1_ n2_ n3_ n4_ n5_ n6_ n7_ n8_; clear hb hbox hg; have hnb57 := NB360_337.out; have hnc57 := NB337_360.out; have hcz58_0 : w56.cell? ⟨gb360, 0, none⟩ = some (.int .i64 0) := (blk_cell BK360.out 0).trans rfl; have hcz58_1 : w56.cell? ⟨gb360, 1, none⟩ = some (.int .i64 0) := (blk_cell BK360.out 1).trans rfl; have hcz58_2 : w56.cell? ⟨gb360, 2, none⟩ = some (.string (⟨#[]⟩ : ByteArray)) := (blk_cell BK360.out 2).trans rfl; have hfz58_0 := blk_frozen BK360.out 0; have hfz58_1 := blk_frozen BK360.out 1; have hfz58_2 := blk_frozen BK360.out 2) | ((with_reducible refine gate_callee (f := 61) rfl ?_); refine goesL_ (some 63) rfl rfl Tryd.func61 (by kernel_rfl) rfl #[.agg #[.int .i64 t356, .int .i64 t357, .string t358]] rfl (by (try simp only [List.map_toArray, List.map_cons, List.map_nil]); first | done | rfl | (simp only [List.length_drop, List.length_take]; rfl)) ?_; (with_reducible refine (matrix_Inverse.calls t356 t357 t358 t361 t362 t363 t364 _ A37.out).mono ?_); rintro e w59 ⟨rfl, hb⟩; refine ⟨_, rfl, ?_⟩; have n0_ := Aside0.mk (Kd.R_below (by (with_reducible repeat (first | apply Kd.R_alloc | apply Kd.R_drewN | apply Kd.R_drew)); exact (Kd.R_mono (Kd.R_far (p := ⟨gb360, 2, none⟩) (Kd.R_far (p := ⟨gb360, 1, none⟩) (Kd.R_far (p := ⟨gb360, 0, none⟩) (Kd.R_types HO_12.out BK360.out (by decide)) (fun _ hk => hk.2) (.int .i64 t356)) (fun _ hk => hk.2) (.int .i64 t357)) (fun _ hk => hk.2) (.string t358)) (fun _ h_ => h_.1))) hb); have n1_ := Aside0.mk (Kd.R_below (by (with_reducible repeat (first | apply Kd.R_alloc | apply Kd.R_drewN | apply Kd.R_drew)); exact (Kd.R_mono (Kd.R_far (p := ⟨gb360, 2, none⟩) (Kd.R_far (p := ⟨gb360, 1, none⟩) (Kd.R_far (p := ⟨gb360, 0, none⟩) (Kd.R_types HO_13.out BK360.out (by decide)) (fun _ hk => hk.2) (.int .i64 t356)) (fun _ hk => hk.2) (.int .i64 t357)) (fun _ hk => hk.2) (.string t358)) (fun _ h_ => h_.1))) hb); have n2_ := Aside0.mk (blk_below (g := gb337) (o := .cells #[.int .i64 t333, .int .i64 t334, .string t335] 74 (0, 0)) (by (with_reducible repeat (first | refine blk_drewN ?_ _ | refine blk_drew ?_ | refine blk_alloc ?_ _)); refine blk_far ?_ NB337_360.out _; (with_reducible repeat (first | refine blk_drewN ?_ _ | refine blk_drew ?_ | refine blk_alloc ?_ _)); refine blk_far ?_ NB337_360.out _; (with_reducible repeat (first | refine blk_drewN ?_ _ | refine blk_drew ?_ | refine blk_alloc ?_ _)); refine blk_far ?_ NB337_360.out _; (with_reducible repeat (first | refine blk_drewN ?_ _ | refine blk_drew ?_ | refine blk_alloc ?_ _)); exact BK337.out) hb); have n3_ := Aside0.mk (blk_below (g := gb360) (o := .cells #[.int .i64 t356, .int .i64 t357, .string t358] 74 (0, 0)) (by (with_reducible repeat (first | refine blk_drewN ?_ _ | refine blk_drew ?_ | refine blk_alloc ?_ _)); refine blk_put (cs := #[.int .i64 t356, .int .i64 t357, .string (⟨#[]⟩ : ByteArray)]) ?_ 2 _ rfl; (with_reducible repeat (first | refine blk_drewN ?_ _ | refine blk_drew ?_ | refine blk_alloc ?_ _)); refine blk_put (cs := #[.int .i64 t356, .int .i64 0, .string (⟨#[]⟩ : ByteArray)]) ?_ 1 _ rfl; (with_reducible repeat (first | refine blk_drewN ?_ _ | refine blk_drew ?_ | refine blk_alloc ?_ _)); refine blk_put (cs := #[.int .i64 0, .int .i64 0, .string (⟨#[]⟩ : ByteArray)]) ?_ 0 _ rfl; (with_reducible repeat (first | refine blk_drewN ?_ _ | refine blk_drew ?_ | refine blk_alloc ?_ _)); exact BK360.out) hb); have n4_ := Aside0.mk (below_step (by repeat (first | (with_reducible first | exact HB.out | apply below_alloc | apply pw_below_drewN | apply below_drew1 | refine below_set ?_ GE337.out | refine below_set ?_ GE360.out) | exact HB.out)) hb); clear HO_12; clear HO_13; clear BK337; clear BK360; clear HB; have HO_12 := n0_; have HO_13 := n1_; have BK337 := n2_; have BK360 := n3_; have HB := n4_; clear n0_ n1_ n2_ n3_ n4_; (try clear hb); (try clear hb2); (try clear hk); (try clear hi)) | ((with_reducible refine gate_dst (N := 18) rfl ?_); refine box_event ?hg (N := 18) ?hd (cs := #[.int .i64 0, .int .i64 0, .string (⟨#[]⟩ : ByteArray)]) (t := 74) ?hr ?_; (case hd => rfl); (case hg => rfl); (case hr => first | (go_simp; done) | (go_simp; rfl)); intro gb365 hg w60 hbox hb; have n0_ := Aside0.mk (Kd.R_below (by (with_reducible repeat (first | apply Kd.R_alloc | apply Kd.R_drewN | apply Kd.R_drew)); exact HO_12.out) hb); have n1_ := Aside0.mk (Kd.R_below (by (with_reducible repeat (first | apply Kd.R_alloc | apply Kd.R_drewN | apply Kd.R_drew)); exact HO_13.out) hb); have n2_ := Aside0.mk (blk_below (g := gb337) (o := .cells #[.int .i64 t333, .int .i64 t334, .string t335] 74 (0, 0)) (by (with_reducible repeat (first | refine blk_drewN ?_ _ | refine blk_drew ?_ | refine blk_alloc ?_ _)); exact BK337.out) hb); have n3_ := Aside0.mk (blk_below (g := gb360) (o := .cells #[.int .i64 t356, .int .i64 t357, .string t358] 74 (0, 0)) (by (with_reducible repeat (first | refine blk_drewN ?_ _ | refine blk_drew ?_ | refine blk_alloc ?_ _)); exact BK360.out) hb); have n4_ := Aside0.mk (below_step (by repeat (first | (with_reducible first | exact HB.out | apply below_alloc | apply pw_below_drewN | apply below_drew1 | refine below_set ?_ GE337.out | refine below_set ?_ GE360.out) | exact HB.out)) hb); have n5_ := Aside0.mk (hbox); have n6_ := Aside0.mk ((by rw [hg]; exact (below_size (by repeat (first | (with_reducible first | exact HB.out | apply below_alloc | apply pw_below_drewN | apply below_drew1 | refine below_set ?_ GE337.out | refine below_set ?_ GE360.out) | exact HB.out))) : w.heap.size ≤ gb365)); have n7_ := Aside0.mk ((by rw [hg]; exact (below_size (by repeat (first | (with_reducible first | exact HB.out | apply below_alloc | apply pw_below_drewN | apply below_drew1 | refine below_set ?_ GE337.out | refine below_set ?_ GE360.out) | exact HB.out))) : w.heap.size ≤ gb365)); have n8_ := Aside0.mk ((by rw [hg]; exact Nat.ne_of_lt (blk_lt (g := gb337) (o := .cells #[.int .i64 t333, .int .i64 t334, .string t335] 74 (0, 0)) (by (with_reducible repeat (first | refine blk_drewN ?_ _ | refine blk_drew ?_ | refine blk_alloc ?_ _)); exact BK337.out)) : gb337 ≠ gb365)); have n9_ := Aside0.mk ((by rw [hg]; exact Nat.ne_of_gt (blk_lt (g := gb337) (o := .cells #[.int .i64 t333, .int .i64 t334, .string t335] 74 (0, 0)) (by (with_reducible repeat (first | refine blk_drewN ?_ _ | refine blk_drew ?_ | refine blk_alloc ?_ _)); exact BK337.out)) : gb365 ≠ gb337)); have n10_ := Aside0.mk ((by rw [hg]; exact Nat.ne_of_lt (blk_lt (g := gb360) (o := .cells #[.int .i64 t356, .int .i64 t357, .string t358] 74 (0, 0)) (by (with_reducible repeat (first | refine blk_drewN ?_ _ | refine blk_drew ?_ | refine blk_alloc ?_ _)); exact BK360.out)) : gb360 ≠ gb365)); have n11_ := Aside0.mk ((by rw [hg]; exact Nat.ne_of_gt (blk_lt (g := gb360) (o := .cells #[.int .i64 t356, .int .i64 t357, .string t358] 74 (0, 0)) (by (with_reducible repeat (first | refine blk_drewN ?_ _ | refine blk_drew ?_ | refine blk_alloc ?_ _)); exact BK360.out)) : gb365 ≠ gb360)); clear HO_12; clear HO_13; clear BK337; clear BK360; clear HB; have HO_12 := n0_; have HO_13 := n1_; have BK337 := n2_; have BK360 := n3_; have HB := n4_; have BK365 := n5_; have GW365 := n6_; have GE365 := n7_; have NB337_365 := n8_; have NB365_337 := n9_; have NB360_365 := n10_; have NB365_360 := n11_; clear n0_ n1_ n2_ n3_ n4_ n5_ n6_ n7_ n8_ n9_ n10_ n11_; clear hb hbox hg; have hnb61 := NB365_337.out; have hnc61 := NB337_365.out; have hnb62 := NB365_360.out; have hnc62 := NB360_365.out; have hcz63_0 : w60.cell? ⟨gb365, 0, none⟩ = some (.int .i64 0) := (blk_cell BK365.out 0).trans rfl; have hcz63_1 : w60.cell? ⟨gb365, 1, none⟩ = some (.int .i64 0) := (blk_cell BK365.out 1).trans rfl; have hcz63_2 : w60.cell? ⟨gb365, 2, none⟩ = some (.string (⟨#[]⟩ : ByteArray)) := (blk_cell BK365.out 2).trans rfl; have hfz63_0 := blk_frozen BK365.out 0; have hfz63_1 := blk_frozen BK365.out 1; have hfz63_2 := blk_frozen BK365.out 2))
        go_ret2
        exact ⟨_, by first | rfl | (simp [errW_none, errW_some] <;> rfl) | (simp [*, errW_none, errW_some] <;> rfl), by first | exact Kd.R_nil _ _ _ _ _ | exact Kd.N_nil _ _ _ _ _ | exact Kd.V_nil _ _ _ _ _ | exact Kd.Q_nil _ _ _ _ _ | exact Kd.S_nil _ _ _ _ _, by repeat (first | (with_reducible first | exact HB.out | apply below_alloc | apply pw_below_drewN | apply below_drew1 | refine below_set ?_ GE337.out | refine below_set ?_ GE360.out | refine below_set ?_ GE365.out) | exact HB.out)⟩
   ·rw [if_neg c8] at H
    exact absurd H (by simp)
  ·rw [if_neg c7] at H
   exact absurd H (by simp)
 ·rw [if_neg c5] at H
  have c5b0 : (t332 == 0) = false := beq_eq_false_iff_ne.mpr c5
  have c5b1 : (t332 != 0) = true := bne_iff_ne.mpr c5
  simp only [Option.some.injEq, Prod.mk.injEq] at H
  obtain ⟨rfl, rfl⟩ := H
  go_enter Tryd.func38, Tryd.ntmps38
  go_wp2_with (first | ((with_reducible refine gate_callee (f := 34) rfl ?_); refine goesL_ (some 24) rfl rfl Tryd.func34 (by kernel_rfl) rfl #[.int .i64 a0, .int .i64 a1, .slice A2 l2.length c2] rfl (by (try simp only [List.map_toArray, List.map_cons, List.map_nil]); first | done | rfl | (simp only [List.length_drop, List.length_take]; rfl)) ?_; (with_reducible refine (mend_Check.calls a0 a1 _ _ l2 t331 t332 _ ?side1 ?side2 A4.out).mono ?_); (case side1 => repeat (first | exact HR2.out | (with_reducible refine Kd.C_alloc ?_ _) | (with_reducible refine Kd.C_drewN ?_ _) | (with_reducible refine Kd.C_drew ?_))); (case side2 => exact HC2.out); rintro e w64 ⟨rfl, hb⟩; refine ⟨_, rfl, ?_⟩; have n0_ := Aside0.mk (below_step (by repeat (first | (with_reducible first | exact HB.out | apply below_alloc | apply pw_below_drewN | apply below_drew1) | exact HB.out)) hb); clear HB; have HB := n0_; clear n0_; (try clear hb); (try clear hb2); (try clear hk); (try clear hi)))
  go_ret2
  exact ⟨_, by first | rfl | (simp [errW_none, errW_some] <;> rfl) | (simp [*, errW_none, errW_some] <;> rfl), by first | exact Kd.R_nil _ _ _ _ _ | exact Kd.N_nil _ _ _ _ _ | exact Kd.V_nil _ _ _ _ _ | exact Kd.Q_nil _ _ _ _ _ | exact Kd.S_nil _ _ _ _ _, by repeat (first | (with_reducible first | exact HB.out | apply below_alloc | apply pw_below_drewN | apply below_drew1) | exact HB.out)⟩

end Go.Proofs.YtegmmefijihdeaaDoor.PS
namespace Go.Proofs.YtegmmefijihdeaaDoor.PS
open Go.RowKit Go.Proofs.YtegmmefijihdeaaDoorW.PrintWords Go.Proofs.YtegmmefijihdeaaDoorW.PrintLast Go.Proofs.YtegmmefijihdeaaDoorW.PrintMore Go.Proofs.YtegmmefijihdeaaDoor.Gf Go.Proofs.YtegmmefijihdeaaDoor.Fld Go.Proofs.YtegmmefijihdeaaDoor.Grd Go.Proofs.YtegmmefijihdeaaDoor.Rowb
set_option linter.unusedVariables false
set_option linter.unusedSimpArgs false
theorem rdT_nat (l : List S62) (i : Nat) (h : i < l.length) : rd_T62 l (i : Int) = l[i] := by
  unfold rd_T62
  rw [Int.toNat_natCast, getD_lt _ _ _ h]
/-! Check. -/
structure Good (K M : Nat) (l : List S62) : Prop where
  k1 : 1 ≤ K
  km : K + M ≤ 255
  len : K ≤ l.length
  rng : ∀ (i : Nat) (h : i < l.length), 0 ≤ l[i].f0 ∧ l[i].f0 < (K : Int) + (M : Int)
  dist : ∀ (j i : Nat) (hj : j < i) (h : i < l.length), (l[j]'(by omega)).f0 ≠ l[i].f0
  size : ∀ (i : Nat) (h : i < l.length), l[i].f1.size = (rd_T62 l 0).f1.size
  most : (rd_T62 l 0).f1.size ≤ 2052
theorem scan_ok (k m : Int) (l : List S62) : ∀ d i, i + d = l.length → (scanC k m l d i).2 = 0 → (¬ (l.length : Int) < k) ∧ ∀ j, i ≤ j → j < l.length → errAt k m l j = 0
  | 0, i, hi, h => by
    unfold scanC at h
    by_cases hk : (l.length : Int) < k
    · rw [if_pos hk] at h
      exact absurd h (by decide)
    · exact ⟨hk, fun j h1 h2 => by omega⟩
  | d + 1, i, hi, h => by
    unfold scanC at h
    by_cases he : errAt k m l i = 0
    · rw [if_pos he] at h
      obtain ⟨h1, h2⟩ := scan_ok k m l d (i + 1) (by omega) h
      refine ⟨h1, fun j hj hl => ?_⟩
      by_cases e : j = i
      · subst e; exact he
      · exact h2 j (by omega) hl
    · rw [if_neg he] at h
      exact absurd h he
theorem scan_all (k m : Int) (l : List S62) (h : ∀ j, j < l.length → errAt k m l j = 0) : ∀ d i, i + d = l.length → scanC k m l d i = if (l.length : Int) < k then (-1, 40) else (0, 0)
  | 0, i, hi => rfl
  | d + 1, i, hi => by
    unfold scanC
    rw [if_pos (h i (by omega))]
    exact scan_all k m l h d (i + 1) (by omega)
theorem err_zero {k m : Int} {l : List S62} {i : Nat} (hi : i < l.length) (h : errAt k m l i = 0) : 0 ≤ l[i].f0 ∧ l[i].f0 < k + m ∧ seenB l i l[i].f0 = false ∧ l[i].f1.size ≤ 2052 ∧ l[i].f1.size = (rd_T62 l 0).f1.size := by
  unfold errAt at h
  rw [rdT_nat l i hi] at h
  by_cases h1 : l[i].f0 < 0 ∨ k + m ≤ l[i].f0
  · rw [if_pos h1] at h; exact absurd h (by decide)
  · rw [if_neg h1] at h
    by_cases h2 : seenB l i l[i].f0 = true
    · rw [if_pos h2] at h; exact absurd h (by decide)
    · rw [if_neg h2] at h
      by_cases h3 : 2052 < l[i].f1.size
      · rw [if_pos h3] at h; exact absurd h (by decide)
      · rw [if_neg h3] at h
        by_cases h4 : l[i].f1.size ≠ (rd_T62 l 0).f1.size
        · rw [if_pos h4] at h; exact absurd h (by decide)
        · exact ⟨by omega, by omega, by simpa using h2, by omega, by simpa using h4⟩
theorem err_mk {k m : Int} {l : List S62} {i : Nat} (hi : i < l.length) (h1 : 0 ≤ l[i].f0) (h2 : l[i].f0 < k + m) (h3 : ∀ j (hj : j < i), (l[j]'(by omega)).f0 ≠ l[i].f0) (h4 : l[i].f1.size ≤ 2052) (h5 : l[i].f1.size = (rd_T62 l 0).f1.size) : errAt k m l i = 0 := by
  unfold errAt
  rw [rdT_nat l i hi, if_neg (by omega), if_neg, if_neg (by omega), if_neg (by simpa using h5)]
  intro hs
  unfold seenB at hs
  obtain ⟨j, hj, e⟩ := List.any_eq_true.1 hs
  have hj := List.mem_range.1 hj
  rw [rdT_nat l j (by omega)] at e
  exact h3 j hj (of_decide_eq_true e)
theorem check_good {k m : Int} {l : List S62} (h : (checkV k m l).2 = 0) : ∃ K M : Nat, k = (K : Int) ∧ m = (M : Int) ∧ Good K M l := by
  unfold checkV at h
  cases hc : codeB k m with
  | false => rw [hc, if_neg (by decide)] at h; exact absurd h (by decide)
  | true =>
    rw [hc, if_pos rfl] at h
    obtain ⟨K, M, rfl, rfl, h1, h2⟩ := codeB_nat hc
    obtain ⟨q1, q2⟩ := scan_ok _ _ l l.length 0 (by omega) h
    have h0 : 0 < l.length := by omega
    refine ⟨K, M, rfl, rfl, h1, h2, by omega, fun i hi => ?_, fun j i hj hi => ?_, fun i hi => ?_, ?_⟩
    · obtain ⟨a, b, _⟩ := err_zero hi (q2 i (by omega) hi)
      exact ⟨a, b⟩
    · obtain ⟨_, _, a, _⟩ := err_zero hi (q2 i (by omega) hi)
      intro e
      unfold seenB at a
      rw [List.any_eq_false] at a
      have := a j (List.mem_range.2 hj)
      rw [rdT_nat l j (by omega)] at this
      exact this (by simpa using e)
    · exact (err_zero hi (q2 i (by omega) hi)).2.2.2.2
    · have := (err_zero h0 (q2 0 (by omega) h0)).2.2.2
      rw [← this.2]
      exact this.1
theorem good_check {K M : Nat} {l : List S62} (g : Good K M l) : checkV (K : Int) (M : Int) l = (0, 0) := by
  unfold checkV
  rw [if_pos (by unfold codeB; exact decide_eq_true (by have := g.k1; have := g.km; omega)), scan_all _ _ l (fun j hj => err_mk hj (g.rng j hj).1 (g.rng j hj).2 (fun q hq => g.dist q j hq hj) (by rw [g.size j hj]; exact g.most) (g.size j hj)) l.length 0 (by omega), if_neg (by have := g.len; omega)]
/-! The matrix. -/
def rowsI (l : List S62) (K : Nat) : List Int := (l.take K).map fun x => x.f0
def havS (l : List S62) (K : Nat) : List ByteArray := (l.take K).map fun x => x.f1
def pickM (K M : Nat) (l : List S62) : Grid := pickG (genG K M) ((rowsI l K).map Int.toNat)
def invM (K M : Nat) (l : List S62) : Grid := (inverse (pickM K M l)).getD []
def shardN (l : List S62) : Nat := (rd_T62 l 0).f1.size
def dataL (K M : Nat) (l : List S62) : List ByteArray := undL (at2 (invM K M l)) K K (shardN l) (havS l K)
theorem genG_rows (K M : Nat) : ∀ r, r ∈ genG K M → r.length = K := fun r hr => by
  obtain ⟨x, _, rfl⟩ := List.mem_map.1 hr
  exact genRow_len K x
theorem genG_at (K M r j : Nat) (hr : r < K + M) (hj : j < K) : at2 (genG K M) r j = genAt K r j := by
  unfold at2
  rw [rowAt_lt (by rw [genG_len]; exact hr)]
  unfold genG
  rw [List.getElem_map, List.getElem_range]
  unfold genRow
  rw [getD_lt _ _ _ (by simpa using hj)]
  simp
theorem flat_getD {C : Nat} (L : Grid) (hr : ∀ r, r ∈ L → r.length = C) (i j : Nat) (hi : i < L.length) (hj : j < C) : L.flatten.getD (i * C + j) 0 = at2 L i j := by
  have h1 := flat_row L i hi hr
  have h2 : L[i].length = C := hr _ (List.getElem_mem hi)
  unfold at2
  rw [rowAt_lt hi, ← h1, List.getD_eq_getElem?_getD, List.getD_eq_getElem?_getD, List.getElem?_take, if_pos hj, List.getElem?_drop]
theorem undL_congr {c c' : Nat → Nat → UInt8} {R C n : Nat} {data : List ByteArray} (h : ∀ r j, r < R → j < C → c r j = c' r j) : undL c R C n data = undL c' R C n data := by
  unfold undL
  refine List.map_congr_left (fun r hr => congrArg txt ?_)
  unfold accC
  refine List.map_congr_left (fun t _ => ?_)
  exact xs_congr (fun j hj => congrArg (fun x => gmul x (dAt data j t)) (h r j (List.mem_range.1 hr) (List.mem_range.1 hj)))
section
variable {K M : Nat} {l : List S62} (g : Good K M l)
include g
theorem Good.rowsLen : (rowsI l K).length = K := by
  unfold rowsI
  rw [List.length_map, List.length_take]
  have := g.len
  omega
theorem Good.havLen : (havS l K).length = K := by
  unfold havS
  rw [List.length_map, List.length_take]
  have := g.len
  omega
theorem Good.rowAtI (i : Nat) (h : i < (rowsI l K).length) : (rowsI l K)[i] = (l[i]'(by rw [g.rowsLen] at h; have := g.len; omega)).f0 := by
  simp only [rowsI, List.getElem_map, List.getElem_take]
theorem Good.havAt (i : Nat) (h : i < (havS l K).length) : (havS l K)[i] = (l[i]'(by rw [g.havLen] at h; have := g.len; omega)).f1 := by
  simp only [havS, List.getElem_map, List.getElem_take]
theorem Good.rowsRange : ∀ x, x ∈ rowsI l K → 0 ≤ x ∧ x < ((K + M : Nat) : Int) := fun x hx => by
  obtain ⟨i, hi, rfl⟩ := List.getElem_of_mem hx
  rw [g.rowAtI i hi]
  have := g.rng i (by rw [g.rowsLen] at hi; have := g.len; omega)
  push_cast
  exact this
theorem Good.rowsNodup : (rowsI l K).Nodup := by
  rw [List.nodup_iff_pairwise_ne, List.pairwise_iff_getElem]
  intro j i hj hi hlt
  rw [g.rowAtI j hj, g.rowAtI i hi]
  exact g.dist j i hlt (by rw [g.rowsLen] at hi; have := g.len; omega)
theorem Good.pickOk : pickOk (K + M) (rowsI l K) = true := by
  unfold PS.pickOk
  rw [Bool.and_eq_true, Bool.and_eq_true]
  refine ⟨⟨List.all_eq_true.2 (fun x hx => decide_eq_true (g.rowsRange x hx)), decide_eq_true g.rowsNodup⟩, decide_eq_true ?_⟩
  rw [g.rowsLen]
  have := g.k1
  have := g.km
  omega
theorem Good.numsNodup : ((rowsI l K).map Int.toNat).Nodup := nodup_map_of (fun a ha b hb e => by
  have := g.rowsRange a ha
  have := g.rowsRange b hb
  omega) g.rowsNodup
theorem Good.numsRange : ∀ r, r ∈ (rowsI l K).map Int.toNat → r < K + M := fun r hr => by
  obtain ⟨x, hx, rfl⟩ := List.mem_map.1 hr
  have := g.rowsRange x hx
  omega
theorem Good.pickLen : (pickM K M l).length = K := by
  unfold pickM
  rw [pickG_len, List.length_map, g.rowsLen]
theorem Good.pickRows : ∀ r, r ∈ pickM K M l → r.length = K := pickG_rows (genG_rows K M) _ (fun r hr => by rw [genG_len]; exact g.numsRange r hr)
theorem Good.pickSq : Sq K (pickM K M l) := sq_of g.pickLen g.pickRows
theorem Good.pickAt (i j : Nat) (hi : i < K) (hj : j < K) : at2 (pickM K M l) i j = genAt K ((l[i]'(by have := g.len; omega)).f0.toNat) j := by
  have h1 : i < (pickM K M l).length := by rw [g.pickLen]; exact hi
  have h2 : i < (rowsI l K).length := by rw [g.rowsLen]; exact hi
  have h3 : Gf.rowAt (pickM K M l) i = Gf.rowAt (genG K M) ((rowsI l K)[i].toNat) := by
    rw [rowAt_lt h1]
    simp only [pickM, pickG, List.getElem_map]
  have h4 := g.rowsRange _ (List.getElem_mem h2)
  have h5 : at2 (pickM K M l) i j = at2 (genG K M) ((rowsI l K)[i].toNat) j := by
    unfold at2
    rw [h3]
  rw [h5, genG_at K M _ j (by omega) hj, g.rowAtI i h2]
theorem Good.plain : Plain K (pickM K M l) := fun d h => by
  refine mds K (K + M) (by have := g.km; omega) ((rowsI l K).map Int.toNat) g.numsRange (by omega) (by rw [List.length_map, g.rowsLen]) g.numsNodup d (fun r hr => ?_)
  obtain ⟨x, hx, rfl⟩ := List.mem_map.1 hr
  obtain ⟨i, hi, rfl⟩ := List.getElem_of_mem hx
  have hi' : i < K := by rw [g.rowsLen] at hi; exact hi
  rw [← h i hi']
  refine dotn_congr (fun j hj => ?_) (fun _ _ => rfl)
  rw [g.pickAt i j hi' hj, g.rowAtI i hi]
theorem Good.inv : inverse (pickM K M l) = some (invM K M l) ∧ Sq K (invM K M l) ∧ ∀ d i, i < K → dotn K (at2 (invM K M l) i) (fun j => dotn K (at2 (pickM K M l) j) d) = d i := by
  obtain ⟨R, h1, h2, h3⟩ := inverse_plain g.pickSq g.plain
  have e : invM K M l = R := by unfold invM; rw [h1]; rfl
  rw [e]
  exact ⟨h1, h2, h3⟩
theorem Good.invRows : ∀ r, r ∈ invM K M l → r.length = K := fun r hr => by
  obtain ⟨i, hi, rfl⟩ := List.getElem_of_mem hr
  have := g.inv.2.1.rows i (by rw [← g.inv.2.1.len]; exact hi)
  rwa [rowAt_lt hi] at this
theorem Good.even : evenB (havS l K) = true ∧ (rdOf ByteArray.empty (havS l K) 0).size = shardN l := by
  have h0 : 0 < (havS l K).length := by rw [g.havLen]; exact g.k1
  have hs : ∀ i (h : i < (havS l K).length), (havS l K)[i].size = shardN l := fun i h => by
    rw [g.havAt i h]
    exact g.size i _
  have e0 : rdOf ByteArray.empty (havS l K) 0 = (havS l K)[0] := rdOf_nat _ 0 h0
  have e1 : (rdOf ByteArray.empty (havS l K) 0).size = shardN l := by rw [e0, hs 0 h0]
  refine ⟨?_, e1⟩
  unfold evenB
  rw [List.all_eq_true]
  intro s hm
  obtain ⟨i, hi, rfl⟩ := List.getElem_of_mem hm
  rw [hs i hi, e1]
  simp
theorem Good.pick_f : matrix_Pick.f ((K : Int) + (M : Int)) (K : Int) (txt (genG K M).flatten) (rowsI l K) = some ((K : Int), (K : Int), txt (pickM K M l).flatten, 0) := by
  have h1 := g.k1
  have h2 := g.km
  have hs : (txt (genG K M).flatten).size = (K + M) * K := by rw [txt_size, flat_len _ (genG_rows K M), genG_len]
  have e : (K : Int) + (M : Int) = ((K + M : Nat) : Int) := by push_cast; rfl
  unfold matrix_Pick.f
  rw [e, if_pos ⟨by unfold shapeB; exact decide_eq_true ⟨by omega, by omega, by omega, by omega, by rw [hs]; rfl⟩, by rw [Int.toNat_natCast]; exact g.pickOk⟩]
  simp only [Int.toNat_natCast]
  rw [gridOf_txt (K + M) K _ (genG_len K M) (genG_rows K M), g.rowsLen]
  rfl
theorem Good.inv_f : invF (K : Int) (K : Int) (txt (pickM K M l).flatten) = some ((K : Int), (K : Int), txt (invM K M l).flatten, 0) := by
  have h1 := g.k1
  have h2 := g.km
  have hs : (txt (pickM K M l).flatten).size = K * K := by rw [txt_size, flat_len _ g.pickRows, g.pickLen]
  unfold invF
  rw [if_pos ⟨by unfold shapeB; exact decide_eq_true ⟨by omega, by omega, by omega, by omega, by rw [hs]; rfl⟩, rfl⟩]
  simp only [Int.toNat_natCast]
  rw [gridOf_txt K K _ g.pickLen g.pickRows, g.inv.1]
  rfl
theorem Good.invAt (r j : Nat) (hr : r < K) (hj : j < K) : (invM K M l).flatten.getD (r * K + j) 0 = at2 (invM K M l) r j := flat_getD _ g.invRows r j (by rw [g.inv.2.1.len]; exact hr) hj
theorem Good.und_f : mend_under.f (K : Int) (K : Int) (txt (invM K M l).flatten) (havS l K) = some (dataL K M l) := by
  have h1 := g.k1
  have h2 := g.km
  have hs : (txt (invM K M l).flatten).size = K * K := by rw [txt_size, flat_len _ g.invRows, g.inv.2.1.len]
  unfold mend_under.f
  rw [if_pos ⟨by omega, by omega, by omega, by omega, by rw [hs]; rfl, by rw [g.havLen]; rfl, g.even.1, by rw [g.even.2]; exact g.most⟩]
  simp only [Int.toNat_natCast]
  rw [g.even.2]
  unfold dataL
  refine congrArg some (undL_congr (fun r j hr hj => ?_))
  unfold coef
  rw [txt_list]
  exact g.invAt r j hr hj
theorem Good.data_from (d : Nat) (x1 x2 : Int) (x3 : ByteArray) : ∀ i, i + d = K → ∀ k, d + 1 ≤ k → mend_Data.l0 k (rowsI l i) (havS l i) (l.take K) (K : Int) (i : Int) x1 x2 x3 = mend_Data.l0 1 (rowsI l K) (havS l K) (l.take K) (K : Int) (K : Int) x1 x2 x3 := by
  have h1 := g.km
  have hlen := g.len
  have htl : (l.take K).length = K := by rw [List.length_take]; omega
  induction d with
  | zero =>
    intro i hi k hk
    obtain ⟨m, rfl, _⟩ := pred_of (K := 0) hk
    have e : i = K := by omega
    subst e
    simp only [mend_Data.l0]
    rw [if_neg (by omega), if_neg (by omega)]
  | succ d ih =>
    intro i hi k hk
    obtain ⟨m, rfl, hm⟩ := pred_of hk
    have hil : i < (l.take K).length := by omega
    have e : rd_T62 (l.take K) (i : Int) = l[i]'(by omega) := by rw [rdT_nat _ i hil, List.getElem_take]
    have er : rowsI l i ++ [(l[i]'(by omega)).f0] = rowsI l (i + 1) := by
      unfold rowsI
      rw [List.take_succ_eq_append_getElem (by omega), List.map_append]
      rfl
    have eh : havS l i ++ [(l[i]'(by omega)).f1] = havS l (i + 1) := by
      unfold havS
      rw [List.take_succ_eq_append_getElem (by omega), List.map_append]
      rfl
    have el1 : (rowsI l i).length ≤ 255 := by unfold rowsI; rw [List.length_map, List.length_take]; omega
    have el2 : (havS l i).length ≤ 255 := by unfold havS; rw [List.length_map, List.length_take]; omega
    have step : mend_Data.l0 (m + 1) (rowsI l i) (havS l i) (l.take K) (K : Int) (i : Int) x1 x2 x3 = mend_Data.l0 m (rowsI l (i + 1)) (havS l (i + 1)) (l.take K) (K : Int) ((i + 1 : Nat) : Int) x1 x2 x3 := by
      conv => lhs; unfold mend_Data.l0
      rw [if_pos (by omega), if_pos (by omega), if_pos (by omega), e, Option.bind_some, if_pos (by simp; omega), Option.bind_some, if_pos (by simp; omega), er, eh, w64_in ((i : Int) + 1) (by omega) (by omega)]
      rfl
    rw [step]
    exact ih (i + 1) (by omega) m hm
theorem Good.data_f (k : Nat) (hk : 256 ≤ k) : mend_Data.f k (K : Int) (M : Int) l = some (dataL K M l, 0) := by
  have h1 := g.k1
  have h2 := g.km
  have hlen := g.len
  have hn : numsOk l = true := numsOk_mk fun x hx => by
    obtain ⟨i, hi, rfl⟩ := List.getElem_of_mem hx
    have := g.rng i hi
    omega
  have hc : codeB (K : Int) (M : Int) = true := by unfold codeB; exact decide_eq_true (by omega)
  unfold mend_Data.f mend_Check.f matrix_Generator.f
  rw [if_pos hn, Option.bind_some, good_check g, if_pos rfl, if_pos hc, Option.bind_some, if_pos (by omega), if_pos (by omega), Option.bind_some]
  simp only [Int.toNat_natCast]
  rw [show ((l.take K).length : Int) = (K : Int) by rw [List.length_take]; omega]
  have := g.data_from K ((K : Int) + (M : Int)) (K : Int) (txt (genG K M).flatten) 0 (by omega) k (by omega)
  rw [show (((0 : Nat) : Int)) = (0 : Int) from rfl] at this
  have e0 : rowsI l 0 = [] := by simp [rowsI]
  have e1 : havS l 0 = [] := by simp [havS]
  rw [e0, e1] at this
  rw [this]
  unfold mend_Data.l0
  rw [if_neg (by omega), g.pick_f, Option.bind_some]
  simp only
  unfold matrix_Inverse.f
  rw [g.inv_f, Option.bind_some, if_pos rfl]
  simp only
  rw [g.und_f, Option.bind_some]
omit g in
theorem Good.dataLen (_ : Good K M l) : (dataL K M l).length = K := by simp [dataL, undL]
omit g in
theorem Good.dataSize (_ : Good K M l) : ∀ s, s ∈ dataL K M l → s.size = shardN l := fun s hs => by
  unfold dataL undL at hs
  obtain ⟨r, _, rfl⟩ := List.mem_map.1 hs
  rw [txt_size, accC_len]
end
theorem bad_data {k m : Int} {l : List S62} (hn : numsOk l = true) (h : (checkV k m l).2 ≠ 0) (n : Nat) : mend_Data.f n k m l = some ([], (checkV k m l).2) := by
  unfold mend_Data.f mend_Check.f
  rw [if_pos hn, Option.bind_some, if_neg h]
end Go.Proofs.YtegmmefijihdeaaDoor.PS
namespace Go.Proofs.YtegmmefijihdeaaDoor.PS
open Go.RowKit Go.Proofs.YtegmmefijihdeaaDoorW.PrintWords Go.Proofs.YtegmmefijihdeaaDoorW.PrintLast Go.Proofs.YtegmmefijihdeaaDoorW.PrintMore
attribute [local go_sem] Mk.str_leq Mk.str_gtr Mk.str_geq max2_int min2_int max_two min_two max_three min_three max_four min_four   -- for this text's walks alone
set_option linter.unusedVariables false
set_option linter.unusedSimpArgs false

/-! ### mend_Object: function 40 -/
def mend_Object.f (k : Nat) (a0 : Int) (a1 : Int) (l2 : List (S62)) : Option (ByteArray × Int) := (mend_Data.f k a0 a1 l2).bind fun bt369 => (if bt369.2 = 0 then ((stripe_Join.f bt369.1).bind fun bt373 => (some (bt373.1, bt373.2))) else (some ((⟨#[]⟩ : ByteArray), bt369.2)))
theorem mend_Object.mono : ∀ a0 a1 a2 k, LeO (mend_Object.f k a0 a1 a2) (mend_Object.f (k + 1) a0 a1 a2) := by
 intro a0 a1 a2 k
 unfold mend_Object.f
 repeat' first
   | (with_reducible exact mend_Data.mono _ _ _ _)
   | (with_reducible exact LeO.refl _)
   | (with_reducible exact LeO.none _)
   | (with_reducible refine LeO.ite ?_ ?_)
   | (with_reducible refine LeO.bind ?_ (fun _ => ?_))
   | exact mend_Data.mono _ _ _ _
   | exact LeO.none _
   | refine LeO.ite ?_ ?_
   | refine LeO.bind ?_ (fun _ => ?_)
set_option maxHeartbeats 8000000 in
set_option maxRecDepth 100000 in
theorem mend_Object.calls (k : Nat) (a0 : Int) (a1 : Int) (A2 : Option Addr) (c2 : Nat) (l2 : List (S62)) (r1 : ByteArray) (r2 : Int) (w : World) (hr2 : Kd.C k62 w A2 l2.length l2) (hc2 : l2.length ≤ c2) (h : mend_Object.f k a0 a1 l2 = some (r1, r2)) :
  Calls Tryd.prog 40 #[.int .i64 a0, .int .i64 a1, .slice A2 l2.length c2] w fun e w' => e = .returned (.tuple #[.string r1, .int .i64 r2]) ∧ Below w.heap.size w w' := by
 have HR2 := Aside0.mk hr2
 have HC2 := Aside0.mk hc2
 clear hr2 hc2
 have HB := Aside0.mk (Below.refl w.heap.size w)
 have H : ((mend_Data.f k a0 a1 l2).bind fun bt369 => (if bt369.2 = 0 then ((stripe_Join.f bt369.1).bind fun bt373 => (some (bt373.1, bt373.2))) else (some ((⟨#[]⟩ : ByteArray), bt369.2)))) = some (r1, r2) := h
 clear h
 replace H := Option.bind_eq_some_iff.mp H
 obtain ⟨⟨t369, t370⟩, A40, H⟩ := H
 replace H : (if t370 = 0 then ((stripe_Join.f t369).bind fun bt373 => (some (bt373.1, bt373.2))) else (some ((⟨#[]⟩ : ByteArray), t370))) = some (r1, r2) := H
 have A4 := Aside0.mk A40
 clear A40
 by_cases c5 : t370 = 0
 ·rw [if_pos c5] at H
  have c5b0 : (t370 == 0) = true := beq_iff_eq.mpr c5
  have c5b1 : (t370 != 0) = false := bne_eq_false_iff_eq.mpr c5
  clear c5
  replace H := Option.bind_eq_some_iff.mp H
  obtain ⟨⟨t373, t374⟩, A60, H⟩ := H
  replace H : (some (t373, t374)) = some (r1, r2) := H
  have A6 := Aside0.mk A60
  clear A60
  simp only [Option.some.injEq, Prod.mk.injEq] at H
  obtain ⟨rfl, rfl⟩ := H
  go_enter Tryd.func40, Tryd.ntmps40
  go_wp2_with (first | ((with_reducible refine gate_callee (f := 38) rfl ?_); refine goesL_ (some 14) rfl rfl Tryd.func38 (by kernel_rfl) rfl #[.int .i64 a0, .int .i64 a1, .slice A2 l2.length c2] rfl (by (try simp only [List.map_toArray, List.map_cons, List.map_nil]); first | done | rfl | (simp only [List.length_drop, List.length_take]; rfl)) ?_; (with_reducible refine (mend_Data.calls k a0 a1 _ _ l2 t369 t370 _ ?side1 ?side2 A4.out).mono ?_); (case side1 => repeat (first | exact HR2.out | (with_reducible refine Kd.C_alloc ?_ _) | (with_reducible refine Kd.C_drewN ?_ _) | (with_reducible refine Kd.C_drew ?_))); (case side2 => exact HC2.out); rintro e w7 ⟨v371, rfl, ho0, hb⟩; refine ⟨_, rfl, ?_⟩; have n0_ := Aside0.mk (Kd.R_lower ho0 (below_size (by repeat (first | (with_reducible first | exact HB.out | apply below_alloc | apply pw_below_drewN | apply below_drew1) | exact HB.out)))); have n1_ := Aside0.mk (below_step (by repeat (first | (with_reducible first | exact HB.out | apply below_alloc | apply pw_below_drewN | apply below_drew1) | exact HB.out)) hb); clear HB; have HO372 := n0_; have HB := n1_; clear n0_ n1_; (try clear hb); (try clear hb2); (try clear hk); (try clear hi); (try clear ho0); obtain ⟨Ao8, co8, eo8⟩ := Kd.R_slice HO372.out; subst eo8) | ((with_reducible refine gate_callee (f := 22) rfl ?_); refine goesL_ (some 21) rfl rfl Tryd.func22 (by kernel_rfl) rfl #[.slice Ao8 t369.length co8] rfl (by (try simp only [List.map_toArray, List.map_cons, List.map_nil]); first | done | rfl | (simp only [List.length_drop, List.length_take]; rfl)) ?_; (with_reducible refine (stripe_Join.calls _ _ t369 t373 t374 _ ?side1 ?side2 A6.out).mono ?_); (case side1 => repeat (first | exact (Kd.R_reads' HO372.out).2.2 | (with_reducible refine Kd.C_alloc ?_ _) | (with_reducible refine Kd.C_drewN ?_ _) | (with_reducible refine Kd.C_drew ?_))); (case side2 => exact (Kd.R_reads' HO372.out).2.1); rintro e w9 ⟨rfl, hb⟩; refine ⟨_, rfl, ?_⟩; have n0_ := Aside0.mk (Kd.R_below (by (with_reducible repeat (first | apply Kd.R_alloc | apply Kd.R_drewN | apply Kd.R_drew)); exact HO372.out) hb); have n1_ := Aside0.mk (below_step (by repeat (first | (with_reducible first | exact HB.out | apply below_alloc | apply pw_below_drewN | apply below_drew1) | exact HB.out)) hb); clear HO372; clear HB; have HO372 := n0_; have HB := n1_; clear n0_ n1_; (try clear hb); (try clear hb2); (try clear hk); (try clear hi)))
  go_ret2
  exact ⟨by first | rfl | (simp [errW_none, errW_some] <;> rfl) | (simp [*, errW_none, errW_some] <;> rfl), by repeat (first | (with_reducible first | exact HB.out | apply below_alloc | apply pw_below_drewN | apply below_drew1) | exact HB.out)⟩
 ·rw [if_neg c5] at H
  have c5b0 : (t370 == 0) = false := beq_eq_false_iff_ne.mpr c5
  have c5b1 : (t370 != 0) = true := bne_iff_ne.mpr c5
  simp only [Option.some.injEq, Prod.mk.injEq] at H
  obtain ⟨rfl, rfl⟩ := H
  go_enter Tryd.func40, Tryd.ntmps40
  go_wp2_with (first | ((with_reducible refine gate_callee (f := 38) rfl ?_); refine goesL_ (some 14) rfl rfl Tryd.func38 (by kernel_rfl) rfl #[.int .i64 a0, .int .i64 a1, .slice A2 l2.length c2] rfl (by (try simp only [List.map_toArray, List.map_cons, List.map_nil]); first | done | rfl | (simp only [List.length_drop, List.length_take]; rfl)) ?_; (with_reducible refine (mend_Data.calls k a0 a1 _ _ l2 t369 t370 _ ?side1 ?side2 A4.out).mono ?_); (case side1 => repeat (first | exact HR2.out | (with_reducible refine Kd.C_alloc ?_ _) | (with_reducible refine Kd.C_drewN ?_ _) | (with_reducible refine Kd.C_drew ?_))); (case side2 => exact HC2.out); rintro e w10 ⟨v371, rfl, ho0, hb⟩; refine ⟨_, rfl, ?_⟩; have n0_ := Aside0.mk (Kd.R_lower ho0 (below_size (by repeat (first | (with_reducible first | exact HB.out | apply below_alloc | apply pw_below_drewN | apply below_drew1) | exact HB.out)))); have n1_ := Aside0.mk (below_step (by repeat (first | (with_reducible first | exact HB.out | apply below_alloc | apply pw_below_drewN | apply below_drew1) | exact HB.out)) hb); clear HB; have HO372 := n0_; have HB := n1_; clear n0_ n1_; (try clear hb); (try clear hb2); (try clear hk); (try clear hi); (try clear ho0)))
  go_ret2
  exact ⟨by first | rfl | (simp [errW_none, errW_some] <;> rfl) | (simp [*, errW_none, errW_some] <;> rfl), by repeat (first | (with_reducible first | exact HB.out | apply below_alloc | apply pw_below_drewN | apply below_drew1) | exact HB.out)⟩

end Go.Proofs.YtegmmefijihdeaaDoor.PS
namespace Go.Proofs.YtegmmefijihdeaaDoor.PS
open Go.RowKit Go.Proofs.YtegmmefijihdeaaDoorW.PrintWords Go.Proofs.YtegmmefijihdeaaDoorW.PrintLast Go.Proofs.YtegmmefijihdeaaDoorW.PrintMore
attribute [local go_sem] Mk.str_leq Mk.str_gtr Mk.str_geq max2_int min2_int max_two min_two max_three min_three max_four min_four   -- for this text's walks alone
set_option linter.unusedVariables false
set_option linter.unusedSimpArgs false

/-! ### mend_all: function 65 -/
def mend_all.f (k : Nat) (a0 : Int) (a1 : Int) (l2 : List (S62)) : Option (List ByteArray × Int) := (mend_Data.f k a0 a1 l2).bind fun bt526 => (if bt526.2 = 0 then ((stripe_Parity.f a0 a1 bt526.1).bind fun bt530 => (if bt526.1.length + bt530.1.length < 8796093022208 then (some ((bt526.1 ++ bt530.1), bt530.2)) else (none))) else (some (([] : List ByteArray), bt526.2)))
theorem mend_all.mono : ∀ a0 a1 a2 k, LeO (mend_all.f k a0 a1 a2) (mend_all.f (k + 1) a0 a1 a2) := by
 intro a0 a1 a2 k
 unfold mend_all.f
 repeat' first
   | (with_reducible exact mend_Data.mono _ _ _ _)
   | (with_reducible exact LeO.refl _)
   | (with_reducible exact LeO.none _)
   | (with_reducible refine LeO.ite ?_ ?_)
   | (with_reducible refine LeO.bind ?_ (fun _ => ?_))
   | exact mend_Data.mono _ _ _ _
   | exact LeO.none _
   | refine LeO.ite ?_ ?_
   | refine LeO.bind ?_ (fun _ => ?_)
set_option maxHeartbeats 8000000 in
set_option maxRecDepth 100000 in
theorem mend_all.calls (k : Nat) (a0 : Int) (a1 : Int) (A2 : Option Addr) (c2 : Nat) (l2 : List (S62)) (r1 : List ByteArray) (r2 : Int) (w : World) (hr2 : Kd.C k62 w A2 l2.length l2) (hc2 : l2.length ≤ c2) (h : mend_all.f k a0 a1 l2 = some (r1, r2)) :
  Calls Tryd.prog 65 #[.int .i64 a0, .int .i64 a1, .slice A2 l2.length c2] w fun e w' => ∃ v0_ : Value, e = .returned (.tuple #[v0_, .int .i64 r2]) ∧ Kd.R Kd.string 9 w' w.heap.size (fun _ => True) v0_ r1 ∧ Below w.heap.size w w' := by
 have HR2 := Aside0.mk hr2
 have HC2 := Aside0.mk hc2
 clear hr2 hc2
 have HB := Aside0.mk (Below.refl w.heap.size w)
 have H : ((mend_Data.f k a0 a1 l2).bind fun bt526 => (if bt526.2 = 0 then ((stripe_Parity.f a0 a1 bt526.1).bind fun bt530 => (if bt526.1.length + bt530.1.length < 8796093022208 then (some ((bt526.1 ++ bt530.1), bt530.2)) else (none))) else (some (([] : List ByteArray), bt526.2)))) = some (r1, r2) := h
 clear h
 replace H := Option.bind_eq_some_iff.mp H
 obtain ⟨⟨t526, t527⟩, A40, H⟩ := H
 replace H : (if t527 = 0 then ((stripe_Parity.f a0 a1 t526).bind fun bt530 => (if t526.length + bt530.1.length < 8796093022208 then (some ((t526 ++ bt530.1), bt530.2)) else (none))) else (some (([] : List ByteArray), t527))) = some (r1, r2) := H
 have A4 := Aside0.mk A40
 clear A40
 by_cases c5 : t527 = 0
 ·rw [if_pos c5] at H
  have c5b0 : (t527 == 0) = true := beq_iff_eq.mpr c5
  have c5b1 : (t527 != 0) = false := bne_eq_false_iff_eq.mpr c5
  clear c5
  replace H := Option.bind_eq_some_iff.mp H
  obtain ⟨⟨t530, t531⟩, A60, H⟩ := H
  replace H : (if t526.length + t530.length < 8796093022208 then (some ((t526 ++ t530), t531)) else (none)) = some (r1, r2) := H
  have A6 := Aside0.mk A60
  clear A60
  by_cases c7 : t526.length + t530.length < 8796093022208
  ·rw [if_pos c7] at H
   have LMc7 := Aside0.mk c7
   clear c7
   obtain ⟨y534, hy534⟩ : ∃ y_ : List ByteArray, y_ = (t526 ++ t530) := ⟨_, rfl⟩
   replace H : (some (y534, t531)) = some (r1, r2) := by first | (rw [hy534]; with_reducible exact H) | (have H2_ := (Option.bind_some _ _).symm.trans H; rw [hy534]; with_reducible exact H2_) | (have H2_ := (Option.bind_some _ _).symm.trans H; with_reducible exact H2_) | with_reducible exact H | (rw [hy534]; exact H) | exact H
   have Ny534 := Aside0.mk hy534
   clear hy534
   simp only [Option.some.injEq, Prod.mk.injEq] at H
   obtain ⟨rfl, rfl⟩ := H
   go_enter Tryd.func65, Tryd.ntmps65
   go_wp2_with (first | ((with_reducible refine gate_callee (f := 38) rfl ?_); refine goesL_ (some 15) rfl rfl Tryd.func38 (by kernel_rfl) rfl #[.int .i64 a0, .int .i64 a1, .slice A2 l2.length c2] rfl (by (try simp only [List.map_toArray, List.map_cons, List.map_nil]); first | done | rfl | (simp only [List.length_drop, List.length_take]; rfl)) ?_; (with_reducible refine (mend_Data.calls k a0 a1 _ _ l2 t526 t527 _ ?side1 ?side2 A4.out).mono ?_); (case side1 => repeat (first | exact HR2.out | (with_reducible refine Kd.C_alloc ?_ _) | (with_reducible refine Kd.C_drewN ?_ _) | (with_reducible refine Kd.C_drew ?_))); (case side2 => exact HC2.out); rintro e w8 ⟨v528, rfl, ho0, hb⟩; refine ⟨_, rfl, ?_⟩; have n0_ := Aside0.mk (Kd.R_lower ho0 (below_size (by repeat (first | (with_reducible first | exact HB.out | apply below_alloc | apply pw_below_drewN | apply below_drew1) | exact HB.out)))); have n1_ := Aside0.mk (below_step (by repeat (first | (with_reducible first | exact HB.out | apply below_alloc | apply pw_below_drewN | apply below_drew1) | exact HB.out)) hb); clear HB; have HO529 := n0_; have HB := n1_; clear n0_ n1_; (try clear hb); (try clear hb2); (try clear hk); (try clear hi); (try clear ho0); obtain ⟨Ao9, co9, eo9⟩ := Kd.R_slice HO529.out; subst eo9) | ((with_reducible refine gate_callee (f := 28) rfl ?_); refine goesL_ (some 25) rfl rfl Tryd.func28 (by kernel_rfl) rfl #[.int .i64 a0, .int .i64 a1, .slice Ao9 t526.length co9] rfl (by (try simp only [List.map_toArray, List.map_cons, List.map_nil]); first | done | rfl | (simp only [List.length_drop, List.length_take]; rfl)) ?_; (with_reducible refine (stripe_Parity.calls a0 a1 _ _ t526 t530 t531 _ ?side1 ?side2 A6.out).mono ?_); (case side1 => repeat (first | exact (Kd.R_reads' HO529.out).2.2 | (with_reducible refine Kd.C_alloc ?_ _) | (with_reducible refine Kd.C_drewN ?_ _) | (with_reducible refine Kd.C_drew ?_))); (case side2 => exact (Kd.R_reads' HO529.out).2.1); rintro e w10 ⟨v532, rfl, ho0, hb⟩; refine ⟨_, rfl, ?_⟩; have n0_ := Aside0.mk (Kd.R_elder' (by (with_reducible repeat (first | apply Kd.R_alloc | apply Kd.R_drewN | apply Kd.R_drew)); exact HO529.out) (Kd.R_base ho0) hb); have n1_ := Aside0.mk (Kd.R_lower (Kd.R_new' ho0 (Kd.R_lt (by (with_reducible repeat (first | apply Kd.R_alloc | apply Kd.R_drewN | apply Kd.R_drew)); exact HO529.out))) (below_size (by repeat (first | (with_reducible first | exact HB.out | apply below_alloc | apply pw_below_drewN | apply below_drew1) | exact HB.out)))); have n2_ := Aside0.mk (below_step (by repeat (first | (with_reducible first | exact HB.out | apply below_alloc | apply pw_below_drewN | apply below_drew1) | exact HB.out)) hb); clear HO529; clear HB; have HO529 := n0_; have HO533 := n1_; have HB := n2_; clear n0_ n1_ n2_; (try clear hb); (try clear hb2); (try clear hk); (try clear hi); (try clear ho0); obtain ⟨Ao12, co12, eo12⟩ := Kd.R_slice HO533.out; subst eo12) | ((with_reducible refine gate_builtin (b := .append) (xs := #[.tmp 28, .tmp 29]) rfl ?_); at_builtin; refine Kd.R_append_rows Kd.string (w0 := w) w.heap.size rfl (.tmp 28) (.tmp 29) 25 9 (.string ⟨#[]⟩) 16 rfl Tryd.underlying25 info9 rfl (by decide) (by omega) (.slice Ao9 t526.length co9) t526 t530 _ _ _ (fun k_ => some k_ ≠ (.slice Ao12 t530.length co12 : Value).ownBlock) (fun _ => False) rfl rfl ?aO ?aR (fun _ _ h => h) (fun _ h => h.elim) ?aF ?aB ?aS ?aL ?_; (case aR => repeat (first | exact (Kd.R_reads' HO533.out).2.2 | (with_reducible refine Kd.C_alloc ?_ _) | (with_reducible refine Kd.C_drewN ?_ _) | (with_reducible refine Kd.C_drew ?_))); (case aB => exact (by repeat (first | (with_reducible first | exact HB.out | apply below_alloc | apply pw_below_drewN | apply below_drew1) | exact HB.out))); (case aF => exact (fun k_ hk => Kd.fresh' (Kd.R_lt (by (with_reducible repeat (first | apply Kd.R_alloc | apply Kd.R_drewN | apply Kd.R_drew)); exact HO533.out)) k_ hk)); (case aO => exact (by (with_reducible repeat (first | apply Kd.R_alloc | apply Kd.R_drewN | apply Kd.R_drew)); exact Kd.R_mono HO529.out (fun _ hk => hk.2))); (case aS => exact (below_size (by repeat (first | (with_reducible first | exact HB.out | apply below_alloc | apply pw_below_drewN | apply below_drew1) | exact HB.out)))); (case aL => have := LMc7.out; omega); intro v535 w11 ho hb hg hat; rw [← Ny534.out] at ho; have n0_ := Aside0.mk (Kd.R_after (ok := (fun _ => True)) (by (with_reducible repeat (first | apply Kd.R_alloc | apply Kd.R_drewN | apply Kd.R_drew)); exact HO533.out) hg hat); have n1_ := Aside0.mk (hb); have n2_ := Aside0.mk (ho); clear HO533; clear HB; clear HO529; have HO533 := n0_; have HB := n1_; have HO536 := n2_; clear n0_ n1_ n2_; clear ho hb hg hat))
   go_ret2
   exact ⟨_, by first | rfl | (simp [errW_none, errW_some] <;> rfl) | (simp [*, errW_none, errW_some] <;> rfl), by (with_reducible repeat (first | apply Kd.R_alloc | apply Kd.R_drewN | apply Kd.R_drew)); exact Kd.R_mono HO536.out (fun _ hk => trivial), by repeat (first | (with_reducible first | exact HB.out | apply below_alloc | apply pw_below_drewN | apply below_drew1) | exact HB.out)⟩
  ·rw [if_neg c7] at H
   exact absurd H (by simp)
 ·rw [if_neg c5] at H
  have c5b0 : (t527 == 0) = false := beq_eq_false_iff_ne.mpr c5
  have c5b1 : (t527 != 0) = true := bne_iff_ne.mpr c5
  simp only [Option.some.injEq, Prod.mk.injEq] at H
  obtain ⟨rfl, rfl⟩ := H
  go_enter Tryd.func65, Tryd.ntmps65
  go_wp2_with (first | ((with_reducible refine gate_callee (f := 38) rfl ?_); refine goesL_ (some 15) rfl rfl Tryd.func38 (by kernel_rfl) rfl #[.int .i64 a0, .int .i64 a1, .slice A2 l2.length c2] rfl (by (try simp only [List.map_toArray, List.map_cons, List.map_nil]); first | done | rfl | (simp only [List.length_drop, List.length_take]; rfl)) ?_; (with_reducible refine (mend_Data.calls k a0 a1 _ _ l2 t526 t527 _ ?side1 ?side2 A4.out).mono ?_); (case side1 => repeat (first | exact HR2.out | (with_reducible refine Kd.C_alloc ?_ _) | (with_reducible refine Kd.C_drewN ?_ _) | (with_reducible refine Kd.C_drew ?_))); (case side2 => exact HC2.out); rintro e w13 ⟨v528, rfl, ho0, hb⟩; refine ⟨_, rfl, ?_⟩; have n0_ := Aside0.mk (Kd.R_lower ho0 (below_size (by repeat (first | (with_reducible first | exact HB.out | apply below_alloc | apply pw_below_drewN | apply below_drew1) | exact HB.out)))); have n1_ := Aside0.mk (below_step (by repeat (first | (with_reducible first | exact HB.out | apply below_alloc | apply pw_below_drewN | apply below_drew1) | exact HB.out)) hb); clear HB; have HO529 := n0_; have HB := n1_; clear n0_ n1_; (try clear hb); (try clear hb2); (try clear hk); (try clear hi); (try clear ho0)))
  go_ret2
  exact ⟨_, by first | rfl | (simp [errW_none, errW_some] <;> rfl) | (simp [*, errW_none, errW_some] <;> rfl), by first | exact Kd.R_nil _ _ _ _ _ | exact Kd.N_nil _ _ _ _ _ | exact Kd.V_nil _ _ _ _ _ | exact Kd.Q_nil _ _ _ _ _ | exact Kd.S_nil _ _ _ _ _, by repeat (first | (with_reducible first | exact HB.out | apply below_alloc | apply pw_below_drewN | apply below_drew1) | exact HB.out)⟩

end Go.Proofs.YtegmmefijihdeaaDoor.PS
namespace Go.Proofs.YtegmmefijihdeaaDoor.PS
open Go.RowKit Go.Proofs.YtegmmefijihdeaaDoorW.PrintWords Go.Proofs.YtegmmefijihdeaaDoorW.PrintLast Go.Proofs.YtegmmefijihdeaaDoorW.PrintMore Go.Proofs.YtegmmefijihdeaaDoor.Gf Go.Proofs.YtegmmefijihdeaaDoor.Fld Go.Proofs.YtegmmefijihdeaaDoor.Grd Go.Proofs.YtegmmefijihdeaaDoor.Rowb
set_option linter.unusedVariables false
set_option linter.unusedSimpArgs false
theorem accC_get (c : Nat → UInt8) (n : Nat) (data : List ByteArray) (q t : Nat) (h : t < n) : (accC c n data q).getD t 0 = xs (List.range q) fun j => gmul (c j) (dAt data j t) := by
  rw [getD_lt _ _ _ (by rw [accC_len]; exact h)]
  unfold accC
  rw [List.getElem_map, List.getElem_range]
theorem accC_dotn (c : Nat → UInt8) (n : Nat) (data : List ByteArray) (q t : Nat) (h : t < n) : (accC c n data q).getD t 0 = dotn q c (fun j => dAt data j t) := accC_get c n data q t h
theorem dAt_at (data : List ByteArray) (j t : Nat) (h : j < data.length) : dAt data j t = data[j].data.toList.getD t 0 := by
  unfold dAt
  rw [getD_lt _ _ _ h]
theorem txt_ext {s : ByteArray} {l : List UInt8} (h1 : s.size = l.length) (h2 : ∀ t, t < l.length → l.getD t 0 = s.data.toList.getD t 0) : txt l = s := by
  rw [← txt_eq s]
  congr 1
  have hl : s.data.toList.length = l.length := by rw [Array.length_toList]; exact h1
  apply List.ext_getElem hl.symm
  intro t ht1 ht2
  have := h2 t ht1
  rwa [getD_lt _ _ _ ht1, getD_lt _ _ _ ht2] at this
/-- A row of the identity gives the shard itself. -/
theorem accC_unit (K n : Nat) (data : List ByteArray) (hl : data.length = K) (hs : ∀ s, s ∈ data → s.size = n) (r : Nat) (hr : r < K) : txt (accC (genAt K r) n data K) = data[r]'(by omega) := by
  refine txt_ext (by rw [accC_len]; exact hs _ (List.getElem_mem _)) (fun t ht => ?_)
  rw [accC_len] at ht
  rw [accC_dotn _ _ _ _ _ ht, dotn_congr (b := fun j => if r = j then 1 else 0) (fun j _ => by unfold genAt; rw [if_pos hr]) (fun _ _ => rfl), dotn_unit K r hr, dAt_at data r t (by omega)]
/-- All shards of a code. -/
def allL (K M n : Nat) (data : List ByteArray) : List ByteArray := data ++ parL K n data M
theorem allL_len {K M n : Nat} {data : List ByteArray} (hl : data.length = K) : (allL K M n data).length = K + M := by unfold allL; rw [List.length_append, parL_len, hl]
theorem allL_under (K M n : Nat) (data : List ByteArray) (hl : data.length = K) (hs : ∀ s, s ∈ data → s.size = n) : ((List.range (K + M)).map fun r => txt (accC (genAt K r) n data K)) = allL K M n data := by
  unfold allL
  apply List.ext_getElem
  · simp [parL_len, hl]
  · intro i h1 h2
    simp only [List.getElem_map, List.getElem_range]
    by_cases hi : i < K
    · rw [List.getElem_append_left (by omega), accC_unit K n data hl hs i hi]
    · rw [List.getElem_append_right (by omega)]
      unfold parL
      simp only [List.getElem_map, List.getElem_range]
      rw [show K + (i - data.length) = i by omega]
      rfl
theorem allL_at {K M n : Nat} {data : List ByteArray} (hl : data.length = K) (hs : ∀ s, s ∈ data → s.size = n) (i : Nat) (hi : i < K + M) : (allL K M n data)[i]'(by rw [allL_len hl]; exact hi) = txt (accC (genAt K i) n data K) := by
  have h := allL_under K M n data hl hs
  have e : (allL K M n data)[i]? = some (txt (accC (genAt K i) n data K)) := by
    rw [← h, List.getElem?_map, List.getElem?_range hi]
    rfl
  rw [List.getElem?_eq_getElem (by rw [allL_len hl]; exact hi)] at e
  injection e
theorem even_mk {l : List ByteArray} {n : Nat} (h0 : 0 < l.length) (hs : ∀ s, s ∈ l → s.size = n) : evenB l = true ∧ (rdOf ByteArray.empty l 0).size = n := by
  have e0 : rdOf ByteArray.empty l 0 = l[0] := rdOf_nat _ 0 h0
  have e1 : (rdOf ByteArray.empty l 0).size = n := by rw [e0]; exact hs _ (List.getElem_mem _)
  refine ⟨?_, e1⟩
  unfold evenB
  rw [List.all_eq_true]
  intro s hm
  rw [hs s hm, e1]
  simp
theorem flat_size {l : List ByteArray} {n : Nat} (hs : ∀ s, s ∈ l → s.size = n) : (flat l).length = l.length * n := by
  induction l with
  | nil => simp [flat]
  | cons x r ih =>
    have e : flat (x :: r) = x.data.toList ++ flat r := by unfold flat; simp
    rw [e, List.length_append, ih (fun s h => hs s (List.mem_cons_of_mem _ h)), List.length_cons, Nat.succ_mul, Array.length_toList]
    have := hs x List.mem_cons_self
    show x.size + _ = _
    omega
section
variable {K M : Nat} {l : List S62} (g : Good K M l)
include g
theorem Good.par_f : stripe_Parity.f (K : Int) (M : Int) (dataL K M l) = some (parL K (shardN l) (dataL K M l) M, 0) := by
  have h1 := g.k1
  have h2 := g.km
  obtain ⟨e1, e2⟩ := even_mk (by rw [g.dataLen]; exact h1) g.dataSize
  unfold stripe_Parity.f parityV
  rw [if_pos (codeB_in h1 h2), if_pos ⟨by rw [g.dataLen], e1⟩, e2, if_pos (show shardN l ≤ 2052 from g.most)]
  rfl
theorem Good.all_f (k : Nat) (hk : 256 ≤ k) : mend_all.f k (K : Int) (M : Int) l = some (allL K M (shardN l) (dataL K M l), 0) := by
  have h2 := g.km
  unfold mend_all.f
  rw [g.data_f k hk, Option.bind_some, if_pos rfl]
  simp only
  rw [g.par_f, Option.bind_some, if_pos (by rw [g.dataLen, parL_len]; omega)]
  rfl
theorem Good.object_f (k : Nat) (hk : 256 ≤ k) : mend_Object.f k (K : Int) (M : Int) l = some (joinV (dataL K M l)) := by
  have h1 := g.k1
  have h2 := g.km
  have hm := g.most
  have hfl := flat_size g.dataSize
  rw [g.dataLen] at hfl
  have hb : K * shardN l ≤ 255 * 2052 := Nat.mul_le_mul (by omega) hm
  have hf : joinFits (dataL K M l) = true := by unfold joinFits; exact decide_eq_true (fun _ => by omega)
  unfold mend_Object.f
  rw [g.data_f k hk, Option.bind_some, if_pos rfl]
  simp only
  unfold stripe_Join.f
  rw [if_pos hf, Option.bind_some]
/-- Shards that are a code's own make the data again. -/
theorem Good.recover (data : List ByteArray) (hd : data.length = K) (hs : ∀ s, s ∈ data → s.size = shardN l) (hx : ∀ (i : Nat) (h : i < K), (l[i]'(by have := g.len; omega)).f1 = txt (accC (genAt K (l[i]'(by have := g.len; omega)).f0.toNat) (shardN l) data K)) : dataL K M l = data := by
  have hlen := g.len
  unfold dataL undL
  apply List.ext_getElem
  · simp [hd]
  · intro i h1 h2
    have hi : i < K := by simpa using h1
    simp only [List.getElem_map, List.getElem_range]
    refine txt_ext (by rw [accC_len]; exact hs _ (List.getElem_mem _)) (fun t ht => ?_)
    rw [accC_len] at ht
    rw [accC_dotn _ _ _ _ _ ht]
    have h3 := g.inv.2.2 (fun j => dAt data j t) i hi
    rw [← dAt_at data i t (by omega), ← h3]
    refine dotn_congr (fun _ _ => rfl) (fun j hj => ?_)
    rw [dAt_at _ j t (by rw [g.havLen]; exact hj), g.havAt j (by rw [g.havLen]; exact hj), hx j hj, txt_list, accC_dotn _ _ _ _ _ ht]
    exact dotn_congr (fun q hq => (g.pickAt j q hj hq).symm) (fun _ _ => rfl)
end
end Go.Proofs.YtegmmefijihdeaaDoor.PS
namespace Go.Proofs.YtegmmefijihdeaaDoor.PS
open Go.RowKit Go.Proofs.YtegmmefijihdeaaDoorW.PrintWords Go.Proofs.YtegmmefijihdeaaDoorW.PrintLast Go.Proofs.YtegmmefijihdeaaDoorW.PrintMore
attribute [local go_sem] Mk.str_leq Mk.str_gtr Mk.str_geq max2_int min2_int max_two min_two max_three min_three max_four min_four   -- for this text's walks alone
set_option linter.unusedVariables false
set_option linter.unusedSimpArgs false

/-! ### corncribbook_LendTexts: function 21 -/
def corncribbook_LendTexts.f (l0 : List ByteArray) : Option (List ByteArray) := (some (([] : List ByteArray) : List ByteArray)).bind fun y166 => (if y166.length + l0.length < 8796093022208 then ((some (y166 ++ l0 : List ByteArray)).bind fun y169 => (if y169.length < 8796093022208 then ((some (y169 ++ [(⟨#[109, 97, 114, 107]⟩ : ByteArray)] : List ByteArray)).bind fun y172 => (if 0 ≤ (l0.length : Int) then (if (l0.length : Int) ≤ (y172.length : Int) then (some (y172.take ((l0.length : Int) : Int).toNat)) else (none)) else (none))) else (none))) else (none))
set_option maxHeartbeats 8000000 in
set_option maxRecDepth 100000 in
theorem corncribbook_LendTexts.calls (A0 : Option Addr) (c0 : Nat) (l0 : List ByteArray) (r : List ByteArray) (w : World) (hr0 : Kd.C Kd.string w A0 l0.length l0) (hc0 : l0.length ≤ c0) (h : corncribbook_LendTexts.f l0 = some r) :
  Calls Tryd.prog 21 #[.slice A0 l0.length c0] w fun e w' => ∃ v0_ : Value, e = .returned (v0_) ∧ Kd.R Kd.string 9 w' w.heap.size (fun _ => True) v0_ r ∧ Below w.heap.size w w' := by
 have HR0 := Aside0.mk hr0
 have HC0 := Aside0.mk hc0
 clear hr0 hc0
 have HB := Aside0.mk (Below.refl w.heap.size w)
 have H : ((some (([] : List ByteArray) : List ByteArray)).bind fun y166 => (if y166.length + l0.length < 8796093022208 then ((some (y166 ++ l0 : List ByteArray)).bind fun y169 => (if y169.length < 8796093022208 then ((some (y169 ++ [(⟨#[109, 97, 114, 107]⟩ : ByteArray)] : List ByteArray)).bind fun y172 => (if 0 ≤ (l0.length : Int) then (if (l0.length : Int) ≤ (y172.length : Int) then (some (y172.take ((l0.length : Int) : Int).toNat)) else (none)) else (none))) else (none))) else (none))) = some r := h
 clear h
 obtain ⟨y166, hy166⟩ : ∃ y_ : List ByteArray, y_ = (([] : List ByteArray)) := ⟨_, rfl⟩
 replace H : (if y166.length + l0.length < 8796093022208 then ((some (y166 ++ l0 : List ByteArray)).bind fun y169 => (if y169.length < 8796093022208 then ((some (y169 ++ [(⟨#[109, 97, 114, 107]⟩ : ByteArray)] : List ByteArray)).bind fun y172 => (if 0 ≤ (l0.length : Int) then (if (l0.length : Int) ≤ (y172.length : Int) then (some (y172.take ((l0.length : Int) : Int).toNat)) else (none)) else (none))) else (none))) else (none)) = some r := by first | (rw [hy166]; with_reducible exact H) | (have H2_ := (Option.bind_some _ _).symm.trans H; rw [hy166]; with_reducible exact H2_) | (have H2_ := (Option.bind_some _ _).symm.trans H; with_reducible exact H2_) | with_reducible exact H | (rw [hy166]; exact H) | exact H
 have Ny166 := Aside0.mk hy166
 clear hy166
 by_cases c2 : y166.length + l0.length < 8796093022208
 ·rw [if_pos c2] at H
  have LMc2 := Aside0.mk c2
  clear c2
  obtain ⟨y169, hy169⟩ : ∃ y_ : List ByteArray, y_ = (y166 ++ l0) := ⟨_, rfl⟩
  replace H : (if y169.length < 8796093022208 then ((some (y169 ++ [(⟨#[109, 97, 114, 107]⟩ : ByteArray)] : List ByteArray)).bind fun y172 => (if 0 ≤ (l0.length : Int) then (if (l0.length : Int) ≤ (y172.length : Int) then (some (y172.take ((l0.length : Int) : Int).toNat)) else (none)) else (none))) else (none)) = some r := by first | (rw [hy169]; with_reducible exact H) | (have H2_ := (Option.bind_some _ _).symm.trans H; rw [hy169]; with_reducible exact H2_) | (have H2_ := (Option.bind_some _ _).symm.trans H; with_reducible exact H2_) | with_reducible exact H | (rw [hy169]; exact H) | exact H
  have Ny169 := Aside0.mk hy169
  clear hy169
  by_cases c3 : y169.length < 8796093022208
  ·rw [if_pos c3] at H
   have LMc3 := Aside0.mk c3
   clear c3
   obtain ⟨y172, hy172⟩ : ∃ y_ : List ByteArray, y_ = (y169 ++ [(⟨#[109, 97, 114, 107]⟩ : ByteArray)]) := ⟨_, rfl⟩
   replace H : (if 0 ≤ (l0.length : Int) then (if (l0.length : Int) ≤ (y172.length : Int) then (some (y172.take ((l0.length : Int) : Int).toNat)) else (none)) else (none)) = some r := by first | (rw [hy172]; with_reducible exact H) | (have H2_ := (Option.bind_some _ _).symm.trans H; rw [hy172]; with_reducible exact H2_) | (have H2_ := (Option.bind_some _ _).symm.trans H; with_reducible exact H2_) | with_reducible exact H | (rw [hy172]; exact H) | exact H
   have Ny172 := Aside0.mk hy172
   clear hy172
   by_cases c4 : 0 ≤ (l0.length : Int)
   ·rw [if_pos c4] at H
    have c4b0 := eq_true c4
    have c4b1 : decide (0 ≤ (l0.length : Int)) = true := decide_eq_true c4
    clear c4
    by_cases c5 : (l0.length : Int) ≤ (y172.length : Int)
    ·rw [if_pos c5] at H
     have c5b0 := eq_true c5
     have c5b1 : decide ((l0.length : Int) ≤ (y172.length : Int)) = true := decide_eq_true c5
     clear c5
     obtain ⟨y175, hy175⟩ : ∃ y_ : List ByteArray, y_ = (y172.take ((l0.length : Int) : Int).toNat) := ⟨_, rfl⟩
     replace H : (some y175) = some r := by first | (rw [hy175]; with_reducible exact H) | (have H2_ := (Option.bind_some _ _).symm.trans H; rw [hy175]; with_reducible exact H2_) | (have H2_ := (Option.bind_some _ _).symm.trans H; with_reducible exact H2_) | with_reducible exact H | (rw [hy175]; exact H) | exact H
     have Ny175 := Aside0.mk hy175
     clear hy175
     obtain rfl := Option.some.inj H
     go_enter Tryd.func21, Tryd.ntmps21
     go_wp2_with (first | ((with_reducible refine gate_dst (N := 4) rfl ?_); refine Kd.R_lit Kd.string _ 9 ?hg (N := 4) ?hd (xs := ([] : List ByteArray)) (inner := []) (ok := fun _ => True) (okp := fun _ => True) ?hr ?hp (fun _ hk => hk) trivial (Below.refl _ _) (Nat.le_refl _) (by simp) ?_; (case hd => rfl); (case hg => rfl); (case hr => first | (go_simp; done) | (go_simp; rfl)); (case hp => exact (Reps.none _ _)); intro v167 w6 ho7 hb hg_ hnew_; clear hg_ hnew_; (first | rw [← Ny166.out] at ho7 | (simp only [Int.reduceToNat] at ho7; rw [← Ny166.out] at ho7)); have n0_ := Aside0.mk (Kd.R_lower ho7 (below_size (by repeat (first | (with_reducible first | exact HB.out | apply below_alloc | apply pw_below_drewN | apply below_drew1) | exact HB.out)))); have n1_ := Aside0.mk (below_step (by repeat (first | (with_reducible first | exact HB.out | apply below_alloc | apply pw_below_drewN | apply below_drew1) | exact HB.out)) hb); clear HB; have HO168 := n0_; have HB := n1_; clear n0_ n1_; clear hb ho7) | ((with_reducible refine gate_builtin (b := .append) (xs := #[.tmp 4, .tmp 5]) rfl ?_); at_builtin; refine Kd.R_append_rows Kd.string (w0 := w) w.heap.size rfl (.tmp 4) (.tmp 5) 25 9 (.string ⟨#[]⟩) 16 rfl Tryd.underlying25 info9 rfl (by decide) (by omega) v167 y166 l0 _ _ _ (fun _ => True) (fun _ => False) rfl rfl ?aO ?aR (fun _ _ h => h) (fun _ h => h.elim) ?aF ?aB ?aS ?aL ?_; (case aR => repeat (first | exact (Kd.C_below HR0.out HB.out) | (with_reducible refine Kd.C_alloc ?_ _) | (with_reducible refine Kd.C_drewN ?_ _) | (with_reducible refine Kd.C_drew ?_))); (case aB => exact (by repeat (first | (with_reducible first | exact HB.out | apply below_alloc | apply pw_below_drewN | apply below_drew1) | exact HB.out))); (case aF => exact (fun _ _ => trivial)); (case aO => exact (by (with_reducible repeat (first | apply Kd.R_alloc | apply Kd.R_drewN | apply Kd.R_drew)); exact HO168.out)); (case aS => exact (below_size (by repeat (first | (with_reducible first | exact HB.out | apply below_alloc | apply pw_below_drewN | apply below_drew1) | exact HB.out)))); (case aL => have := LMc2.out; omega); intro v170 w8 ho hb hg hat; rw [← Ny169.out] at ho; have n0_ := Aside0.mk (hb); have n1_ := Aside0.mk (ho); clear HB; clear HO168; have HB := n0_; have HO171 := n1_; clear n0_ n1_; clear ho hb hg hat) | ((with_reducible refine gate_builtin (b := .append) (xs := #[.tmp 7, .tmp 8]) rfl ?_); at_builtin; refine Kd.R_append Kd.string (w0 := w) w.heap.size rfl (.tmp 7) (.tmp 8) 25 9 (.string ⟨#[]⟩) 16 rfl Tryd.underlying25 info9 rfl (by decide) (by omega) v170 y169 (⟨#[109, 97, 114, 107]⟩ : ByteArray) [.string (⟨#[109, 97, 114, 107]⟩ : ByteArray)] (fun _ => True) (fun _ => False) rfl rfl ?aP (fun _ hk => hk.elim) ?aF ?aO ?aB ?aS ?aL ?_; (case aP => exact rfl); (case aB => exact (by repeat (first | (with_reducible first | exact HB.out | apply below_alloc | apply pw_below_drewN | apply below_drew1) | exact HB.out))); (case aF => exact (fun _ _ => trivial)); (case aO => exact (by (with_reducible repeat (first | apply Kd.R_alloc | apply Kd.R_drewN | apply Kd.R_drew)); exact HO171.out)); (case aS => exact (below_size (by repeat (first | (with_reducible first | exact HB.out | apply below_alloc | apply pw_below_drewN | apply below_drew1) | exact HB.out)))); (case aL => have := LMc3.out; omega); intro v173 w9 ho hb hg hat; rw [← Ny172.out] at ho; have n0_ := Aside0.mk (hb); have n1_ := Aside0.mk (ho); clear HB; clear HO171; have HB := n0_; have HO174 := n1_; clear n0_ n1_; clear ho hb hg hat; obtain ⟨Ao10, co10, eo10⟩ := Kd.R_slice HO174.out; subst eo10; have q11 : ((l0.length : Int) : Int) ≤ ((y172.length : Int) : Int) := of_decide_eq_true (by first | (with_reducible assumption) | assumption); obtain ⟨i011, hi011, _, hsz11, _⟩ := info_parts info9; have hcut11 := cut_to (P := Tryd.prog) 25 9 .i64 Tryd.underlying25 hi011 Ao10 y172.length co10 (l0.length : Int) (of_decide_eq_true (by first | (with_reducible assumption) | assumption)) q11 (Kd.R_reads' HO174.out).2.1; have hr11 := Kd.R_take (m := ((l0.length : Int) : Int).toNat) HO174.out (by omega); have hy11 : y175.length = ((l0.length : Int) : Int).toNat := (by rw [Ny175.out, List.length_take]; omega); rw [← Ny175.out] at hr11; rw [← hy11] at hr11 hcut11; clear hy11 hi011 hsz11 HO174; have HO177 := Aside0.mk hr11; clear hr11; replace q11 := eq_true q11))
     go_ret
     exact ⟨_, by first | rfl | (simp [errW_none, errW_some] <;> rfl) | (simp [*, errW_none, errW_some] <;> rfl), by (with_reducible repeat (first | apply Kd.R_alloc | apply Kd.R_drewN | apply Kd.R_drew)); exact HO177.out, by repeat (first | (with_reducible first | exact HB.out | apply below_alloc | apply pw_below_drewN | apply below_drew1) | exact HB.out)⟩
    ·rw [if_neg c5] at H
     exact absurd H (by simp)
   ·rw [if_neg c4] at H
    exact absurd H (by simp)
  ·rw [if_neg c3] at H
   exact absurd H (by simp)
 ·rw [if_neg c2] at H
  exact absurd H (by simp)

end Go.Proofs.YtegmmefijihdeaaDoor.PS
namespace Go.Proofs.YtegmmefijihdeaaDoor.PS
open Go.RowKit Go.Proofs.YtegmmefijihdeaaDoorW.PrintWords Go.Proofs.YtegmmefijihdeaaDoorW.PrintLast Go.Proofs.YtegmmefijihdeaaDoorW.PrintMore
set_option linter.unusedVariables false
set_option linter.unusedSimpArgs false
def markT : ByteArray := ⟨#[109, 97, 114, 107]⟩
/-- l lies at the start of a row of one's own that has the mark behind it. -/
def Lent (w : World) (base : Nat) (A : Option Addr) (c : Nat) (l : List ByteArray) : Prop := Kd.R Kd.string 9 w base (fun _ => True) (.slice A (l ++ [markT]).length c) (l ++ [markT])
theorem cut_wide {P : Program} (t e : TypeId) (kh : IntKind) {i : TypeInfo} (ht : P.underlying t = some (.slice e)) (hi : P.info? e = some i) (A : Option Addr) (n c : Nat) (j : Int) (h0 : 0 ≤ j) (hm : j ≤ c) :
    ∀ W : World, (Instr.slice t (.slice A n c) none (some (.int kh j)) none).run P W = .ok (.slice A j.toNat c) W := by
  intro W
  have hel : P.elem t = e := by simp [Program.elem, ht]
  have hu : P.underlying t = some (.slice (P.elem t)) := by rw [hel]; exact ht
  have ha : (A.map fun x => x.add 0) = A := by cases A <;> simp [Addr.add]
  rw [run_slice_h W t A n c hu kh j h0 (by omega), hel]
  simp [sizeOf, typeInfo, hi, sliced, Result.andThen, ha]
theorem Lent.small {w : World} {base : Nat} {A : Option Addr} {c : Nat} {l : List ByteArray} (h : Lent w base A c l) : l.length < 9223372036854775807 := by
  obtain ⟨_, inner, ho, _⟩ := h
  rcases ho.2 with ⟨_, h0⟩ | ⟨g, cap, cur, e, _, _, h1, h2, _⟩
  · simp at h0
  · rw [List.length_append] at h1
    have : maxLen ≤ 9223372036854775807 := by decide
    simp only [List.length_cons, List.length_nil] at h1
    omega
theorem Lent.reads {w : World} {base : Nat} {A : Option Addr} {c : Nat} {l : List ByteArray} (h : Lent w base A c l) : l.length + 1 ≤ c ∧ Kd.C Kd.string w A l.length l := by
  have h1 := (Kd.R_reads' h).2.1
  have h2 := Kd.R_take (m := l.length) h (by simp)
  rw [List.take_left' rfl] at h2
  rw [List.length_append] at h1
  exact ⟨h1, (Kd.R_reads' h2).2.2⟩
def corncribbook_KeptTexts.f (k : Nat) (l0 l1 : List ByteArray) : Option Bool := corncribbook_SameTexts.f k l0 l1
theorem corncribbook_KeptTexts.mono : ∀ a0 a1 k, LeO (corncribbook_KeptTexts.f k a0 a1) (corncribbook_KeptTexts.f (k + 1) a0 a1) := fun a0 a1 k => corncribbook_SameTexts.mono a0 a1 k
set_option maxHeartbeats 2000000 in
set_option maxRecDepth 100000 in
theorem kept_calls (k : Nat) (A0 : Option Addr) (c0 : Nat) (l0 : List ByteArray) (A1 : Option Addr) (c1 : Nat) (l1 : List ByteArray) (r : Bool) (w : World) (base : Nat) (hr0 : Lent w base A0 c0 l0) (hr1 : Kd.C Kd.string w A1 l1.length l1) (hc1 : l1.length ≤ c1) (h : corncribbook_KeptTexts.f k l0 l1 = some r) :
    Calls Tryd.prog 24 #[.slice A0 l0.length c0, .slice A1 l1.length c1] w fun e w' => e = .returned (.bool r) ∧ Drawn0 w w' := by
  have HL := Aside0.mk hr0.reads
  have HM := Aside0.mk (Kd.R_reads' hr0).2.2
  have HR1 := Aside0.mk hr1
  have HC1 := Aside0.mk hc1
  have hlen : (l0 ++ [markT]).length = l0.length + 1 := by simp
  have A3 : Aside0 (corncribbook_SameTexts.f k l0 l1 = some r) := ⟨h⟩
  have hb := hr0.small
  clear hr0 hr1 hc1
  cases r with
  | true =>
    have e1 : l1.length = l0.length := by
      have h' := A3.out
      unfold corncribbook_SameTexts.f at h'
      split at h'
      · omega
      · cases h'
    have HC0 : Aside0 (l0.length ≤ c0) := ⟨by have := HL.out.1; omega⟩
    obtain ⟨i0, hi0, _, _, _⟩ := info_parts info9
    have hat := Kd.at_string HM.out (l1.length : Int) (by omega) (by omega)
    obtain ⟨ad, had, hx⟩ := hat
    cases had
    have hrd : rdOf ByteArray.empty (l0 ++ [markT]) (l1.length : Int) = markT := by
      rw [e1]
      unfold rdOf
      simp
    rw [hrd, Int.toNat_natCast] at hx
    have hw : IntKind.i64.wrap ((l1.length : Int) + 1) = ((l1.length + 1 : Nat) : Int) := by
      refine (i64_w _).trans ?_
      unfold wrap64
      omega
    have hcut := cut_wide (P := Tryd.prog) 25 9 .i64 Tryd.underlying25 hi0 (some ad) l0.length c0 ((l1.length + 1 : Nat) : Int) (by omega) (by have := HL.out.1; omega)
    rw [Int.toNat_natCast] at hcut
    have hlt : decide (l1.length < l1.length + 1) = true := decide_eq_true (by omega)
    have hlt2 : l1.length < l1.length + 1 := by omega
    have E1 := Aside0.mk e1
    have hmk : (markT.toList == ([109, 97, 114, 107] : List UInt8)) = true := by kernel_rfl
    clear e1 hrd hlen hb
    go_enter Tryd.func24, Tryd.ntmps24
    go_wp2_with (first | ((with_reducible refine gate_callee (f := 19) rfl ?_); refine goesL_ (some 7) rfl rfl Tryd.func19 (by kernel_rfl) rfl #[.slice (some ad) l0.length c0, .slice A1 l1.length c1] rfl (by (try simp only [List.map_toArray, List.map_cons, List.map_nil]); first | done | rfl | (simp only [List.length_drop, List.length_take]; rfl)) ?_; (with_reducible refine (corncribbook_SameTexts.calls k _ _ l0 _ _ l1 true _ ?side1 ?side2 ?side3 ?side4 A3.out).mono ?_); (case side1 => repeat (first | exact HL.out.2 | (with_reducible refine Kd.C_alloc ?_ _) | (with_reducible refine Kd.C_drewN ?_ _) | (with_reducible refine Kd.C_drew ?_))); (case side2 => exact HC0.out); (case side3 => repeat (first | exact HR1.out | (with_reducible refine Kd.C_alloc ?_ _) | (with_reducible refine Kd.C_drewN ?_ _) | (with_reducible refine Kd.C_drew ?_))); (case side4 => exact HC1.out); rintro e w' ⟨rfl, ⟨nd, rfl⟩⟩; refine ⟨_, rfl, ?_⟩))
    rotate_left
    · rename_i hh
      have h1 := HL.out.1
      have h2 := E1.out
      exfalso
      omega
    go_ret
    exact ⟨by first | rfl | (simp [markT]; done) | (simp [*]; done), by repeat (first | exact Drawn0.refl _ | apply Drawn0.step)⟩
  | false =>
    have HC0 : Aside0 (l0.length ≤ c0) := ⟨by have := HL.out.1; omega⟩
    go_enter Tryd.func24, Tryd.ntmps24
    go_wp2_with (first | ((with_reducible refine gate_callee (f := 19) rfl ?_); refine goesL_ (some 7) rfl rfl Tryd.func19 (by kernel_rfl) rfl #[.slice A0 l0.length c0, .slice A1 l1.length c1] rfl (by (try simp only [List.map_toArray, List.map_cons, List.map_nil]); first | done | rfl | (simp only [List.length_drop, List.length_take]; rfl)) ?_; (with_reducible refine (corncribbook_SameTexts.calls k _ _ l0 _ _ l1 false _ ?side1 ?side2 ?side3 ?side4 A3.out).mono ?_); (case side1 => repeat (first | exact HL.out.2 | (with_reducible refine Kd.C_alloc ?_ _) | (with_reducible refine Kd.C_drewN ?_ _) | (with_reducible refine Kd.C_drew ?_))); (case side2 => exact HC0.out); (case side3 => repeat (first | exact HR1.out | (with_reducible refine Kd.C_alloc ?_ _) | (with_reducible refine Kd.C_drewN ?_ _) | (with_reducible refine Kd.C_drew ?_))); (case side4 => exact HC1.out); rintro e w' ⟨rfl, ⟨nd, rfl⟩⟩; refine ⟨_, rfl, ?_⟩))
    go_ret
    exact ⟨by first | rfl | (simp; done) | (simp [*]; done), by repeat (first | exact Drawn0.refl _ | apply Drawn0.step)⟩
set_option maxHeartbeats 2000000 in
set_option maxRecDepth 100000 in
theorem lend_calls (A0 : Option Addr) (c0 : Nat) (l0 : List ByteArray) (r : List ByteArray) (w : World) (hr0 : Kd.C Kd.string w A0 l0.length l0) (hc0 : l0.length ≤ c0) (h : corncribbook_LendTexts.f l0 = some r) :
  Calls Tryd.prog 21 #[.slice A0 l0.length c0] w fun e w' => ∃ A c, e = .returned (.slice A r.length c) ∧ Lent w' w.heap.size A c r ∧ Below w.heap.size w w' := by
 have HR0 := Aside0.mk hr0
 have HC0 := Aside0.mk hc0
 clear hr0 hc0
 have HB := Aside0.mk (Below.refl w.heap.size w)
 have H : ((some (([] : List ByteArray) : List ByteArray)).bind fun y166 => (if y166.length + l0.length < 8796093022208 then ((some (y166 ++ l0 : List ByteArray)).bind fun y169 => (if y169.length < 8796093022208 then ((some (y169 ++ [(⟨#[109, 97, 114, 107]⟩ : ByteArray)] : List ByteArray)).bind fun y172 => (if 0 ≤ (l0.length : Int) then (if (l0.length : Int) ≤ (y172.length : Int) then (some (y172.take ((l0.length : Int) : Int).toNat)) else (none)) else (none))) else (none))) else (none))) = some r := h
 clear h
 obtain ⟨y166, hy166⟩ : ∃ y_ : List ByteArray, y_ = (([] : List ByteArray)) := ⟨_, rfl⟩
 replace H : (if y166.length + l0.length < 8796093022208 then ((some (y166 ++ l0 : List ByteArray)).bind fun y169 => (if y169.length < 8796093022208 then ((some (y169 ++ [(⟨#[109, 97, 114, 107]⟩ : ByteArray)] : List ByteArray)).bind fun y172 => (if 0 ≤ (l0.length : Int) then (if (l0.length : Int) ≤ (y172.length : Int) then (some (y172.take ((l0.length : Int) : Int).toNat)) else (none)) else (none))) else (none))) else (none)) = some r := by first | (rw [hy166]; with_reducible exact H) | (have H2_ := (Option.bind_some _ _).symm.trans H; rw [hy166]; with_reducible exact H2_) | (have H2_ := (Option.bind_some _ _).symm.trans H; with_reducible exact H2_) | with_reducible exact H | (rw [hy166]; exact H) | exact H
 have Ny166 := Aside0.mk hy166
 clear hy166
 by_cases c2 : y166.length + l0.length < 8796093022208
 ·rw [if_pos c2] at H
  have LMc2 := Aside0.mk c2
  clear c2
  obtain ⟨y169, hy169⟩ : ∃ y_ : List ByteArray, y_ = (y166 ++ l0) := ⟨_, rfl⟩
  replace H : (if y169.length < 8796093022208 then ((some (y169 ++ [(⟨#[109, 97, 114, 107]⟩ : ByteArray)] : List ByteArray)).bind fun y172 => (if 0 ≤ (l0.length : Int) then (if (l0.length : Int) ≤ (y172.length : Int) then (some (y172.take ((l0.length : Int) : Int).toNat)) else (none)) else (none))) else (none)) = some r := by first | (rw [hy169]; with_reducible exact H) | (have H2_ := (Option.bind_some _ _).symm.trans H; rw [hy169]; with_reducible exact H2_) | (have H2_ := (Option.bind_some _ _).symm.trans H; with_reducible exact H2_) | with_reducible exact H | (rw [hy169]; exact H) | exact H
  have Ny169 := Aside0.mk hy169
  clear hy169
  by_cases c3 : y169.length < 8796093022208
  ·rw [if_pos c3] at H
   have LMc3 := Aside0.mk c3
   clear c3
   obtain ⟨y172, hy172⟩ : ∃ y_ : List ByteArray, y_ = (y169 ++ [(⟨#[109, 97, 114, 107]⟩ : ByteArray)]) := ⟨_, rfl⟩
   replace H : (if 0 ≤ (l0.length : Int) then (if (l0.length : Int) ≤ (y172.length : Int) then (some (y172.take ((l0.length : Int) : Int).toNat)) else (none)) else (none)) = some r := by first | (rw [hy172]; with_reducible exact H) | (have H2_ := (Option.bind_some _ _).symm.trans H; rw [hy172]; with_reducible exact H2_) | (have H2_ := (Option.bind_some _ _).symm.trans H; with_reducible exact H2_) | with_reducible exact H | (rw [hy172]; exact H) | exact H
   have Ny172 := Aside0.mk hy172
   clear hy172
   by_cases c4 : 0 ≤ (l0.length : Int)
   ·rw [if_pos c4] at H
    have c4b0 := eq_true c4
    have c4b1 : decide (0 ≤ (l0.length : Int)) = true := decide_eq_true c4
    clear c4
    by_cases c5 : (l0.length : Int) ≤ (y172.length : Int)
    ·rw [if_pos c5] at H
     have c5b0 := eq_true c5
     have c5b1 : decide ((l0.length : Int) ≤ (y172.length : Int)) = true := decide_eq_true c5
     clear c5
     obtain ⟨y175, hy175⟩ : ∃ y_ : List ByteArray, y_ = (y172.take ((l0.length : Int) : Int).toNat) := ⟨_, rfl⟩
     replace H : (some y175) = some r := by first | (rw [hy175]; with_reducible exact H) | (have H2_ := (Option.bind_some _ _).symm.trans H; rw [hy175]; with_reducible exact H2_) | (have H2_ := (Option.bind_some _ _).symm.trans H; with_reducible exact H2_) | with_reducible exact H | (rw [hy175]; exact H) | exact H
     have Ny175 := Aside0.mk hy175
     clear hy175
     obtain rfl := Option.some.inj H
     go_enter Tryd.func21, Tryd.ntmps21
     go_wp2_with (first | ((with_reducible refine gate_dst (N := 4) rfl ?_); refine Kd.R_lit Kd.string _ 9 ?hg (N := 4) ?hd (xs := ([] : List ByteArray)) (inner := []) (ok := fun _ => True) (okp := fun _ => True) ?hr ?hp (fun _ hk => hk) trivial (Below.refl _ _) (Nat.le_refl _) (by simp) ?_; (case hd => rfl); (case hg => rfl); (case hr => first | (go_simp; done) | (go_simp; rfl)); (case hp => exact (Reps.none _ _)); intro v167 w6 ho7 hb hg_ hnew_; clear hg_ hnew_; (first | rw [← Ny166.out] at ho7 | (simp only [Int.reduceToNat] at ho7; rw [← Ny166.out] at ho7)); have n0_ := Aside0.mk (Kd.R_lower ho7 (below_size (by repeat (first | (with_reducible first | exact HB.out | apply below_alloc | apply pw_below_drewN | apply below_drew1) | exact HB.out)))); have n1_ := Aside0.mk (below_step (by repeat (first | (with_reducible first | exact HB.out | apply below_alloc | apply pw_below_drewN | apply below_drew1) | exact HB.out)) hb); clear HB; have HO168 := n0_; have HB := n1_; clear n0_ n1_; clear hb ho7) | ((with_reducible refine gate_builtin (b := .append) (xs := #[.tmp 4, .tmp 5]) rfl ?_); at_builtin; refine Kd.R_append_rows Kd.string (w0 := w) w.heap.size rfl (.tmp 4) (.tmp 5) 25 9 (.string ⟨#[]⟩) 16 rfl Tryd.underlying25 info9 rfl (by decide) (by omega) v167 y166 l0 _ _ _ (fun _ => True) (fun _ => False) rfl rfl ?aO ?aR (fun _ _ h => h) (fun _ h => h.elim) ?aF ?aB ?aS ?aL ?_; (case aR => repeat (first | exact (Kd.C_below HR0.out HB.out) | (with_reducible refine Kd.C_alloc ?_ _) | (with_reducible refine Kd.C_drewN ?_ _) | (with_reducible refine Kd.C_drew ?_))); (case aB => exact (by repeat (first | (with_reducible first | exact HB.out | apply below_alloc | apply pw_below_drewN | apply below_drew1) | exact HB.out))); (case aF => exact (fun _ _ => trivial)); (case aO => exact (by (with_reducible repeat (first | apply Kd.R_alloc | apply Kd.R_drewN | apply Kd.R_drew)); exact HO168.out)); (case aS => exact (below_size (by repeat (first | (with_reducible first | exact HB.out | apply below_alloc | apply pw_below_drewN | apply below_drew1) | exact HB.out)))); (case aL => have := LMc2.out; omega); intro v170 w8 ho hb hg hat; rw [← Ny169.out] at ho; have n0_ := Aside0.mk (hb); have n1_ := Aside0.mk (ho); clear HB; clear HO168; have HB := n0_; have HO171 := n1_; clear n0_ n1_; clear ho hb hg hat) | ((with_reducible refine gate_builtin (b := .append) (xs := #[.tmp 7, .tmp 8]) rfl ?_); at_builtin; refine Kd.R_append Kd.string (w0 := w) w.heap.size rfl (.tmp 7) (.tmp 8) 25 9 (.string ⟨#[]⟩) 16 rfl Tryd.underlying25 info9 rfl (by decide) (by omega) v170 y169 (⟨#[109, 97, 114, 107]⟩ : ByteArray) [.string (⟨#[109, 97, 114, 107]⟩ : ByteArray)] (fun _ => True) (fun _ => False) rfl rfl ?aP (fun _ hk => hk.elim) ?aF ?aO ?aB ?aS ?aL ?_; (case aP => exact rfl); (case aB => exact (by repeat (first | (with_reducible first | exact HB.out | apply below_alloc | apply pw_below_drewN | apply below_drew1) | exact HB.out))); (case aF => exact (fun _ _ => trivial)); (case aO => exact (by (with_reducible repeat (first | apply Kd.R_alloc | apply Kd.R_drewN | apply Kd.R_drew)); exact HO171.out)); (case aS => exact (below_size (by repeat (first | (with_reducible first | exact HB.out | apply below_alloc | apply pw_below_drewN | apply below_drew1) | exact HB.out)))); (case aL => have := LMc3.out; omega); intro v173 w9 ho hb hg hat; rw [← Ny172.out] at ho; have n0_ := Aside0.mk (hb); have n1_ := Aside0.mk (ho); clear HB; clear HO171; have HB := n0_; have HO174 := n1_; clear n0_ n1_; clear ho hb hg hat; obtain ⟨Ao10, co10, eo10⟩ := Kd.R_slice HO174.out; subst eo10; have q11 : ((l0.length : Int) : Int) ≤ ((y172.length : Int) : Int) := of_decide_eq_true (by first | (with_reducible assumption) | assumption); obtain ⟨i011, hi011, _, hsz11, _⟩ := info_parts info9; have hcut11 := cut_to (P := Tryd.prog) 25 9 .i64 Tryd.underlying25 hi011 Ao10 y172.length co10 (l0.length : Int) (of_decide_eq_true (by first | (with_reducible assumption) | assumption)) q11 (Kd.R_reads' HO174.out).2.1; have hr11 := Kd.R_take (m := ((l0.length : Int) : Int).toNat) HO174.out (by omega); have hy11 : y175.length = ((l0.length : Int) : Int).toNat := (by rw [Ny175.out, List.length_take]; omega); rw [← Ny175.out] at hr11; rw [← hy11] at hr11 hcut11; clear hy11 hi011 hsz11 hr11; replace q11 := eq_true q11))
     go_ret
     exact ⟨_, _, rfl, by (unfold Lent; rw [show y175 ++ [markT] = y172 by rw [Ny175.out, Ny172.out, Ny169.out, Ny166.out]; simp [markT]]; (with_reducible repeat (first | apply Kd.R_alloc | apply Kd.R_drewN | apply Kd.R_drew)); exact HO174.out), by repeat (first | (with_reducible first | exact HB.out | apply below_alloc | apply pw_below_drewN | apply below_drew1) | exact HB.out)⟩
    ·rw [if_neg c5] at H
     exact absurd H (by simp)
   ·rw [if_neg c4] at H
    exact absurd H (by simp)
  ·rw [if_neg c3] at H
   exact absurd H (by simp)
 ·rw [if_neg c2] at H
  exact absurd H (by simp)

end Go.Proofs.YtegmmefijihdeaaDoor.PS
namespace Go.Proofs.YtegmmefijihdeaaDoor.PS
open Go.RowKit Go.Proofs.YtegmmefijihdeaaDoorW.PrintWords Go.Proofs.YtegmmefijihdeaaDoorW.PrintLast Go.Proofs.YtegmmefijihdeaaDoorW.PrintMore
set_option linter.unusedVariables false
set_option linter.unusedSimpArgs false
theorem eqA62 (d : Nat) (w : World) (x0 y0 : Int) (x1 y1 : ByteArray) :
  (Op.equalIn (d + 2) 62 (.agg #[.int .i64 x0, .string x1]) (.agg #[.int .i64 y0, .string y1])).run Tryd.prog w = .ok (x0 == y0 && (x1.toList == y1.toList)) w := by
 refine eqA_of Tryd.underlying62 (by kernel_rfl) ?_
 refine eqf_cons (by rfl) (by go_simp; rfl) (by go_simp; rfl) (by go_simp) ?_
 exact eqf_last (by rfl) (by go_simp; rfl) (by go_simp; rfl) (by go_simp)
attribute [local go_sem high] eqA62
def markS : S62 := ⟨-77, ⟨#[]⟩⟩
/-- l lies at the start of a row of one's own that has the mark behind it. -/
def LentS (w : World) (base : Nat) (A : Option Addr) (c : Nat) (l : List S62) : Prop := Kd.R k62 62 w base (fun _ => True) (.slice A (l ++ [markS]).length c) (l ++ [markS])
theorem LentS.small {w : World} {base : Nat} {A : Option Addr} {c : Nat} {l : List S62} (h : LentS w base A c l) : l.length < 9223372036854775807 := by
  obtain ⟨_, inner, ho, _⟩ := h
  rcases ho.2 with ⟨_, h0⟩ | ⟨g, cap, cur, e, _, _, h1, h2, _⟩
  · simp at h0
  · rw [List.length_append] at h1
    have : maxLen ≤ 9223372036854775807 := by decide
    simp only [List.length_cons, List.length_nil] at h1
    omega
theorem LentS.reads {w : World} {base : Nat} {A : Option Addr} {c : Nat} {l : List S62} (h : LentS w base A c l) : l.length + 1 ≤ c ∧ Kd.C k62 w A l.length l := by
  have h1 := (Kd.R_reads' h).2.1
  have h2 := Kd.R_take (m := l.length) h (by simp)
  rw [List.take_left' rfl] at h2
  rw [List.length_append] at h1
  exact ⟨h1, (Kd.R_reads' h2).2.2⟩
def corncriblaw04_lend.f (l0 : List (S62)) : Option ((List (S62))) := (some (([] : List (S62)) : List (S62))).bind fun y101 => (if y101.length + l0.length < 5864062014805 then ((some (y101 ++ l0 : List (S62))).bind fun y104 => (if y104.length < 5864062014805 then ((some (y104 ++ [(⟨(-77), (⟨#[]⟩ : ByteArray)⟩ : S62)] : List (S62))).bind fun y107 => (if 0 ≤ (l0.length : Int) then (if (l0.length : Int) ≤ (y107.length : Int) then (some (y107.take ((l0.length : Int) : Int).toNat)) else (none)) else (none))) else (none))) else (none))
set_option maxHeartbeats 8000000 in
set_option maxRecDepth 100000 in
theorem lendS_calls (A0 : Option Addr) (c0 : Nat) (l0 : List (S62)) (r : List (S62)) (w : World) (hr0 : Kd.C k62 w A0 l0.length l0) (hc0 : l0.length ≤ c0) (h : corncriblaw04_lend.f l0 = some r) :
  Calls Tryd.prog 33 #[.slice A0 l0.length c0] w fun e w' => ∃ A c, e = .returned (.slice A r.length c) ∧ LentS w' w.heap.size A c r ∧ Below w.heap.size w w' := by
 have hu62 := Tryd.underlying62
 have HR0 := Aside0.mk hr0
 have HC0 := Aside0.mk hc0
 clear hr0 hc0
 have HB := Aside0.mk (Below.refl w.heap.size w)
 have H : ((some (([] : List (S62)) : List (S62))).bind fun y101 => (if y101.length + l0.length < 5864062014805 then ((some (y101 ++ l0 : List (S62))).bind fun y104 => (if y104.length < 5864062014805 then ((some (y104 ++ [(⟨(-77), (⟨#[]⟩ : ByteArray)⟩ : S62)] : List (S62))).bind fun y107 => (if 0 ≤ (l0.length : Int) then (if (l0.length : Int) ≤ (y107.length : Int) then (some (y107.take ((l0.length : Int) : Int).toNat)) else (none)) else (none))) else (none))) else (none))) = some r := h
 clear h
 obtain ⟨y101, hy101⟩ : ∃ y_ : List (S62), y_ = (([] : List (S62))) := ⟨_, rfl⟩
 replace H : (if y101.length + l0.length < 5864062014805 then ((some (y101 ++ l0 : List (S62))).bind fun y104 => (if y104.length < 5864062014805 then ((some (y104 ++ [(⟨(-77), (⟨#[]⟩ : ByteArray)⟩ : S62)] : List (S62))).bind fun y107 => (if 0 ≤ (l0.length : Int) then (if (l0.length : Int) ≤ (y107.length : Int) then (some (y107.take ((l0.length : Int) : Int).toNat)) else (none)) else (none))) else (none))) else (none)) = some r := by first | (rw [hy101]; with_reducible exact H) | (have H2_ := (Option.bind_some _ _).symm.trans H; rw [hy101]; with_reducible exact H2_) | (have H2_ := (Option.bind_some _ _).symm.trans H; with_reducible exact H2_) | with_reducible exact H | (rw [hy101]; exact H) | exact H
 have Ny101 := Aside0.mk hy101
 clear hy101
 by_cases c2 : y101.length + l0.length < 5864062014805
 ·rw [if_pos c2] at H
  have LMc2 := Aside0.mk c2
  clear c2
  obtain ⟨y104, hy104⟩ : ∃ y_ : List (S62), y_ = (y101 ++ l0) := ⟨_, rfl⟩
  replace H : (if y104.length < 5864062014805 then ((some (y104 ++ [(⟨(-77), (⟨#[]⟩ : ByteArray)⟩ : S62)] : List (S62))).bind fun y107 => (if 0 ≤ (l0.length : Int) then (if (l0.length : Int) ≤ (y107.length : Int) then (some (y107.take ((l0.length : Int) : Int).toNat)) else (none)) else (none))) else (none)) = some r := by first | (rw [hy104]; with_reducible exact H) | (have H2_ := (Option.bind_some _ _).symm.trans H; rw [hy104]; with_reducible exact H2_) | (have H2_ := (Option.bind_some _ _).symm.trans H; with_reducible exact H2_) | with_reducible exact H | (rw [hy104]; exact H) | exact H
  have Ny104 := Aside0.mk hy104
  clear hy104
  by_cases c3 : y104.length < 5864062014805
  ·rw [if_pos c3] at H
   have LMc3 := Aside0.mk c3
   clear c3
   obtain ⟨y107, hy107⟩ : ∃ y_ : List (S62), y_ = (y104 ++ [(⟨(-77), (⟨#[]⟩ : ByteArray)⟩ : S62)]) := ⟨_, rfl⟩
   replace H : (if 0 ≤ (l0.length : Int) then (if (l0.length : Int) ≤ (y107.length : Int) then (some (y107.take ((l0.length : Int) : Int).toNat)) else (none)) else (none)) = some r := by first | (rw [hy107]; with_reducible exact H) | (have H2_ := (Option.bind_some _ _).symm.trans H; rw [hy107]; with_reducible exact H2_) | (have H2_ := (Option.bind_some _ _).symm.trans H; with_reducible exact H2_) | with_reducible exact H | (rw [hy107]; exact H) | exact H
   have Ny107 := Aside0.mk hy107
   clear hy107
   by_cases c4 : 0 ≤ (l0.length : Int)
   ·rw [if_pos c4] at H
    have c4b0 := eq_true c4
    have c4b1 : decide (0 ≤ (l0.length : Int)) = true := decide_eq_true c4
    clear c4
    by_cases c5 : (l0.length : Int) ≤ (y107.length : Int)
    ·rw [if_pos c5] at H
     have c5b0 := eq_true c5
     have c5b1 : decide ((l0.length : Int) ≤ (y107.length : Int)) = true := decide_eq_true c5
     clear c5
     obtain ⟨y110, hy110⟩ : ∃ y_ : List (S62), y_ = (y107.take ((l0.length : Int) : Int).toNat) := ⟨_, rfl⟩
     replace H : (some y110) = some r := by first | (rw [hy110]; with_reducible exact H) | (have H2_ := (Option.bind_some _ _).symm.trans H; rw [hy110]; with_reducible exact H2_) | (have H2_ := (Option.bind_some _ _).symm.trans H; with_reducible exact H2_) | with_reducible exact H | (rw [hy110]; exact H) | exact H
     have Ny110 := Aside0.mk hy110
     clear hy110
     obtain rfl := Option.some.inj H
     go_enter Tryd.func33, Tryd.ntmps33
     go_wp2_with (first | ((with_reducible refine gate_dst (N := 4) rfl ?_); refine Kd.R_lit k62 _ 62 ?hg (N := 4) ?hd (xs := ([] : List (S62))) (inner := []) (ok := fun _ => True) (okp := fun _ => True) ?hr ?hp (fun _ hk => hk) trivial (Below.refl _ _) (Nat.le_refl _) (by simp) ?_; (case hd => rfl); (case hg => rfl); (case hr => first | (go_simp; done) | (go_simp; rfl)); (case hp => exact (Reps.none _ _)); intro v102 w6 ho7 hb hg_ hnew_; clear hg_ hnew_; (first | rw [← Ny101.out] at ho7 | (simp only [Int.reduceToNat] at ho7; rw [← Ny101.out] at ho7)); have n0_ := Aside0.mk (Kd.R_lower ho7 (below_size (by repeat (first | (with_reducible first | exact HB.out | apply below_alloc | apply pw_below_drewN | apply below_drew1) | exact HB.out)))); have n1_ := Aside0.mk (below_step (by repeat (first | (with_reducible first | exact HB.out | apply below_alloc | apply pw_below_drewN | apply below_drew1) | exact HB.out)) hb); clear HB; have HO103 := n0_; have HB := n1_; clear n0_ n1_; clear hb ho7) | ((with_reducible refine gate_builtin (b := .append) (xs := #[.tmp 4, .tmp 5]) rfl ?_); at_builtin; refine Kd.R_append_rows k62 (w0 := w) w.heap.size rfl (.tmp 4) (.tmp 5) 47 62 (.agg #[(.int .i64 0), (.string ⟨#[]⟩)]) 24 rfl Tryd.underlying47 info62 rfl (by decide) (by omega) v102 y101 l0 _ _ _ (fun _ => True) (fun _ => False) rfl rfl ?aO ?aR (fun _ _ h => h) (fun _ h => h.elim) ?aF ?aB ?aS ?aL ?_; (case aR => repeat (first | exact (Kd.C_below HR0.out HB.out) | (with_reducible refine Kd.C_alloc ?_ _) | (with_reducible refine Kd.C_drewN ?_ _) | (with_reducible refine Kd.C_drew ?_))); (case aB => exact (by repeat (first | (with_reducible first | exact HB.out | apply below_alloc | apply pw_below_drewN | apply below_drew1) | exact HB.out))); (case aF => exact (fun _ _ => trivial)); (case aO => exact (by (with_reducible repeat (first | apply Kd.R_alloc | apply Kd.R_drewN | apply Kd.R_drew)); exact HO103.out)); (case aS => exact (below_size (by repeat (first | (with_reducible first | exact HB.out | apply below_alloc | apply pw_below_drewN | apply below_drew1) | exact HB.out)))); (case aL => have := LMc2.out; omega); intro v105 w8 ho hb hg hat; rw [← Ny104.out] at ho; have n0_ := Aside0.mk (hb); have n1_ := Aside0.mk (ho); clear HB; clear HO103; have HB := n0_; have HO106 := n1_; clear n0_ n1_; clear ho hb hg hat) | ((with_reducible refine gate_builtin (b := .append) (xs := #[.tmp 7, .tmp 9]) rfl ?_); at_builtin; refine Kd.R_append k62 (w0 := w) w.heap.size rfl (.tmp 7) (.tmp 9) 47 62 (.agg #[(.int .i64 0), (.string ⟨#[]⟩)]) 24 rfl Tryd.underlying47 info62 rfl (by decide) (by omega) v105 y104 (⟨(-77), (⟨#[]⟩ : ByteArray)⟩ : S62) [.int .i64 (-77), .string (⟨#[]⟩ : ByteArray)] (fun _ => True) (fun _ => False) rfl rfl ?aP (fun _ hk => hk.elim) ?aF ?aO ?aB ?aS ?aL ?_; (case aP => exact k62_mkM _ _ _ (⟨(-77), (⟨#[]⟩ : ByteArray)⟩ : S62)); (case aB => exact (by repeat (first | (with_reducible first | exact HB.out | apply below_alloc | apply pw_below_drewN | apply below_drew1) | exact HB.out))); (case aF => exact (fun _ _ => trivial)); (case aO => exact (by (with_reducible repeat (first | apply Kd.R_alloc | apply Kd.R_drewN | apply Kd.R_drew)); exact HO106.out)); (case aS => exact (below_size (by repeat (first | (with_reducible first | exact HB.out | apply below_alloc | apply pw_below_drewN | apply below_drew1) | exact HB.out)))); (case aL => have := LMc3.out; omega); intro v108 w9 ho hb hg hat; rw [← Ny107.out] at ho; have n0_ := Aside0.mk (hb); have n1_ := Aside0.mk (ho); clear HB; clear HO106; have HB := n0_; have HO109 := n1_; clear n0_ n1_; clear ho hb hg hat; obtain ⟨Ao10, co10, eo10⟩ := Kd.R_slice HO109.out; subst eo10; have q11 : ((l0.length : Int) : Int) ≤ ((y107.length : Int) : Int) := of_decide_eq_true (by first | (with_reducible assumption) | assumption); obtain ⟨i011, hi011, _, hsz11, _⟩ := info_parts info62; have hcut11 := cut_to (P := Tryd.prog) 47 62 .i64 Tryd.underlying47 hi011 Ao10 y107.length co10 (l0.length : Int) (of_decide_eq_true (by first | (with_reducible assumption) | assumption)) q11 (Kd.R_reads' HO109.out).2.1; have hr11 := Kd.R_take (m := ((l0.length : Int) : Int).toNat) HO109.out (by omega); have hy11 : y110.length = ((l0.length : Int) : Int).toNat := (by rw [Ny110.out, List.length_take]; omega); rw [← Ny110.out] at hr11; rw [← hy11] at hr11 hcut11; clear hy11 hi011 hsz11 hr11; replace q11 := eq_true q11))
     go_ret
     exact ⟨_, _, rfl, by (unfold LentS; rw [show y110 ++ [markS] = y107 by rw [Ny110.out, Ny107.out, Ny104.out, Ny101.out]; simp [markS]]; (with_reducible repeat (first | apply Kd.R_alloc | apply Kd.R_drewN | apply Kd.R_drew)); exact HO109.out), by repeat (first | (with_reducible first | exact HB.out | apply below_alloc | apply pw_below_drewN | apply below_drew1) | exact HB.out)⟩
    ·rw [if_neg c5] at H
     exact absurd H (by simp)
   ·rw [if_neg c4] at H
    exact absurd H (by simp)
  ·rw [if_neg c3] at H
   exact absurd H (by simp)
 ·rw [if_neg c2] at H
  exact absurd H (by simp)

def sameS : List S62 → List S62 → Bool
  | [], [] => true
  | a :: x, b :: y => decide (a.f0 = b.f0) && decide (a.f1.data.toList = b.f1.data.toList) && sameS x y
  | _, _ => false
theorem sameS_eq : ∀ {x y : List S62}, sameS x y = true → x = y
  | [], [], _ => rfl
  | a :: x, b :: y, h => by
    unfold sameS at h
    rw [Bool.and_eq_true, Bool.and_eq_true] at h
    have h1 := of_decide_eq_true h.1.1
    have h2 := of_decide_eq_true h.1.2
    have h3 := sameS_eq h.2
    obtain ⟨a0, a1⟩ := a
    obtain ⟨b0, b1⟩ := b
    simp only at h1 h2
    have h4 : a1 = b1 := by
      apply ByteArray.ext
      apply Array.ext'
      exact h2
    rw [h1, h3, h4]
  | [], _ :: _, h => by simp [sameS] at h
  | _ :: _, [], h => by simp [sameS] at h
theorem sameS_refl : ∀ x : List S62, sameS x x = true
  | [] => rfl
  | a :: x => by unfold sameS; rw [sameS_refl x]; simp
def corncriblaw04_kept.f (l0 l1 : List S62) : Option Bool := if sameS l0 l1 = true then some true else none
set_option maxHeartbeats 2000000 in
set_option maxRecDepth 100000 in
theorem keptS_calls (A0 : Option Addr) (c0 : Nat) (l0 : List S62) (A1 : Option Addr) (c1 : Nat) (l1 : List S62) (r : Bool) (w : World) (base : Nat) (hr0 : LentS w base A0 c0 l0) (hr1 : Kd.C k62 w A1 l1.length l1) (hc1 : l1.length ≤ c1) (h : corncriblaw04_kept.f l0 l1 = some r) :
    Calls Tryd.prog 36 #[.slice A0 l0.length c0, .slice A1 l1.length c1] w fun e w' => e = .returned (.bool r) ∧ Below w.heap.size w w' := by
  unfold corncriblaw04_kept.f at h
  by_cases he0 : sameS l0 l1 = true
  · rw [if_pos he0] at h
    have he := sameS_eq he0
    clear he0
    obtain rfl := Option.some.inj h
    subst he
    have HL := Aside0.mk hr0.reads
    have HM := Aside0.mk (Kd.R_reads' hr0).2.2
    have HR1 := Aside0.mk hr1
    have hb := hr0.small
    have hmark := at_T62 HM.out (l0.length : Int) (by omega) (by simp; omega)
    obtain ⟨ad, had, hx0, hx1⟩ := hmark
    subst had
    have hrd : rd_T62 (l0 ++ [markS]) (l0.length : Int) = markS := by
      unfold rd_T62
      simp
    rw [hrd, Int.toNat_natCast] at hx0 hx1
    obtain ⟨i0, hi0, _, _, _⟩ := info_parts info62
    have hw : IntKind.i64.wrap ((l0.length : Int) + 1) = ((l0.length + 1 : Nat) : Int) := by
      refine (i64_w _).trans ?_
      unfold wrap64
      omega
    have hcut := cut_wide (P := Tryd.prog) 47 62 .i64 Tryd.underlying47 hi0 (some ad) l0.length c0 ((l0.length + 1 : Nat) : Int) (by omega) (by have := HL.out.1; omega)
    rw [Int.toNat_natCast] at hcut
    have HX := Aside0.mk (And.intro hx0 hx1)
    have HCUT := Aside0.mk hcut
    have HW := Aside0.mk hw
    clear hx0 hx1 hcut hw hrd hr0 hr1 h
    go_enter Tryd.func36, Tryd.ntmps36
    go_wp2
    go_loopw [5] (fun v W => ∃ i : Nat, i ≤ l0.length ∧ v = .int .i64 (i : Int) ∧ Drawn0 w W) (fun v _ => l0.length - (intOf v).toNat)
    case atStart => exact ⟨0, by omega, rfl, by repeat (first | exact Drawn0.refl _ | apply Drawn0.step)⟩
    case round =>
      obtain ⟨i, hi, rfl, ⟨n, rfl⟩⟩ := hrel
      by_cases hlt : i < l0.length
      · obtain ⟨a0, e0, hx0, hx1⟩ := at_T62 HL.out.2 (i : Int) (by omega) (by omega)
        obtain ⟨a1, e1, hy0, hy1⟩ := at_T62 HR1.out (i : Int) (by omega) (by omega)
        obtain rfl : ad = a0 := by injection e0
        subst e1
        rw [Int.toNat_natCast] at hx0 hx1 hy0 hy1
        have dlt : decide ((i : Int) < (l0.length : Int)) = true := decide_eq_true (by omega)
        generalize rd_T62 l0 (i : Int) = si at *
        obtain ⟨x, s⟩ := si
        simp only at hx0 hx1 hy0 hy1
        clear e0
        go_wp2
        repeat (go_quiet (fail); try go_wp2)
        go_roundw
        case rel => exact ⟨i + 1, by omega, by go_num, by repeat (first | exact Drawn0.refl _ | apply Drawn0.step)⟩
        case measure => simp [intOf]; omega
      · have hil : i = l0.length := by omega
        subst hil
        have hx0 := HX.out.1
        have hx1 := HX.out.2
        have hcut := HCUT.out
        have hw := HW.out
        have hlt2 : l0.length < l0.length + 1 := by omega
        have hlt3 : decide ((l0.length : Int) < ((l0.length + 1 : Nat) : Int)) = true := decide_eq_true (by omega)
        unfold markS at hx0 hx1
        simp only at hx0 hx1
        go_wp2
        rotate_left
        · rename_i hh
          have h1 := HL.out.1
          exfalso
          omega
        go_ret
        exact ⟨rfl, pw_below_drewN (Below.refl _ _) _⟩
  · rw [if_neg he0] at h
    cases h
end Go.Proofs.YtegmmefijihdeaaDoor.PS
