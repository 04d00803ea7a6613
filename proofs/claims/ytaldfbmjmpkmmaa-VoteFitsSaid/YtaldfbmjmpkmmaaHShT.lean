/- A shelf in memory: put. -/
import Derived.Test.YtaldfbmjmpkmmaaM222eff
namespace Go.Proofs.Ytaldfbmjmpkmmaa.PL
open Go.RowKit Go.Proofs.YtaldfbmjmpkmmaaW.PrintWords Go.Proofs.YtaldfbmjmpkmmaaW.PrintLast Go.Proofs.YtaldfbmjmpkmmaaW.PrintMore Go.Shelf Go.Maps Go.WideMaps Go.Proofs.Ytaldfbmjmpkmmaa.Mk
set_option linter.unusedVariables false
set_option linter.unusedSimpArgs false
set_option linter.unusedSectionVars false
section
variable {ok : Nat → Prop} {w w' w1 : World} {b N : Nat} {s : Sh} {bk bp : Nat} {ve : Value} {fk fp : Lit → Option Value}
theorem Parts.put1 (h : Parts w ok b N s bk bp ve fk fp) (hg : w.grownBy w' (some bk)) {x : Wr} {ts : Int} {u : Value} (hm : MapL Try.prog 9 w' bk (N + 1) (lput fk (sk (wkey x)) u))
    (hu : Kd.R k29 29 w 0 ok u (look s.K (wkey x) ++ [⟨ts, x.f1, x.f2⟩])) (hk : KOk (put1 ts s.K x)) : Parts w' ok b (N + 1) { s with K := put1 ts s.K x } bk bp ve (lput fk (sk (wkey x)) u) fp :=
  have hb : ∀ cells q, w.heap[bk]? ≠ some (.cells cells q (0, 0)) := fun cells q => h.keys.not_cells
  have hself : ∀ k : Key, (sk k).sameKey (sk k) = true := fun k => by simp [sk, Lit.sameKey]
  ⟨blk_map h.box hg hb, hm, (h.preps.kept hg (fun e => h.ne (by injection e with e; exact e.symm))).mono (Nat.le_succ _), R_map h.ends hg hb, fun q v hq => by
    unfold lput at hq
    split at hq
    · rename_i hq2
      obtain rfl := Option.some.inj hq
      refine ⟨wkey x, WideAt.sameKey_eq hq2, (kput_keys _ _ _ _).2 (.inl rfl), ?_⟩
      show Kd.R k29 29 w' 0 ok u (look (kput s.K (wkey x) _) (wkey x))
      rw [look_kput, if_pos rfl]
      exact R_map hu hg hb
    · rename_i hq2
      obtain ⟨k, h1, h2, h3⟩ := h.kf q v hq
      refine ⟨k, h1, (kput_keys _ _ _ _).2 (.inr h2), ?_⟩
      show Kd.R k29 29 w' 0 ok v (look (kput s.K (wkey x) _) k)
      rw [look_kput, if_neg (fun e => hq2 (by rw [h1, ← e]; exact hself _))]
      exact R_map h3 hg hb, fun k hk' => by
    unfold lput
    split
    · rfl
    · rename_i hq2
      rcases (kput_keys _ _ _ _).1 hk' with rfl | hk'
      · exact absurd (hself _) hq2
      · exact h.kt k hk', fun q v hq => by
    obtain ⟨r, h1, h2, cs, h3, h4⟩ := h.pf q v hq
    exact ⟨r, h1, h2, cs, h3, M_map h4 hg hb⟩, h.pt, h.okb, h.okk, h.okp, h.ne, ⟨hk, h.good.rise, h.good.few, h.good.recs, h.good.ends, h.good.over⟩⟩
end
set_option maxRecDepth 100000 in
set_option maxHeartbeats 8000000 in
theorem put_walk {w : World} {ok : Nat → Prop} {b N : Nat} {s : Sh} (h : ShAt w ok b N s) (hok : ∀ g, w.heap.size ≤ g → ok g) (A : Option Addr) (c : Nat) (l : List Wr) (hr : Kd.R k56 56 w 0 ok (.slice A l.length c) l) (hl : l.length ≤ 1024) (hk : ∀ x ∈ l, x.f0.size ≤ maxLen)
    (ts : Int) (hp : PutOk s.K l ts) (hN : N + l.length < maxLen) :
    Calls Try.prog 40 #[.pointer (some ⟨b, 0, none⟩), .slice A l.length c, .int .i64 ts] w fun e w' => e = .returned (.tuple #[]) ∧ ShAt w' ok b (N + l.length) { s with K := putV s.K l ts } ∧ Chg ok w w' ∧ Still ok w w' := by
  have HS := Aside0.mk h
  have HOK := Aside0.mk hok
  have HR := Aside0.mk hr
  have HK := Aside0.mk hk
  have HPO := Aside0.mk (And.intro (let ⟨_, _, _, _, _, hp⟩ := h; hp.good.keys) hp)
  have HNN := Aside0.mk hN
  clear h hok hr hk hp hN
  go_enter Try.func40, Try.ntmps40
  go_wp2
  go_loopw [10] (fun i wr => ∃ (k : Nat) (K : List (Key × Chain)), k ≤ l.length ∧ i = .int .i64 (k : Int) ∧ Aside0 (putV s.K l ts = putV K (l.drop k) ts ∧ KOk K ∧ PutOk K (l.drop k) ts) ∧ Aside0 (ShAt wr ok b (N + k) { s with K := K }) ∧ Aside0 (Chg ok w wr) ∧ Aside0 (Still ok w wr)) (fun i _ => l.length - (intOf i).toNat)
  case atStart => exact ⟨0, s.K, Nat.zero_le _, rfl, ⟨rfl, HPO.out.1, HPO.out.2⟩, HS, ⟨Chg.of_below (Below.refl _ _)⟩, ⟨Still.of_below (Below.refl _ _)⟩⟩
  case round =>
    obtain ⟨k, K, hk, rfl, HF, HSH, HCH, HST⟩ := hrel
    by_cases hlt : k < l.length
    · obtain ⟨A', c', he, hle', hC'⟩ := Kd.R_reads (R_still (by decide) HR.out HST.out)
      injection he with e1 e2 e3
      subst e1 e3
      obtain ⟨ad, cs, rfl, hlen, hK, hc0⟩ := Kd.C_get hC' (⟨⟨#[]⟩, ⟨#[]⟩, false⟩ : Wr) (k : Int) (by omega) (by omega)
      rw [Int.toNat_natCast] at hK hc0
      have hc : ∀ j u, cs[j]? = some u → wr.cell? (ad.add (k * 3 + j)) = some u := hc0
      obtain rfl := k56_open hK
      have z0 : wr.cell? (ad.add (k * 3)) = some (.string (l.getD k (⟨⟨#[]⟩, ⟨#[]⟩, false⟩ : Wr)).f0) := hc 0 _ rfl
      have z1 : wr.cell? ⟨(ad.add (k * 3)).block, (ad.add (k * 3)).off + 1, none⟩ = some (.string (l.getD k (⟨⟨#[]⟩, ⟨#[]⟩, false⟩ : Wr)).f1) := by rw [← add_field _ _ 1 (by omega)]; exact hc 1 _ rfl
      have z2 : wr.cell? ⟨(ad.add (k * 3)).block, (ad.add (k * 3)).off + 2, none⟩ = some (.bool (l.getD k (⟨⟨#[]⟩, ⟨#[]⟩, false⟩ : Wr)).f2) := by rw [← add_field _ _ 2 (by omega)]; exact hc 2 _ rfl
      have hmem : l.getD k (⟨⟨#[]⟩, ⟨#[]⟩, false⟩ : Wr) ∈ l := by simp [List.getElem?_eq_getElem hlt]
      have hdrop : l.drop k = l.getD k (⟨⟨#[]⟩, ⟨#[]⟩, false⟩ : Wr) :: l.drop (k + 1) := by
        rw [List.drop_eq_getElem_cons hlt]; simp [List.getElem?_eq_getElem hlt]
      have HF2 := HF.out
      rw [hdrop] at HF2
      generalize l.getD k (⟨⟨#[]⟩, ⟨#[]⟩, false⟩ : Wr) = x at *
      obtain ⟨hf1, hf2, hf3⟩ := HF2
      obtain ⟨n1, n2⟩ := put1_ok hf2 hf3
      have hf4 : putV K (x :: l.drop (k + 1)) ts = putV (put1 ts K x) (l.drop (k + 1)) ts := rfl
      have HF3 : Aside0 (putV s.K l ts = putV (put1 ts K x) (l.drop (k + 1)) ts ∧ KOk (put1 ts K x) ∧ PutOk (put1 ts K x) (l.drop (k + 1)) ts) := ⟨hf1.trans hf4, n1, n2⟩
      have hver := hf3.ver x List.mem_cons_self
      have hlast := hf3.last x List.mem_cons_self
      have hroom := (cntK_le hf3.room).1
      have hks := HK.out x hmem
      obtain ⟨bk, bp, ve, fk, fp, hpt⟩ := HSH.out
      obtain ⟨wy, hwy⟩ : ∃ wy, wy = wr.alloc (.cells #[.string x.f0, .string x.f1, .bool x.f2] 56) := ⟨_, rfl⟩
      have hby : Below wr.heap.size wr wy := by rw [hwy]; exact below_alloc (Below.refl _ _) _
      have hyx : wy.heap[wr.heap.size]? = some (.cells #[.string x.f0, .string x.f1, .bool x.f2] 56 (0, 0)) := by rw [hwy]; exact blk_new _ _
      have HPY := Aside0.mk (hpt.below hby)
      have hkm := key_sk hks
      have HKM := Aside0.mk hkm
      obtain ⟨A2, ca, hv, hle, hC⟩ := HPY.out.chain (wkey x)
      have hco : ChainOk (look K (wkey x)) := hf2.look _
      have HADD : Aside0 (∀ W, Below wy.heap.size wy W → Calls Try.prog 84 #[.slice A2 (look K (wkey x)).length ca, .agg #[.int .i64 ts, .string x.f1, .bool x.f2]] W fun e w' => ∃ u, e = .returned (.tuple #[u, .int .i64 0]) ∧ Kd.R k29 29 w' W.heap.size (fun _ => True) u (look K (wkey x) ++ [⟨ts, x.f1, x.f2⟩]) ∧ Below W.heap.size W w') := ⟨fun W hW => add_walk W A2 ca (look K (wkey x)) ⟨ts, x.f1, x.f2⟩ (Kd.C_below hC hW) hle hco hver hroom hlast⟩
      have hlk : Sem.run Try.prog (Instr.lookup 74 (.map (some bk)) (.string x.f0) false) wy.drew = .ok (.slice A2 (look K (wkey x)).length ca) wy.drew := by
        have h1 := (MapL.get_ (MapL.below HPY.out.keys (below_drew1 (Below.refl _ _))) keyedS Try.underlying74 (zeroC wy.drew) hkm).1
        have e1 : fk (sk (kb x.f0)) = fk (sk (wkey x)) := rfl
        rw [e1, hv] at h1
        exact h1
      obtain ⟨c0, -, -, -⟩ := HPY.out.cells
      have y0 := blk_cell hyx 0
      have y1 := blk_cell hyx 1
      have y2 := blk_cell hyx 2
      have HYX := Aside0.mk hyx
      have HWY := Aside0.mk hwy
      have HBY := Aside0.mk hby
      have hnn : N + k < maxLen := by have := HNN.out; omega
      have HN2 := Aside0.mk hnn
      clear hnn hwy hby hyx hkm hks hpt hmem hdrop hf1 hf2 hf3 hf4 n1 n2 hver hlast hroom hv hle hC hco HF hK hc0 hc hlen hC' hle' HSH
      generalize hch0 : look K (wkey x) = ch at *
      have HQ := Aside0.mk hch0
      clear hch0
      go_wp2_with fail
      rw [← HWY.out]
      go_region_held3 (fun w' => w'.cell? ⟨b, 0, none⟩ = some (.map (some bk)) ∧ w'.cell? ⟨wr.heap.size, 0, none⟩ = some (.string x.f0) ∧ w'.cell? ⟨wr.heap.size, 1, none⟩ = some (.string x.f1) ∧ w'.cell? ⟨wr.heap.size, 2, none⟩ = some (.bool x.f2)) (first | exact ⟨c0, y0, y1, y2⟩ | exact ⟨d0, u0, u1, u2⟩ | exact ⟨e0, v0, v1, v2⟩)
        (first
          | (go_simp; go_at_call 84; refine (HADD.out _ (by repeat (first | exact Below.refl _ _ | apply below_drew1))).mono ?_; rintro e w5 ⟨u, rfl, hu, hb5⟩; have HU := Aside0.mk hu; have HB5 := Aside0.mk hb5; have HP5 := Aside0.mk ((HPY.out.below (below_drew1 (Below.refl _ _))).below hb5); obtain ⟨w6, hrun, hm6, hg6⟩ := MapL.put_ HP5.out.keys keyedS Try.underlying74 HN2.out HKM.out u; have HM6 := Aside0.mk hm6; have HG6 := Aside0.mk hg6; have hY5 := blk_below (blk_drew HYX.out) hb5; have hY6 := blk_map hY5 hg6 (fun _ _ => HP5.out.keys.not_cells); have hb6 := blk_map HP5.out.box hg6 (fun _ _ => HP5.out.keys.not_cells); obtain ⟨d0, -, -, -⟩ := HP5.out.cells; have u0 := blk_cell hY5 0; have u1 := blk_cell hY5 1; have u2 := blk_cell hY5 2; have e0 := blk_cell hb6 0; have v0 := blk_cell hY6 0; have v1 := blk_cell hY6 1; have v2 := blk_cell hY6 2; clear hu hm6 hg6 hY5 hY6 hb6 hb5))
      all_goals (try go_wp2_with fail)
      have B5 : Aside0 (Below wr.heap.size wr w5) := ⟨(below_drew1 HBY.out).trans (HB5.out.mono (below_drew1 HBY.out).size)⟩
      have OK5 : Aside0 (∀ g, wy.drew.heap.size ≤ g → ok g) := ⟨fun g hg => HOK.out g (Nat.le_trans HCH.out.size (Nat.le_trans (below_drew1 HBY.out).size hg))⟩
      have P6 := Aside0.mk (HP5.out.put1 HG6.out HM6.out (by have := HU.out; rw [← HQ.out] at this; exact R_new this OK5.out) HF3.out.2.1)
      have CH6 : Aside0 (Chg ok w w6) := ⟨(HCH.out.trans (Chg.of_below B5.out)).trans (Chg.of_grown HG6.out HP5.out.okk (fun _ _ _ => HP5.out.keys.not_cells))⟩
      have ST6 : Aside0 (Still ok w w6) := ⟨(HST.out.trans (Still.of_below B5.out)).trans (Still.of_grown HG6.out (fun _ _ _ => HP5.out.keys.not_cells))⟩
      go_roundw
      case rel => exact ⟨k + 1, put1 ts K x, by omega, by go_num, HF3, ⟨⟨bk, bp, ve, _, fp, P6.out⟩⟩, CH6, ST6⟩
      case measure => simp [intOf]; omega
    · obtain rfl : k = l.length := by omega
      have HV3 : Aside0 (putV s.K l ts = K) := ⟨by rw [HF.out.1, List.drop_of_length_le (Nat.le_refl _)]; rfl⟩
      go_wp2
      go_end0
      exact ⟨rfl, by rw [HV3.out]; exact HSH.out, HCH.out, HST.out⟩
end Go.Proofs.Ytaldfbmjmpkmmaa.PL
