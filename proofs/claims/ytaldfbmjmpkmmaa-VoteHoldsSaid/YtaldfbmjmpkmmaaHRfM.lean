/- A shelf and the document's shelf side by side; records applied to both. -/
import Derived.Test.YtaldfbmjmpkmmaaHRfL
import Derived.Test.YtaldfbmjmpkmmaaMbf983a
namespace Go.Proofs.Ytaldfbmjmpkmmaa.PL
open Go.RowKit Go.Proofs.YtaldfbmjmpkmmaaW.PrintWords Go.Proofs.YtaldfbmjmpkmmaaW.PrintLast Go.Proofs.YtaldfbmjmpkmmaaW.PrintMore
set_option linter.unusedVariables false
set_option linter.unusedSimpArgs false
set_option linter.unusedSectionVars false
/-- The shelf at b and the document's at rb: no block of one is the other's; all since w0. -/
def Duo (w0 w : World) (b n rb : Nat) (s t : Sh) : Prop := ∃ okp : Nat → Prop, ShAt w okp b n s ∧ RfAt w (fun g => ¬ okp g) rb t ∧ (∀ g, okp g → w0.heap.size ≤ g ∧ g < w.heap.size) ∧ w0.heap.size ≤ rb ∧ Below w0.heap.size w0 w
section
variable {w0 w w' : World} {b n rb : Nat} {s t : Sh}
theorem Duo.below (h : Duo w0 w b n rb s t) (hb : Below w.heap.size w w') : Duo w0 w' b n rb s t := by
  obtain ⟨okp, h1, h2, h3, h4, h5⟩ := h
  exact ⟨okp, h1.below hb, h2.below hb, fun g hg => ⟨(h3 g hg).1, Nat.lt_of_lt_of_le (h3 g hg).2 hb.size⟩, h4, h5.trans (hb.mono h5.size)⟩
theorem Duo.world (h : Duo w0 w b n rb s t) : Below w0.heap.size w0 w := let ⟨_, _, _, _, _, h5⟩ := h; h5

theorem Duo.okR (h : Duo w0 w b n rb s t) : ShOk t := let ⟨_, _, ⟨_, _, _, _, _, _, hp⟩, _, _, _⟩ := h; hp.good
theorem Duo.shelf (h : Duo w0 w b n rb s t) : ∃ ok, ShAt w ok b n s := let ⟨okp, h1, _, _, _, _⟩ := h; ⟨okp, h1⟩

theorem Duo.apply_p (h : Duo w0 w b n rb s t) (hE : s.E.length ≤ 1024) (hN : n + 1024 < maxLen) (r : Rec) (cs : List Value) (hK : k35.K w r cs) (hs : sizesOk r) :
    Calls Try.prog 13 #[.pointer (some ⟨b, 0, none⟩), .agg cs.toArray] w fun e w' => e = .returned (.int .i64 (applyV s r).1) ∧ Duo w0 w' b (n + 16) rb (applyV s r).2 t := by
  obtain ⟨okp, h1, h2, h3, h4, h5⟩ := h
  refine (apply_walk (ok := fun g => okp g ∨ w.heap.size ≤ g) (h1.narrow (fun g hg _ => .inl hg)) hE (fun g hg => .inr hg) hN r cs hK hs).mono ?_
  rintro e w' ⟨rfl, hs', hc⟩
  refine ⟨rfl, fun g => (okp g ∨ w.heap.size ≤ g) ∧ g < w'.heap.size, hs'.narrow (fun g hg hl => ⟨hg, hl⟩), ?_, fun g hg => ⟨?_, hg.2⟩, h4, ?_⟩
  · have h6 : RfAt w (fun g => ¬ okp g ∧ g < w.heap.size) rb t := h2.mono (fun g hg hl => ⟨hg, hl⟩)
    have h7 : RfAt w' (fun g => ¬ okp g ∧ g < w.heap.size) rb t := h6.apart hc.toChg0 (fun g hg hl h => by rcases h with h | h; exact hg.1 h; omega)
    exact h7.mono (fun g hg hl h => by rcases h.1 with h | h; exact hg.1 h; omega)
  · rcases hg.1 with h | h
    · exact (h3 g h).1
    · exact Nat.le_trans h5.size h
  · exact hc.below h5 h5.size (fun g hg => by
      rcases hg with h | h
      · exact (h3 g h).1
      · exact Nat.le_trans h5.size h)
theorem Duo.apply_r (h : Duo w0 w b n rb s t) (r : Rec) (cs : List Value) (hK : Kd.FK k35 w (fun g => g < w0.heap.size) r cs) (hs : sizesOk r) :
    Calls Try.prog 41 #[.pointer (some ⟨rb, 0, none⟩), .agg cs.toArray] w fun e w' => e = .returned (.int .i64 (applyV t r).1) ∧ Duo w0 w' b n rb s (applyV t r).2 := by
  obtain ⟨okp, h1, h2, h3, h4, h5⟩ := h
  have hrb : ¬ okp rb := let ⟨_, _, _, _, _, _, hp⟩ := h2; hp.okb
  refine (rapply_walk h2 (fun g hg h => by have := (h3 g h).2; omega) r cs (Kd.FK_mono hK (fun g hg => ⟨fun h => by have := (h3 g h).1; omega, by omega⟩)) hs).mono ?_
  rintro e w' ⟨rfl, hs', hc⟩
  refine ⟨rfl, okp, h1.apart hc (fun g hg h => hrb (by rw [← h]; exact hg)), hs', fun g hg => ⟨(h3 g hg).1, Nat.lt_of_lt_of_le (h3 g hg).2 hc.size⟩, h4, hc.below h5 h5.size (fun g hg => by rw [hg]; exact h4)⟩
end
/-- An argument's record, read for good. -/
theorem arg_rec {w0 : World} {A : Option Addr} {l : List Rec} (h : Kd.C k35 w0 A l.length l) (k : Nat) (hk : k < l.length) : ∃ ad A7 c7 A8 c8, A = some ad ∧ Kd.FK k35 w0 (fun g => g < w0.heap.size) l[k] [.int .i64 l[k].f0, .int .i64 l[k].f1, .int .i64 l[k].f2, .int .i64 l[k].f3, .string l[k].f4, .string l[k].f5, .bool l[k].f6, .slice A7 l[k].f7.length c7, .slice A8 l[k].f8.length c8] ∧
    ∀ j u, [Value.int .i64 l[k].f0, .int .i64 l[k].f1, .int .i64 l[k].f2, .int .i64 l[k].f3, .string l[k].f4, .string l[k].f5, .bool l[k].f6, .slice A7 l[k].f7.length c7, .slice A8 l[k].f8.length c8][j]? = some u → w0.cell? (ad.add (k * 9 + j)) = some u := by
  obtain ⟨ad, cs, rfl, hlen, hK, hc0, -⟩ := Kd.F_get (Kd.C_F heapR h) (⟨0, 0, 0, 0, ⟨#[]⟩, ⟨#[]⟩, false, [], []⟩ : Rec) (k : Int) (by omega) (by omega)
  rw [Int.toNat_natCast] at hK hc0
  have hget : l.getD k (⟨0, 0, 0, 0, ⟨#[]⟩, ⟨#[]⟩, false, [], []⟩ : Rec) = l[k] := by simp [List.getElem?_eq_getElem hk]
  rw [hget] at hK
  generalize l[k] = r at *
  obtain ⟨A7, c7, A8, c8, rfl, l7, g7, l8, g8⟩ := k35_openF hK
  exact ⟨ad, A7, c7, A8, c8, rfl, hK, hc0⟩
theorem rec_fields {w : World} {ad : Addr} {k : Nat} {v0 v1 v2 v3 v4 v5 v6 v7 v8 : Value} (hc : ∀ j u, [v0, v1, v2, v3, v4, v5, v6, v7, v8][j]? = some u → w.cell? (ad.add (k * 9 + j)) = some u) :
    w.cell? (ad.add (k * 9)) = some v0 ∧ w.cell? ⟨(ad.add (k * 9)).block, (ad.add (k * 9)).off + 1, none⟩ = some v1 ∧ w.cell? ⟨(ad.add (k * 9)).block, (ad.add (k * 9)).off + 2, none⟩ = some v2 ∧ w.cell? ⟨(ad.add (k * 9)).block, (ad.add (k * 9)).off + 3, none⟩ = some v3 ∧ w.cell? ⟨(ad.add (k * 9)).block, (ad.add (k * 9)).off + 4, none⟩ = some v4 ∧ w.cell? ⟨(ad.add (k * 9)).block, (ad.add (k * 9)).off + 5, none⟩ = some v5 ∧
    w.cell? ⟨(ad.add (k * 9)).block, (ad.add (k * 9)).off + 6, none⟩ = some v6 ∧ w.cell? ⟨(ad.add (k * 9)).block, (ad.add (k * 9)).off + 7, none⟩ = some v7 ∧ w.cell? ⟨(ad.add (k * 9)).block, (ad.add (k * 9)).off + 8, none⟩ = some v8 :=
  ⟨hc 0 _ rfl, by rw [← add_field _ _ 1 (by omega)]; exact hc 1 _ rfl, by rw [← add_field _ _ 2 (by omega)]; exact hc 2 _ rfl, by rw [← add_field _ _ 3 (by omega)]; exact hc 3 _ rfl, by rw [← add_field _ _ 4 (by omega)]; exact hc 4 _ rfl, by rw [← add_field _ _ 5 (by omega)]; exact hc 5 _ rfl, by rw [← add_field _ _ 6 (by omega)]; exact hc 6 _ rfl, by rw [← add_field _ _ 7 (by omega)]; exact hc 7 _ rfl, by rw [← add_field _ _ 8 (by omega)]; exact hc 8 _ rfl⟩
theorem rf_new {w : World} {ok : Nat → Prop} (ho : ok w.heap.size) : RfAt (w.alloc (.cells #[.slice none 0 0, .slice none 0 0, .slice none 0 0, .int .i64 0] 89)) ok w.heap.size sh0 :=
  ⟨none, none, none, 0, 0, 0, blk_new _ _, Nat.le_refl _, Nat.le_refl _, Nat.le_refl _, Kd.F_nil _ _ _, Kd.F_nil _ _ _, Kd.F_nil _ _ _, ho, by simp [sh0], by simp [sh0], sh0_ok⟩
set_option maxRecDepth 100000 in
set_option maxHeartbeats 8000000 in
theorem made19_walk (w : World) (A : Option Addr) (c : Nat) (l : List Rec) (hr : Kd.C k35 w A l.length l) (hs : ∀ r ∈ l, sizesOk r) :
    Calls Try.prog 14 #[.slice A l.length c] w fun e w' => ∃ b rb, e = .returned (.tuple #[.pointer (some ⟨b, 0, none⟩), .pointer (some ⟨rb, 0, none⟩)]) ∧ Duo w w' b 960 rb (madeV l) (madeV l) := by
  have HNW := Aside0.mk (new_walk w)
  have HR := Aside0.mk hr
  have HS := Aside0.mk hs
  have hmax := Kd.C_max hr
  have HMV : Aside0 (madeV l = (l.take 60).foldl (fun s r => (applyV s r).2) sh0) := ⟨rfl⟩
  clear hr hs
  go_enter Try.func14, Try.ntmps14
  go_wp2_with fail
  refine HNW.out.mono ?_
  rintro e w1 ⟨b, rfl, hs1, hb1⟩
  obtain ⟨w2, hw2⟩ : ∃ w2, w2 = w1.alloc (.cells #[.slice none 0 0, .slice none 0 0, .slice none 0 0, .int .i64 0] 89) := ⟨_, rfl⟩
  have hb2 : Below w1.heap.size w1 w2 := by rw [hw2]; exact below_alloc (Below.refl _ _) _
  obtain ⟨rb, hrb⟩ : ∃ rb, rb = w1.heap.size := ⟨_, rfl⟩
  have hD : Duo w w2 b 0 rb sh0 sh0 := ⟨fun g => w.heap.size ≤ g ∧ g < w1.heap.size, (hs1.narrow (fun g hg hl => ⟨hg, hl⟩)).below hb2, by rw [hw2, hrb]; exact rf_new (fun h => by have := h.2; omega), fun g hg => ⟨hg.1, Nat.lt_of_lt_of_le hg.2 hb2.size⟩, by rw [hrb]; exact hb1.size, hb1.trans (hb2.mono hb1.size)⟩
  have HD : Aside0 (Duo w w2 b (16 * 0) rb ((l.take 0).foldl (fun s r => (applyV s r).2) sh0) ((l.take 0).foldl (fun s r => (applyV s r).2) sh0)) := ⟨hD⟩
  have HW2 := Aside0.mk hw2
  have HRB := Aside0.mk hrb
  clear hs1 hb1 hb2 hw2 hrb hD HNW
  go_wp2_with fail
  rw [← HW2.out, ← HRB.out]
  clear HW2 HRB
  go_loopw [6] (fun i wr => ∃ k : Nat, k ≤ l.length ∧ k ≤ 60 ∧ i = .int .i64 (k : Int) ∧ Aside0 (Duo w wr b (16 * k) rb ((l.take k).foldl (fun s r => (applyV s r).2) sh0) ((l.take k).foldl (fun s r => (applyV s r).2) sh0))) (fun i _ => l.length - (intOf i).toNat)
  case atStart => exact ⟨0, Nat.zero_le _, Nat.zero_le _, rfl, HD⟩
  case round =>
    clear HD
    obtain ⟨k, hk, hk6, rfl, HD⟩ := hrel
    by_cases hlt : k < l.length ∧ k < 60
    · obtain ⟨hlt, hlt6⟩ := hlt
      obtain ⟨ad, A7, c7, A8, c8, rfl, hFK, hcc⟩ := arg_rec HR.out k hlt
      have hmem : l[k] ∈ l := List.getElem_mem _
      have HMT := Aside0.mk (made_take l k hlt)
      have hend := fold_ends (l.take k) (s := sh0) (by simp [sh0])
      generalize l[k] = r at *
      have HSZ := Aside0.mk (HS.out r hmem)
      have HFK := Aside0.mk hFK
      have HCC := Aside0.mk hcc
      obtain ⟨z0, z1, z2, z3, z4, z5, z6, z7, z8⟩ := rec_fields (w := wr) (fun j u hu => (HD.out.world.cell (World.block_lt_of_cell? w _ (hcc j u hu))).trans (hcc j u hu))
      generalize (l.take k).foldl (fun s r => (applyV s r).2) sh0 = s at *
      have HAP := Aside0.mk (HD.out.apply_p hend (Nat.lt_of_le_of_lt (show 16 * k + 1024 ≤ 960 + 1024 by omega) (by decide)) r _ (Kd.FK_now (Kd.FK_step HFK.out (fun g _ hg => HD.out.world.block g hg))) HSZ.out)
      clear hcc hFK hend hmem
      go_wp2_with fail
      refine HAP.out.mono ?_
      rintro e w3 ⟨rfl, hD3⟩
      have HD3 := Aside0.mk hD3
      clear hD3 HAP z0 z1 z2 z3 z4 z5 z6 z7 z8 HD
      obtain ⟨z0, z1, z2, z3, z4, z5, z6, z7, z8⟩ := rec_fields (w := w3) (fun j u hu => (HD3.out.world.cell (World.block_lt_of_cell? w _ (HCC.out j u hu))).trans (HCC.out j u hu))
      have HAP := Aside0.mk (HD3.out.apply_r r _ (Kd.FK_step HFK.out (fun g _ hg => HD3.out.world.block g hg)) HSZ.out)
      generalize (applyV s r).1 = rv at *
      go_wp2_with fail
      refine HAP.out.mono ?_
      rintro e w4 ⟨rfl, hD4⟩
      have HD4 : Aside0 (Duo w w4 b (16 * (k + 1)) rb ((l.take (k + 1)).foldl (fun s r => (applyV s r).2) sh0) ((l.take (k + 1)).foldl (fun s r => (applyV s r).2) sh0)) := ⟨by rw [HMT.out]; exact hD4⟩
      clear hD4 HAP z0 z1 z2 z3 z4 z5 z6 z7 z8 HD3 HMT
      go_wp2_with fail
      go_roundw
      case rel => exact ⟨k + 1, by omega, by omega, by go_num, HD4⟩
      case measure => simp [intOf]; omega
    · have HEND : Aside0 (Duo w wr b 960 rb (madeV l) (madeV l)) := ⟨by
        rw [HMV.out]
        have e : l.take 60 = l.take k := by
          by_cases h6 : k = 60
          · rw [h6]
          · rw [List.take_of_length_le (show l.length ≤ 60 by omega), List.take_of_length_le (show l.length ≤ k by omega)]
        rw [e]
        obtain ⟨okp, h1, h2, h3, h4, h5⟩ := HD.out
        exact ⟨okp, h1.mono (by omega), h2, h3, h4, h5⟩⟩
      by_cases h6 : k < l.length
      · have h60 : ¬ k < 60 := fun h => hlt ⟨h6, h⟩
        clear hlt
        go_wp2
        go_ret2
        exact ⟨b, rb, rfl, HEND.out⟩
      · clear hlt
        go_wp2
        go_ret2
        exact ⟨b, rb, rfl, HEND.out⟩
end Go.Proofs.Ytaldfbmjmpkmmaa.PL
