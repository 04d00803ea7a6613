/- SectorPlays: the law's walk; how its calls are read. -/
import Derived.Test.YteibcojjbcihbaaHStepD
import Derived.Test.YteibcojjbcihbaaHOpenD
namespace Go.Proofs.Yteibcojjbcihbaa.Sec
open Go.RowKit Go.Proofs.YteibcojjbcihbaaW.PrintWords Go.Proofs.YteibcojjbcihbaaW.PrintLast Go.Proofs.YteibcojjbcihbaaW.PrintMore Go.Maps Go.Proofs.Yteibcojjbcihbaa.Mk
open Go.Proofs.Yteibcojjbcihbaa.Txn (unguard blk_newI openI openS openB okStr list_value)
open Go.Lib (byteCells byteCells_length byteCells_append byteCells_one)
set_option linter.unusedVariables false
set_option linter.unusedSimpArgs false

open Go.Proofs.Yteibcojjbcihbaa.Read
structure S77 where
  f0 : Int
  f1 : Int
  f2 : ByteArray
  f3 : Bool
  f4 : List Int
def z77 : S77 := ⟨0, 0, ⟨#[]⟩, false, []⟩
instance : Inhabited S77 := ⟨z77⟩
def k77 : Kd S77 := Kd.iso (Kd.pair (Kd.int .i64) (Kd.pair (Kd.int .i64) (Kd.pair Kd.string (Kd.pair Kd.bool (Kd.slice 3 (Kd.int .i64)))))) (fun x : S77 => (x.f0, x.f1, x.f2, x.f3, x.f4))
theorem k77_heap : Kd.Heap k77 := Kd.heap_iso _ (Kd.heap_pair (Kd.heap_int .i64) (Kd.heap_pair (Kd.heap_int .i64) (Kd.heap_pair Kd.heap_string (Kd.heap_pair Kd.heap_bool (Kd.heap_slice 3 (Kd.heap_int .i64))))))
theorem k77_open {w : World} {x : S77} {cs : List Value} (h : k77.K w x cs) : ∃ A c, cs = [.int .i64 x.f0, .int .i64 x.f1, .string x.f2, .bool x.f3, .slice A x.f4.length c] ∧ x.f4.length ≤ c ∧ Kd.C (Kd.int .i64) w A x.f4.length x.f4 := by
  obtain ⟨_, _, rfl, rfl, ⟨_, _, rfl, rfl, ⟨_, _, rfl, rfl, ⟨_, _, rfl, rfl, ⟨A, c, rfl, hl, hC⟩⟩⟩⟩⟩ := h
  exact ⟨A, c, rfl, hl, hC⟩
def rd77 (xs : List S77) (i : Int) : S77 := xs.getD i.toNat z77
theorem at77 {w : World} {A : Option Addr} {n : Nat} {xs : List S77} (h : Kd.C k77 w A n xs) (i : Int) (h0 : 0 ≤ i) (h1 : i < n) : ∃ ad A2 c2, A = some ad ∧ Kd.C (Kd.int .i64) w A2 (rd77 xs i).f4.length (rd77 xs i).f4 ∧ w.cell? (ad.add (i.toNat * 5)) = some (.int .i64 (rd77 xs i).f0) ∧ w.cell? ⟨(ad.add (i.toNat * 5)).block, (ad.add (i.toNat * 5)).off + 1, none⟩ = some (.int .i64 (rd77 xs i).f1) ∧
    w.cell? ⟨(ad.add (i.toNat * 5)).block, (ad.add (i.toNat * 5)).off + 2, none⟩ = some (.string (rd77 xs i).f2) ∧ w.cell? ⟨(ad.add (i.toNat * 5)).block, (ad.add (i.toNat * 5)).off + 3, none⟩ = some (.bool (rd77 xs i).f3) ∧
    w.cell? ⟨(ad.add (i.toNat * 5)).block, (ad.add (i.toNat * 5)).off + 4, none⟩ = some (.slice A2 (rd77 xs i).f4.length c2) := by
  obtain ⟨ad, c, e, _, hK, hc0⟩ := Kd.C_get h z77 i h0 h1
  have hc : ∀ j u, c[j]? = some u → w.cell? (ad.add (i.toNat * 5 + j)) = some u := hc0
  obtain ⟨A2, c2, rfl, _, hC⟩ := k77_open hK
  exact ⟨ad, A2, c2, e, hC, hc 0 _ rfl, by rw [← add_field _ _ 1 (by omega)]; exact hc 1 _ rfl, by rw [← add_field _ _ 2 (by omega)]; exact hc 2 _ rfl, by rw [← add_field _ _ 3 (by omega)]; exact hc 3 _ rfl, by rw [← add_field _ _ 4 (by omega)]; exact hc 4 _ rfl⟩
theorem rd77_nat (l : List S77) (k : Nat) (h : k < l.length) : rd77 l (k : Int) = l[k] := by
  unfold rd77
  rw [Int.toNat_natCast, List.getD_eq_getElem?_getD, List.getElem?_eq_getElem h, Option.getD_some]
def okAct77 (a : S77) : Prop := a.f4.length * 8 ≤ 140737488351232
theorem open57' : Opens Try.prog (Kd.slice 3 (Kd.int .i64)) 57 (fun l => l.length * 8 ≤ 140737488351232) := opens_good (opens_slice (B := 8) Try.underlying57 (by kernel_rfl) (by kernel_rfl) openI) (fun _ h => h.1)
theorem open77 : Opens Try.prog k77 77 okAct77 :=
  opens_good (opens_iso (fun x => (⟨x.1, x.2.1, x.2.2.1, x.2.2.2.1, x.2.2.2.2⟩ : S77)) (fun _ => rfl)
    (opens_struct Try.underlying77 (by kernel_rfl) (parts_cons rfl openI (parts_cons rfl openI (parts_cons rfl openS (parts_cons rfl openB (parts_one rfl open57'))))))) (fun _ h => h.2.2.2.2)
theorem open71 : Opens Try.prog (Kd.slice 77 k77) 71 (fun l => ∀ r, r ∈ l → okAct77 r) := opens_good (opens_slice (B := 64) Try.underlying71 (by kernel_rfl) (by kernel_rfl) open77) (fun _ h => h.2)
theorem dirtyR_of {w : World} {b g m N sz r g1 g2 c1 c2 : Nat} {sl1 sl2 : List Value} {S : List (List UInt8)} {f : Cache} {fuse : Int} {down : Bool} (h : DuoAt w b g m N sz r g1 g2 c1 c2 sl1 sl2 S f fuse down) : Calls Try.prog 35 #[.pointer (some ⟨r, 0, none⟩)] w fun e w' => e = .returned (.int .i64 (sz : Int)) ∧ w' = w := by
  have := dirtyR_walk h.ref
  rw [h.dev.dirty] at this
  exact this
theorem size_of {w : World} {b g m N sz r g1 g2 c1 c2 n : Nat} {sl1 sl2 : List Value} {S : List (List UInt8)} {f : Cache} {fuse : Int} {down : Bool} (h : DuoAt w b g m N sz r g1 g2 c1 c2 sl1 sl2 S f fuse down) (hl : S.length = n) : Calls Try.prog 34 #[.pointer (some ⟨b, 0, none⟩)] w fun e w' => e = .returned (.int .i64 (n : Int)) ∧ Below w.heap.size w w' := by
  have := size_walk h.dev
  rw [hl] at this
  exact this
theorem ten {w : World} {b g m N sz r g1 g2 c1 c2 n : Nat} {sl1 sl2 : List Value} {S : List (List UInt8)} {f : Cache} {fuse : Int} {down : Bool} {p1 p2 p3 p4 p5 : Prop} (hq : p1 ∧ p2 ∧ p3 ∧ p4 ∧ p5) (h : DuoAt w b g m N sz r g1 g2 c1 c2 sl1 sl2 S f fuse down) (hl : S.length = n) :
    p1 ∧ p2 ∧ p3 ∧ p4 ∧ p5 ∧ w.cell? ⟨r, 0, none⟩ = some (.slice (some ⟨g1, 0, none⟩) n c1) := ⟨hq.1, hq.2.1, hq.2.2.1, hq.2.2.2.1, hq.2.2.2.2, by rw [← hl]; exact h.ref.cells.1⟩
set_option maxRecDepth 100000 in
set_option maxHeartbeats 4000000 in
theorem sectorPlays_walk (w : World) (size : Int) (A : Option Addr) (c : Nat) (l : List S77) (hc : l.length ≤ c) (hr : Kd.C k77 w A l.length l) (hg : ∀ r, r ∈ l → okAct77 r) :
    Calls Try.prog 7 #[.int .i64 size, .slice A l.length c] w fun e w' => e = .returned (.bool true) ∧ Below w.heap.size w w' := by
  have HR := Aside0.mk hr
  have HG := Aside0.mk hg
  have hlm := Kd.C_max hr
  clear hr hg hc
  by_cases hbad : size < 1 ∨ 2048 < size
  · have H1 := Aside0.mk (fun w => newD_bad w size hbad)
    have H2 := Aside0.mk (fun w => makeR_bad w size hbad)
    clear hbad
    go_enter Try.func7, Try.ntmps7
    go_wp2_with fail
    refine (H1.out _).mono ?_
    rintro e w1 ⟨rfl, rfl⟩
    go_wp2_with fail
    refine (H2.out _).mono ?_
    rintro e w2 ⟨rfl, rfl⟩
    go_wp2_with fail
    refine (worksD_walk _).mono ?_
    rintro e w3 ⟨rfl, hb⟩
    go_wp2
    go_loopg [9] 1 (fun kq v9 wr => v9 = .int .i64 0 ∧ wr = w3)
    case atStart => exact ⟨rfl, rfl⟩
    case round =>
      obtain ⟨rfl, rfl⟩ := hrel
      go_wp2
      go_ret
      exact ⟨rfl, hb⟩
  · obtain ⟨n, rfl⟩ : ∃ n : Nat, size = (n : Int) := ⟨size.toNat, by omega⟩
    have H1 := Aside0.mk (newD_walk w n (by omega) (by omega))
    have H2 := Aside0.mk (fun w => makeR_walk w n (by omega) (by omega))
    clear hbad
    go_enter Try.func7, Try.ntmps7
    go_wp2_with fail
    refine H1.out.mono ?_
    rintro e w1 ⟨hb, b, g, m, hb1, hb2, hb3, rfl, hd⟩
    have HL1 := Aside0.mk (And.intro hb1 (And.intro hb2 hb3))
    have HB1 := Aside0.mk hb
    have HD1 := Aside0.mk hd
    clear hb hb1 hb2 hb3 hd H1
    go_wp2_with fail
    refine (H2.out w1).mono ?_
    rintro e w2 ⟨hb, r, g1, g2, c1, c2, sl1, sl2, hb1, hb2, hb3, rfl, hr⟩
    have hws := HB1.out.size
    have HBS : Aside0 (w.heap.size ≤ b ∧ w.heap.size ≤ g ∧ w.heap.size ≤ m ∧ w.heap.size ≤ r ∧ w.heap.size ≤ g1 ∧ w.heap.size ≤ g2) := ⟨by have := HL1.out; omega⟩
    have HB2 : Aside0 (Below w.heap.size w w2) := ⟨HB1.out.trans (hb.mono hws)⟩
    have HDU2 : Aside0 (DuoAt w2 b g m 0 0 r g1 g2 c1 c2 sl1 sl2 (List.replicate n (zeros 64)) (fun _ => none) 0 false) := ⟨⟨HD1.out.below hb, hr⟩⟩
    clear hb hb1 hb2 hb3 hr hws HL1 HB1 HD1 H2
    go_wp2_with fail
    refine (worksD_walk w2).mono ?_
    rintro e w3 ⟨rfl, hb⟩
    have HB3 : Aside0 (Below w.heap.size w w3) := ⟨HB2.out.trans (hb.mono HB2.out.size)⟩
    have HDU3 := Aside0.mk (HDU2.out.below hb)
    clear hb HB2 HDU2
    go_wp2
    go_loopg [9] (l.length + 1) (fun kq v9 wr => ∃ (k N sz : Nat) (S : List (List UInt8)) (f : Cache) (fuse : Int) (down : Bool), v9 = .int .i64 k ∧ k ≤ 100 ∧ k ≤ l.length ∧ k + kq = l.length + 1 ∧ Aside0 (N ≤ k) ∧ Aside0 (S.length = n) ∧ Aside0 (Below w.heap.size w wr) ∧ Aside0 (DuoAt wr b g m N sz r g1 g2 c1 c2 sl1 sl2 S f fuse down))
    case atStart => exact ⟨0, 0, 0, _, _, _, _, rfl, by omega, by omega, by omega, ⟨Nat.le_refl _⟩, ⟨List.length_replicate ..⟩, HB3, HDU3⟩
    case round =>
      clear HB3 HDU3
      obtain ⟨k, N, sz, S, f, fuse, down, rfl, hk100, hk, hkq, HN, HSL, HB, HDU⟩ := hrel
      by_cases hlt : k < l.length ∧ k < 100
      · obtain ⟨hlt, hlt2⟩ := hlt
        obtain ⟨ad, A2, a2, rfl, hP, q0, q1, q2, q3, q4⟩ := at77 HR.out (k : Int) (by omega) (by omega)
        obtain ⟨x, hx⟩ : ∃ x, x = rd77 l (k : Int) := ⟨_, rfl⟩
        have HX : Aside0 (okAct77 x) := ⟨by rw [hx, rd77_nat l k hlt]; exact HG.out _ (List.getElem_mem hlt)⟩
        rw [Int.toNat_natCast] at q0 q1 q2 q3 q4
        rw [← hx] at q0 q1 q2 q3 q4 hP
        clear hx
        obtain ⟨kd, nn, text, raw, picks⟩ := x
        have HPC := Aside0.mk hP
        have HQ : Aside0 (∀ w', Below w.heap.size w w' → w'.cell? (ad.add (k * 5)) = some (.int .i64 kd) ∧ w'.cell? ⟨(ad.add (k * 5)).block, (ad.add (k * 5)).off + 1, none⟩ = some (.int .i64 nn) ∧ w'.cell? ⟨(ad.add (k * 5)).block, (ad.add (k * 5)).off + 2, none⟩ = some (.string text) ∧ w'.cell? ⟨(ad.add (k * 5)).block, (ad.add (k * 5)).off + 3, none⟩ = some (.bool raw) ∧ w'.cell? ⟨(ad.add (k * 5)).block, (ad.add (k * 5)).off + 4, none⟩ = some (.slice A2 picks.length a2)) :=
          ⟨fun w' hb => ⟨(hb.cell (World.block_lt_of_cell? w _ q0)).trans q0, (hb.cell (World.block_lt_of_cell? w _ q1)).trans q1, (hb.cell (World.block_lt_of_cell? w _ q2)).trans q2, (hb.cell (World.block_lt_of_cell? w _ q3)).trans q3, (hb.cell (World.block_lt_of_cell? w _ q4)).trans q4⟩⟩
        have HDd := Aside0.mk (HDU.out.below (below_drew1 (Below.refl _ _)))
        have HBd : Aside0 (Below w.heap.size w wr.drew) := ⟨HB.out.trans (below_drew1 (Below.refl _ _))⟩
        have HST := Aside0.mk (stepD_walk HDd.out (by have := HN.out; omega) ⟨HBS.out.1, HBS.out.2.1, HBS.out.2.2.1, HBS.out.2.2.2.1, HBS.out.2.2.2.2.1, HBS.out.2.2.2.2.2, HBd.out.size⟩ kd nn text raw A2 a2 picks HX.out (fun w' hb => Kd.C_below HPC.out (HBd.out.trans hb)))
        obtain ⟨y0, y1, y2, y3, y4⟩ := HQ.out wr HB.out
        have hr0 := HDd.out.ref.cells.1
        have s4 : wr.drew.cell? (ad.add (k * 5)) = some (.int .i64 kd) ∧ wr.drew.cell? ⟨(ad.add (k * 5)).block, (ad.add (k * 5)).off + 1, none⟩ = some (.int .i64 nn) ∧ wr.drew.cell? ⟨(ad.add (k * 5)).block, (ad.add (k * 5)).off + 2, none⟩ = some (.string text) ∧ wr.drew.cell? ⟨(ad.add (k * 5)).block, (ad.add (k * 5)).off + 3, none⟩ = some (.bool raw) ∧ wr.drew.cell? ⟨(ad.add (k * 5)).block, (ad.add (k * 5)).off + 4, none⟩ = some (.slice A2 picks.length a2) ∧ wr.drew.cell? ⟨r, 0, none⟩ = some (.slice (some ⟨g1, 0, none⟩) n c1) := ⟨y0, y1, y2, y3, y4, by rw [← HSL.out]; exact hr0⟩
        clear q0 q1 q2 q3 q4 hP y0 y1 y2 y3 y4 hr0
        go_wp2_with fail
        go_region_held3 (fun w' => w'.cell? (ad.add (k * 5)) = some (.int .i64 kd) ∧ w'.cell? ⟨(ad.add (k * 5)).block, (ad.add (k * 5)).off + 1, none⟩ = some (.int .i64 nn) ∧ w'.cell? ⟨(ad.add (k * 5)).block, (ad.add (k * 5)).off + 2, none⟩ = some (.string text) ∧ w'.cell? ⟨(ad.add (k * 5)).block, (ad.add (k * 5)).off + 3, none⟩ = some (.bool raw) ∧ w'.cell? ⟨(ad.add (k * 5)).block, (ad.add (k * 5)).off + 4, none⟩ = some (.slice A2 picks.length a2) ∧ w'.cell? ⟨r, 0, none⟩ = some (.slice (some ⟨g1, 0, none⟩) n c1)) (assumption)
          (first
            | (go_at_call 35; refine (dirtyR_of HD7.out).mono ?_; rintro e w8 ⟨rfl, rfl⟩)
            | (go_at_call 29; refine (dirty_walk HD6.out.dev).mono ?_; rintro e w7 ⟨rfl, hb7⟩; have HD7 := Aside0.mk (HD6.out.below hb7); have HB7 : Aside0 (Below w.heap.size w w7) := ⟨HB6.out.trans (hb7.mono HB6.out.size)⟩; have s7 := ten (HQ.out w7 HB7.out) HD7.out HL5.out)
            | (go_at_call 34; refine (size_of HD5.out HL5.out).mono ?_; rintro e w6 ⟨rfl, hb6⟩; have HD6 := Aside0.mk (HD5.out.below hb6); have HB6 : Aside0 (Below w.heap.size w w6) := ⟨HB5.out.trans (hb6.mono HB5.out.size)⟩; have s6 := ten (HQ.out w6 HB6.out) HD6.out HL5.out)
            | (go_at_call 33; refine HST.out.mono ?_; rintro e w5 ⟨rfl, hb5, N5, sz5, S5, f5, fu5, dn5, hN5, hl5, hd5⟩; have HD5 := Aside0.mk hd5; have HL5 : Aside0 (S5.length = n) := ⟨hl5.trans HSL.out⟩; have HN5 := Aside0.mk hN5; have HB5 : Aside0 (Below w.heap.size w w5) := ⟨HBd.out.trans hb5⟩; have s5 := ten (HQ.out w5 HB5.out) HD5.out HL5.out; clear hb5 hN5 hl5 hd5))
        clear s4 s5 s6 s7 hb6 hb7
        go_wp2
        go_roundg (gk - 1)
        case measure => omega
        case rel => exact ⟨k + 1, N5, sz5, S5, f5, fu5, dn5, by go_num, by omega, by omega, by omega, ⟨by have := HN5.out; have := HN.out; omega⟩, HL5, HB7, HD7⟩
      · have h100 : k = l.length ∨ (k < l.length ∧ k = 100) := by omega
        rcases h100 with rfl | ⟨h100, rfl⟩
        · go_wp2
          go_ret
          exact ⟨rfl, HB.out⟩
        · go_wp2
          go_ret
          exact ⟨rfl, HB.out⟩
end Go.Proofs.Yteibcojjbcihbaa.Sec
