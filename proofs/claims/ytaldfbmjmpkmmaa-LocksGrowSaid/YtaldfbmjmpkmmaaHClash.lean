/- locks.clash: whether two records clash, over the sets that it makes. -/
-- IMPORTS
-- END IMPORTS
import Derived.Test.YtaldfbmjmpkmmaaPL0
import Derived.Test.YtaldfbmjmpkmmaaHMap
namespace Go.Proofs.Ytaldfbmjmpkmmaa.PL
set_option linter.unusedVariables false
open Go.RowKit Go.Proofs.YtaldfbmjmpkmmaaW.PrintWords Go.Proofs.YtaldfbmjmpkmmaaW.PrintLast Go.Proofs.YtaldfbmjmpkmmaaW.PrintMore Go.Maps Mk

theorem keyed9 : Keyed Try.prog 9 := string_keyed Try.underlying9
theorem zero124 (w : World) : (zeroValue 153).run Try.prog w = .ok (.agg #[]) w := by kernel_rfl

def strs (l : List ByteArray) : List (List UInt8) := l.map (·.data.toList)
theorem strs_take (l : List ByteArray) (k : Nat) (h : k < l.length) : strs (l.take (k + 1)) = strs (l.take k) ++ [(rdOf ByteArray.empty l (k : Int)).data.toList] := by
 unfold strs rdOf
 rw [List.take_succ_eq_append_getElem h, List.map_append]
 simp [List.getElem?_eq_getElem h]

set_option maxRecDepth 100000 in
set_option maxHeartbeats 1000000 in
theorem set_add (w : World) (b : Nat) (ks : List (List UInt8)) (hset : SetIs Try.prog 9 w b ks) (A : Option Addr) (l : List ByteArray) (c : Nat) (hr : Kd.C Kd.string w A l.length l)
 (hsz : ∀ s, s ∈ l → s.size ≤ maxLen) (hn : ks.length + l.length < 9223372036854775807) :
 Calls Try.prog 63 #[.map (some b), .slice A l.length c] w fun e w' => e = .returned (.tuple #[]) ∧ SetIs Try.prog 9 w' b (ks ++ strs l) ∧ w.grownBy w' (some b) := by
 have HR := Aside0.mk hr
 clear hr
 have HSET := Aside0.mk hset
 clear hset
 go_enter Try.func63, Try.ntmps63
 go_wp2
 go_loopw [8] (fun i wr => ∃ k : Nat, k ≤ l.length ∧ i = .int .i64 k ∧ Aside0 (SetIs Try.prog 9 wr b (ks ++ strs (l.take k))) ∧ Aside0 (w.grownBy wr (some b)))
  (fun i _ => l.length - (intOf i).toNat)
 case atStart => exact ⟨0, Nat.zero_le _, rfl, ⟨by simpa [strs] using HSET.out⟩, ⟨World.grownBy.refl _ _⟩⟩
 case round =>
  obtain ⟨k, hk, rfl, HS, HG⟩ := hrel
  by_cases hlt : k < l.length
  ·obtain ⟨ad, rfl, hcell0⟩ := Kd.at_string HR.out (k : Int) (by omega) (by omega)
   have hne := HSET.out.ne hcell0
   have hcell := cell_but HG.out hne hcell0
   clear hcell0
   rw [Int.toNat_natCast] at hcell
   obtain ⟨n, D, hown, hnn, hhas⟩ := HS.out
   have hmem : rdOf ByteArray.empty l (k : Int) ∈ l := by
    unfold rdOf
    simp [List.getElem?_eq_getElem hlt]
   have hkey := key_str Try.underlying9 (hsz _ hmem)
   have HO := Aside0.mk hown
   have HH := Aside0.mk hhas
   have hlen : (strs (l.take k)).length = k := by simp [strs]; omega
   have hnn2 : n ≤ ks.length + k := by rw [List.length_append, hlen] at hnn; exact hnn
   have HN : Aside0 (n < maxLen) := ⟨by unfold maxLen; omega⟩
   have HK := Aside0.mk hkey
   clear hown hhas hnn hkey hmem hne hlen
   generalize hx : rdOf ByteArray.empty l (k : Int) = x at *
   have HX := Aside0.mk hx
   clear hx
   go_wp2_with (first
    | (at_mapUpdate; refine wpList_mapUpdate_own _ rfl _ _ _ 112 rfl 9 153 keyed9 Try.underlying112 (unitElem (H := Value)) b n _ rfl HO.out HN.out _ _ _ rfl rfl HK.out _ [] unitElem_mk ?_; intro w1 hown1 hgrow1))
   have hs1 : SetIs Try.prog 9 w1 b (ks ++ strs (l.take (k + 1))) := by
    refine ⟨n + 1, _, hown1, ?_, ?_⟩
    ·have hlen : (strs (l.take (k + 1))).length = k + 1 := by simp [strs]; omega
     rw [List.length_append, hlen]; omega
    ·rw [strs_take l k hlt, ← List.append_assoc, HX.out]
     exact has_step HO.out.isMap HH.out _ _
   have hg1 := HG.out.trans hgrow1
   have HS1 := Aside0.mk hs1
   have HG1 := Aside0.mk hg1
   clear hs1 hg1 hown1 hgrow1
   go_roundw
   case rel => exact ⟨k + 1, by omega, by go_num, HS1, HG1⟩
   case measure => simp [intOf]; omega
  ·obtain rfl : k = l.length := by omega
   go_wp2
   go_end0
   exact ⟨rfl, by simpa using HS.out, HG.out⟩

set_option maxRecDepth 100000 in
/-- set.has. -/
theorem set_has (w : World) (b : Nat) (ks : List (List UInt8)) (hset : SetIs Try.prog 9 w b ks) (s : ByteArray) (hs : s.size ≤ maxLen) :
 Calls Try.prog 102 #[.map (some b), .string s] w fun e w' => e = .returned (.bool (ks.contains s.data.toList)) ∧ Below w.heap.size w w' := by
 obtain ⟨n, D, hown, hnn, hhas⟩ := hset
 have hkey := key_str Try.underlying9 hs
 have HO := Aside0.mk hown
 have HK := Aside0.mk hkey
 have HH := Aside0.mk hhas
 clear hown hkey hhas hnn hs
 go_enter Try.func102, Try.ntmps102
 go_wp2_with (first
  | (at_lookup; refine wpList_lookup_own_unit _ rfl _ _ 112 rfl 9 153 keyed9 Try.underlying112 (zero124 _) b n D rfl HO.out _ _ rfl HK.out ?_))
 go_ret
 exact ⟨by rw [HH.out]; rfl, (Below.refl _ _).alloc (Nat.le_refl _) _⟩

def wkeys (l : List S56) : List ByteArray := l.map (·.f0)
theorem strs_one (s : ByteArray) : strs [s] = [s.data.toList] := rfl
theorem wkeys_take (l : List S56) (k : Nat) (h : k < l.length) : strs (wkeys (l.take (k + 1))) = strs (wkeys (l.take k)) ++ [(rd_T56 l (k : Int)).f0.data.toList] := by
 unfold strs wkeys rd_T56
 rw [List.take_succ_eq_append_getElem h, List.map_append, List.map_append]
 simp [List.getElem?_eq_getElem h]
theorem C_oneL (w : World) (g : Nat) (s : ByteArray) (h : w.heap[g]? = some (.cells #[.string s] 9 (0, 0))) : Kd.C Kd.string w (some ⟨g, 0, none⟩) [s].length [s] := by
 refine Kd.C_of_reads (d := ByteArray.empty) (h1 := fun _ => rfl) ⟨rfl, by simp, fun _ => ⟨_, rfl, fun j hj => ?_⟩⟩
 obtain rfl : j = 0 := by simpa using hj
 have hc := (blk_cell h 0).trans rfl
 simpa [Addr.add] using hc
def small (l : List ByteArray) : Prop := l.length ≤ 1000000000 ∧ ∀ s, s ∈ l → s.size ≤ 1000000000

set_option maxRecDepth 100000 in
set_option maxHeartbeats 1000000 in
/-- locks.touched: the set of the keys that are read, and of those that are written. -/
theorem touched (w : World) (a0 a1 a2 a3 : Int) (a4 a5 : ByteArray) (a6 : Bool) (A7 : Option Addr) (c7 : Nat) (l7 : List ByteArray) (A8 : Option Addr) (c8 : Nat) (l8 : List S56)
 (hr7 : Kd.C Kd.string w A7 l7.length l7) (hr8 : Kd.C k56 w A8 l8.length l8) (h7 : small l7) (h8 : small (wkeys l8)) :
 Calls Try.prog 62 #[.agg #[.int .i64 a0, .int .i64 a1, .int .i64 a2, .int .i64 a3, .string a4, .string a5, .bool a6, .slice A7 l7.length c7, .slice A8 l8.length c8]] w fun e w' =>
  ∃ b1 b2 : Nat, e = .returned (.tuple #[.map (some b1), .map (some b2)]) ∧ SetIs Try.prog 9 w' b1 (strs l7) ∧ SetIs Try.prog 9 w' b2 (strs (wkeys l8)) ∧ b1 ≠ b2 ∧ w.heap.size ≤ b1 ∧ w.heap.size ≤ b2 ∧ Below w.heap.size w w' := by
 have HR7 := Aside0.mk hr7
 have HR8 := Aside0.mk hr8
 have H7 := Aside0.mk h7
 have H8 := Aside0.mk h8
 clear hr7 hr8 h7 h8
 have hmm := @run_makeMap Try.prog
 have hu35 := Try.underlying35
 have hu56 := Try.underlying56
 go_enter Try.func62, Try.ntmps62
 go_wp2_with fail
 refine (set_add _ (w.heap.size + 1) [] ?hs A7 l7 c7 ?hr ?hz ?hn).mono ?_
 case hs =>
  have h := ((SetIs.made Try.prog 9 (w.alloc (.cells #[.int .i64 a0, .int .i64 a1, .int .i64 a2, .int .i64 a3, .string a4, .string a5, .bool a6, .slice A7 l7.length c7, .slice A8 l8.length c8] 35))).below (below_alloc (Below.refl _ _) (.map #[] 0)))
  simpa using h
 case hr => exact Kd.C_below HR7.out (below_alloc (below_alloc (below_alloc (Below.refl _ _) _) _) _)
 case hz => intro s hs; have := H7.out.2 s hs; unfold maxLen; omega
 case hn => have := H7.out.1; simp; omega
 rintro e w1 ⟨rfl, hs1, hg1⟩
 rw [List.nil_append] at hs1
 have hs2 : SetIs Try.prog 9 w1 (w.heap.size + 1 + 1) (strs (wkeys (l8.take 0))) := by
  have h := (SetIs.made Try.prog 9 ((w.alloc (.cells #[.int .i64 a0, .int .i64 a1, .int .i64 a2, .int .i64 a3, .string a4, .string a5, .bool a6, .slice A7 l7.length c7, .slice A8 l8.length c8] 35)).alloc (.map #[] 0)))
  have h2 := h.kept hg1 (by simp)
  simpa [strs, wkeys] using h2
 have hb1 : Below w.heap.size w w1 := (below_alloc (below_alloc (below_alloc (Below.refl _ _) _) _) _).grown hg1 (by simp; omega) (fun j hj => by cases hj; omega)
 have hbk := blk_grown (blk_alloc (blk_alloc (blk_new w (.cells #[.int .i64 a0, .int .i64 a1, .int .i64 a2, .int .i64 a3, .string a4, .string a5, .bool a6, .slice A7 l7.length c7, .slice A8 l8.length c8] 35)) (.map #[] 0)) (.map #[] 0)) hg1 (by simp)
 have hcz : w1.cell? ⟨w.heap.size, 8, none⟩ = some (.slice A8 l8.length c8) := (blk_cell hbk 8).trans rfl
 clear hbk
 have HS1 := Aside0.mk hs1
 have HS2 := Aside0.mk hs2
 have HB1 := Aside0.mk hb1
 clear hs1 hs2 hb1 hg1
 go_wp2_with fail
 clear hcz
 go_loopw [15] (fun i wr => ∃ k : Nat, k ≤ l8.length ∧ i = .int .i64 k ∧ Aside0 (SetIs Try.prog 9 wr (w.heap.size + 1) (strs l7)) ∧ Aside0 (SetIs Try.prog 9 wr (w.heap.size + 1 + 1) (strs (wkeys (l8.take k)))) ∧ Aside0 (Below w.heap.size w wr))
  (fun i _ => l8.length - (intOf i).toNat)
 case atStart => exact ⟨0, Nat.zero_le _, rfl, HS1, HS2, HB1⟩
 case round =>
  clear HS1 HS2 HB1 hmm
  obtain ⟨k, hk, rfl, HS1, HS2, HB⟩ := hrel
  have hl8 : l8.length ≤ 1000000000 := by have := H8.out.1; simpa [wkeys] using this
  by_cases hlt : k < l8.length
  ·obtain ⟨ad, rfl, hc0, hc1, hc2⟩ := at_T56 (Kd.C_below HR8.out HB.out) (k : Int) (by omega) (by omega)
   rw [Int.toNat_natCast] at hc0 hc1 hc2
   go_wp2_with fail
   refine (set_add _ (w.heap.size + 1 + 1) (strs (wkeys (l8.take k))) ?hs _ [(rd_T56 l8 (k : Int)).f0] 1 ?hr ?hz ?hn).mono ?_
   case hs => exact HS2.out.below (below_alloc (below_alloc (Below.refl _ _) _) _)
   case hr => exact C_oneL _ _ _ (by simpa using blk_new (wr.alloc (.cells #[.string (rd_T56 l8 (k : Int)).f0, .string (rd_T56 l8 (k : Int)).f1, .bool (rd_T56 l8 (k : Int)).f2] 56)) (.cells #[.string (rd_T56 l8 (k : Int)).f0] 9))
   case hz =>
    intro s hs
    obtain rfl : s = (rd_T56 l8 (k : Int)).f0 := by simpa using hs
    have := H8.out.2 (rd_T56 l8 (k : Int)).f0 (by unfold wkeys rd_T56; simp [List.getElem?_eq_getElem hlt]; exact ⟨_, List.getElem_mem hlt, rfl⟩)
    unfold maxLen; omega
   case hn => simp [strs, wkeys]; omega
   rintro e w2 ⟨rfl, hs2, hg2⟩
   have hs1 : SetIs Try.prog 9 w2 (w.heap.size + 1) (strs l7) := (HS1.out.below (below_alloc (below_alloc (Below.refl _ _) _) _)).kept hg2 (by simp)
   have hb2 : Below w.heap.size w w2 := ((HB.out.alloc HB.out.size _).alloc (by have := HB.out.size; simp; omega) _).grown hg2 (by have := HB.out.size; simp; omega) (fun j hj => by cases hj; omega)
   rw [strs_one, ← wkeys_take l8 k hlt] at hs2
   have HS1' := Aside0.mk hs1
   have HS2' := Aside0.mk hs2
   have HB' := Aside0.mk hb2
   clear hs1 hs2 hb2 hg2 HS1 HS2 HB hc0 hc1 hc2
   go_wp2_with fail
   go_roundw
   case rel => exact ⟨k + 1, by omega, by go_num, HS1', HS2', HB'⟩
   case measure => simp [intOf]; omega
  ·obtain rfl : k = l8.length := by omega
   go_wp2
   go_ret2
   exact ⟨_, _, rfl, HS1.out, by simpa using HS2.out, by omega, by omega, by omega, HB.out⟩

/-- What has been done of a range over the set WA, whose keys so far were on none of the lists. -/
def Ranged (w wr : World) (b r : Nat) (WA : List (List UInt8)) (bad : List UInt8 → Bool) : Prop :=
 ∃ n, ∃ D : DataW Value, ∃ left cnt, wr.ranges Try.prog 9 unitElem b r n D left cnt ∧ (∀ s, Maps.has D (.string s) = WA.contains s) ∧ (∀ s, WA.contains s = true → left (.string s) = false → bad s = false) ∧ Below w.heap.size w wr

def clashB (l7 : List ByteArray) (l8 : List S56) (m7 : List ByteArray) (m8 : List S56) : Bool :=
 (strs (wkeys l8)).any (fun k => (strs m7).contains k || (strs (wkeys m8)).contains k) || (strs (wkeys m8)).any (fun k => (strs l7).contains k)

set_option maxRecDepth 100000 in
set_option maxHeartbeats 2000000 in
theorem clash_walk (w : World) (a0 a1 a2 a3 : Int) (a4 a5 : ByteArray) (a6 : Bool) (A7 : Option Addr) (c7 : Nat) (l7 : List ByteArray) (A8 : Option Addr) (c8 : Nat) (l8 : List S56)
 (b0 b1 b2 b3 : Int) (b4 b5 : ByteArray) (b6 : Bool) (B7 : Option Addr) (d7 : Nat) (m7 : List ByteArray) (B8 : Option Addr) (d8 : Nat) (m8 : List S56)
 (hr7 : Kd.C Kd.string w A7 l7.length l7) (hr8 : Kd.C k56 w A8 l8.length l8) (h7 : small l7) (h8 : small (wkeys l8))
 (ht7 : Kd.C Kd.string w B7 m7.length m7) (ht8 : Kd.C k56 w B8 m8.length m8) (g7 : small m7) (g8 : small (wkeys m8)) :
 Calls Try.prog 61 #[.agg #[.int .i64 a0, .int .i64 a1, .int .i64 a2, .int .i64 a3, .string a4, .string a5, .bool a6, .slice A7 l7.length c7, .slice A8 l8.length c8],
  .agg #[.int .i64 b0, .int .i64 b1, .int .i64 b2, .int .i64 b3, .string b4, .string b5, .bool b6, .slice B7 m7.length d7, .slice B8 m8.length d8]] w fun e w' =>
  e = .returned (.bool (clashB l7 l8 m7 m8)) ∧ Below w.heap.size w w' := by
 have HR7 := Aside0.mk hr7
 have HR8 := Aside0.mk hr8
 have H7 := Aside0.mk h7
 have H8 := Aside0.mk h8
 have HT7 := Aside0.mk ht7
 have HT8 := Aside0.mk ht8
 have G7 := Aside0.mk g7
 have G8 := Aside0.mk g8
 clear hr7 hr8 h7 h8 ht7 ht8 g7 g8
 have hu35 := Try.underlying35
 go_enter Try.func61, Try.ntmps61
 go_wp2_with fail
 have hb := Aside0.mk (below_alloc (below_alloc (Below.refl _ w) (.cells #[.int .i64 a0, .int .i64 a1, .int .i64 a2, .int .i64 a3, .string a4, .string a5, .bool a6, .slice A7 l7.length c7, .slice A8 l8.length c8] 35)) (.cells #[.int .i64 b0, .int .i64 b1, .int .i64 b2, .int .i64 b3, .string b4, .string b5, .bool b6, .slice B7 m7.length d7, .slice B8 m8.length d8] 35))
 refine (touched _ a0 a1 a2 a3 a4 a5 a6 A7 c7 l7 A8 c8 l8 (Kd.C_below HR7.out hb.out) (Kd.C_below HR8.out hb.out) H7.out H8.out).mono ?_
 rintro e w1 ⟨ra, wa, rfl, hs1, hs2, hne1, hge1, hge2, hb1⟩
 have hbk := blk_below (blk_new (w.alloc (.cells #[.int .i64 a0, .int .i64 a1, .int .i64 a2, .int .i64 a3, .string a4, .string a5, .bool a6, .slice A7 l7.length c7, .slice A8 l8.length c8] 35)) (.cells #[.int .i64 b0, .int .i64 b1, .int .i64 b2, .int .i64 b3, .string b4, .string b5, .bool b6, .slice B7 m7.length d7, .slice B8 m8.length d8] 35)) hb1
 rw [show (w.alloc (.cells #[.int .i64 a0, .int .i64 a1, .int .i64 a2, .int .i64 a3, .string a4, .string a5, .bool a6, .slice A7 l7.length c7, .slice A8 l8.length c8] 35)).heap.size = w.heap.size + 1 from by simp] at hbk
 have q0 : w1.cell? ⟨w.heap.size + 1, 0, none⟩ = some (.int .i64 b0) := (blk_cell hbk 0).trans rfl
 have q1 : w1.cell? ⟨w.heap.size + 1, 1, none⟩ = some (.int .i64 b1) := (blk_cell hbk 1).trans rfl
 have q2 : w1.cell? ⟨w.heap.size + 1, 2, none⟩ = some (.int .i64 b2) := (blk_cell hbk 2).trans rfl
 have q3 : w1.cell? ⟨w.heap.size + 1, 3, none⟩ = some (.int .i64 b3) := (blk_cell hbk 3).trans rfl
 have q4 : w1.cell? ⟨w.heap.size + 1, 4, none⟩ = some (.string b4) := (blk_cell hbk 4).trans rfl
 have q5 : w1.cell? ⟨w.heap.size + 1, 5, none⟩ = some (.string b5) := (blk_cell hbk 5).trans rfl
 have q6 : w1.cell? ⟨w.heap.size + 1, 6, none⟩ = some (.bool b6) := (blk_cell hbk 6).trans rfl
 have q7 : w1.cell? ⟨w.heap.size + 1, 7, none⟩ = some (.slice B7 m7.length d7) := (blk_cell hbk 7).trans rfl
 have q8 : w1.cell? ⟨w.heap.size + 1, 8, none⟩ = some (.slice B8 m8.length d8) := (blk_cell hbk 8).trans rfl
 have hB1 : Below w.heap.size w w1 := hb.out.trans (hb1.mono (by simp; omega))
 have HS1 := Aside0.mk hs1
 have HS2 := Aside0.mk hs2
 have HB1 := Aside0.mk hB1
 have HGE1 := Aside0.mk hge1
 have HGE2 := Aside0.mk hge2
 have HNE1 := Aside0.mk hne1
 clear hs1 hs2 hB1 hb1 hb hbk hge1 hge2 hne1
 go_wp2_with fail
 refine (touched w1 b0 b1 b2 b3 b4 b5 b6 B7 d7 m7 B8 d8 m8 (Kd.C_below HT7.out HB1.out) (Kd.C_below HT8.out HB1.out) G7.out G8.out).mono ?_
 rintro e w2 ⟨rb, wb, rfl, hs3, hs4, hne2, hge3, hge4, hb2⟩
 have hra := HS1.out.below hb2
 have hwa := HS2.out.below hb2
 have hB2 : Below w.heap.size w w2 := HB1.out.trans (hb2.mono HB1.out.size)
 have hlt1 := HS1.out.lt
 have hlt2 := HS2.out.lt
 have HRA := Aside0.mk hra
 have HWA := Aside0.mk hwa
 have HRB := Aside0.mk hs3
 have HWB := Aside0.mk hs4
 have HB2 := Aside0.mk hB2
 have HX := Aside0.mk (show wa ≠ rb ∧ wa ≠ wb ∧ wb ≠ ra ∧ ra ≠ wa ∧ rb ≠ wb from ⟨by omega, by omega, by omega, HNE1.out, hne2⟩)
 clear HS1 HS2 HB1 hb2 hra hwa hs3 hs4 hB2 hge3 hge4 hne2 hlt1 hlt2 q0 q1 q2 q3 q4 q5 q6 q7 q8 HR7 HR8 HT7 HT8 H7 H8 G7 G8 HGE1 HGE2 HNE1
 obtain ⟨n1, D1, hown1, hn1, hhas1⟩ := HWA.out
 have HO1 := Aside0.mk hown1
 have HH1 := Aside0.mk hhas1
 clear hown1 hhas1 hn1
 go_wp2_with (first
  | (at_range; refine wpList_range_own _ rfl _ 112 rfl 9 153 keyed9 Try.underlying112 _ wa n1 _ rfl HO1.out ?_; intro w3 hrg0 hg0 hs0))
 go_frame
 have HLT := Aside0.mk (show ra < w2.heap.size ∧ rb < w2.heap.size ∧ wb < w2.heap.size ∧ w.heap.size ≤ w2.heap.size from ⟨HRA.out.lt, HRB.out.lt, HWB.out.lt, HB2.out.size⟩)
 have hgb : Below w2.heap.size w2 w3 := (Below.refl _ _).grown hg0 (Nat.le_refl _) (fun j hj => by cases hj)
 have HRA := Aside0.mk (HRA.out.below hgb)
 have HRB := Aside0.mk (HRB.out.below hgb)
 have HWB := Aside0.mk (HWB.out.below hgb)
 have HB3 : Aside0 (Below w.heap.size w w3) := ⟨HB2.out.trans (hgb.mono HB2.out.size)⟩
 have HRG := Aside0.mk hrg0
 clear hrg0 hg0 hs0 hgb
 go_loopw [9] (fun _ wr => ∃ left cnt, Aside0 (wr.ranges Try.prog 9 unitElem wa w2.heap.size n1 D1 left cnt) ∧ Aside0 (∀ s, (strs (wkeys l8)).contains s = true → left (.string s) = false → ((strs m7).contains s || (strs (wkeys m8)).contains s) = false) ∧
  Aside0 (SetIs Try.prog 9 wr ra (strs l7)) ∧ Aside0 (SetIs Try.prog 9 wr rb (strs m7)) ∧ Aside0 (SetIs Try.prog 9 wr wb (strs (wkeys m8))) ∧ Aside0 (Below w.heap.size w wr))
  (fun _ wr => wr.rangeLeft wa w2.heap.size)
 case atStart => exact ⟨_, _, HRG, ⟨fun s h1 h2 => by rw [HH1.out s] at h2; rw [h1] at h2; cases h2⟩, HRA, HRB, HWB, HB3⟩
 case round =>
  clear HRG HRA HRB HWB HB3
  obtain ⟨left, cnt, HRG, HD, HRA, HRB, HWB, HB⟩ := hrel
  go_wp2_with (first
   | (at_next; refine next_set _ rfl _ rfl 9 Try.underlying9 wa w2.heap.size n1 _ _ _ rfl HRG.out ?_ ?_))
  ·intro _ hl0
   have hno : (strs (wkeys l8)).any (fun k => (strs m7).contains k || (strs (wkeys m8)).contains k) = false := by
    rw [List.any_eq_false]
    intro s hs
    simpa using HD.out s (by simpa using hs) (hl0 _)
   have HNO := Aside0.mk hno
   clear hno hl0
   obtain ⟨wo, rfl⟩ : ∃ wo : World, wo = wr := ⟨_, rfl⟩
   obtain ⟨n2, D2, hown2, hn2, hhas2⟩ := HWB.out
   have HO2 := Aside0.mk hown2
   have HH2 := Aside0.mk hhas2
   clear hown2 hhas2 hn2
   go_wp2_with (first
    | (at_range; refine wpList_range_own _ rfl _ 112 rfl 9 153 keyed9 Try.underlying112 _ wb n2 _ rfl HO2.out ?_; intro w5 hrg0 hg0 hs0))
   go_frame
   have hgb : Below wo.heap.size wo w5 := (Below.refl _ _).grown hg0 (Nat.le_refl _) (fun j hj => by cases hj)
   have HLT2 := Aside0.mk (show ra < wo.heap.size ∧ w.heap.size ≤ wo.heap.size from ⟨HRA.out.lt, HB.out.size⟩)
   have HRA5 := Aside0.mk (HRA.out.below hgb)
   have HB5 : Aside0 (Below w.heap.size w w5) := ⟨HB.out.trans (hgb.mono HB.out.size)⟩
   have HRG5 := Aside0.mk hrg0
   clear hrg0 hg0 hs0 hgb HRG HD HRA HRB HWB HB
   go_loopw [10] (fun _ wz => ∃ left cnt, Aside0 (wz.ranges Try.prog 9 unitElem wb wo.heap.size n2 D2 left cnt) ∧ Aside0 (∀ s, (strs (wkeys m8)).contains s = true → left (.string s) = false → (strs l7).contains s = false) ∧
    Aside0 (SetIs Try.prog 9 wz ra (strs l7)) ∧ Aside0 (Below w.heap.size w wz))
    (fun _ wz => wz.rangeLeft wb wo.heap.size)
   case atStart => exact ⟨_, _, HRG5, ⟨fun s h1 h2 => by rw [HH2.out s] at h2; rw [h1] at h2; cases h2⟩, HRA5, HB5⟩
   case round =>
    clear HRG5 HRA5 HB5
    obtain ⟨left, cnt, HRG, HD, HRA, HB⟩ := hrel
    go_wp2_with (first
     | (at_next; refine next_set _ rfl _ rfl 9 Try.underlying9 wb wo.heap.size n2 _ _ _ rfl HRG.out ?_ ?_))
    ·intro _ hl0
     have hno : (strs (wkeys m8)).any (fun k => (strs l7).contains k) = false := by
      rw [List.any_eq_false]
      intro s hs
      simpa using HD.out s (by simpa using hs) (hl0 _)
     have HNO2 := Aside0.mk hno
     clear hno hl0
     go_wp2
     go_ret
     exact ⟨by unfold clashB; rw [HNO.out, HNO2.out]; rfl, HB.out⟩
    ·intro x w6 cnt1 hxs hlx hhx hrg1 hlt1 hg1 hs1 hen
     have hx2 := HH2.out x.data.toList
     rw [hhx] at hx2
     have HXW := Aside0.mk hx2.symm
     have HMS := Aside0.mk (show cnt1 < wr.rangeLeft wb wo.heap.size by rw [HRG.out.left_eq]; exact hlt1)
     have HRA6 := Aside0.mk (HRA.out.kept hg1 (by have := HLT2.out.1; simp; omega))
     have HB6 : Aside0 (Below w.heap.size w w6) := ⟨HB.out.grown hg1 HB.out.size (fun j hj => by cases hj; exact HLT2.out.2)⟩
     have HRG6 := Aside0.mk hrg1
     have HXS := Aside0.mk hxs
     have HXO := Aside0.mk hs1
     clear hhx hx2 hrg1 hlt1 hg1 hs1 hxs hlx
     go_wp2_with fail
     by_cases cx : (strs l7).contains x.data.toList = true
     ·refine (set_has w6 ra _ HRA6.out x HXS.out).mono ?_
      rintro e w7 ⟨rfl, hb7⟩
      rw [cx]
      have HB7 : Aside0 (Below w.heap.size w w7) := ⟨HB6.out.trans (hb7.mono HB6.out.size)⟩
      clear hb7
      have hfin : clashB l7 l8 m7 m8 = true := by
       unfold clashB
       have : (strs (wkeys m8)).any (fun k => (strs l7).contains k) = true := List.any_eq_true.2 ⟨_, by simpa using HXW.out, cx⟩
       rw [this]; simp
      have HF := Aside0.mk hfin
      clear hfin cx hen
      go_wp2_with fail
      go_ret
      exact ⟨by rw [HF.out]; rfl, HB7.out⟩
     ·refine (set_has w6 ra _ HRA6.out x HXS.out).mono ?_
      rintro e w7 ⟨rfl, hb7⟩
      have cx2 : (strs l7).contains x.data.toList = false := by simpa using cx
      rw [cx2]
      have HRG7 := Aside0.mk (HRG6.out.kept (grownBy_of_below hb7 none) (by simp) (by simp))
      have HRA7 := Aside0.mk (HRA6.out.below hb7)
      have HB7 : Aside0 (Below w.heap.size w w7) := ⟨HB6.out.trans (hb7.mono HB6.out.size)⟩
      have HCX := Aside0.mk cx2
      clear hb7 cx cx2 hen
      go_wp2_with fail
      go_roundw
      case rel =>
       refine ⟨_, _, HRG7, ⟨fun s h1 h2 => ?_⟩, HRA7, HB7⟩
       rw [sameKey_str] at h2
       by_cases e : s = x.data.toList
       ·rw [e]; exact HCX.out
       ·exact HD.out s h1 (by simpa [e] using h2)
      case measure => rw [HRG7.out.left_eq]; exact HMS.out
  ·intro x w4 cnt1 hxs hlx hhx hrg1 hlt1 hg1 hs1 hen
   have hx2 := HH1.out x.data.toList
   rw [hhx] at hx2
   have HXW := Aside0.mk hx2.symm
   have HMS := Aside0.mk (show cnt1 < wr.rangeLeft wa w2.heap.size by rw [HRG.out.left_eq]; exact hlt1)
   have HRA4 := Aside0.mk (HRA.out.kept hg1 (by have := HLT.out; simp; omega))
   have HRB4 := Aside0.mk (HRB.out.kept hg1 (by have := HLT.out; simp; omega))
   have HWB4 := Aside0.mk (HWB.out.kept hg1 (by have := HLT.out; simp; omega))
   have HB4 : Aside0 (Below w.heap.size w w4) := ⟨HB.out.grown hg1 HB.out.size (fun j hj => by cases hj; exact HLT.out.2.2.2)⟩
   have HRG4 := Aside0.mk hrg1
   have HXS := Aside0.mk hxs
   clear hhx hx2 hrg1 hlt1 hg1 hs1 hxs hlx HRA HRB HWB HB HRG
   have hyes : ((strs m7).contains x.data.toList || (strs (wkeys m8)).contains x.data.toList) = true → clashB l7 l8 m7 m8 = true := by
    intro h
    unfold clashB
    have : (strs (wkeys l8)).any (fun k => (strs m7).contains k || (strs (wkeys m8)).contains k) = true := List.any_eq_true.2 ⟨_, by simpa using HXW.out, h⟩
    rw [this]; simp
   have HYES := Aside0.mk hyes
   clear hyes
   go_wp2_with fail
   by_cases cx : (strs m7).contains x.data.toList = true
   ·refine (set_has w4 rb _ HRB4.out x HXS.out).mono ?_
    rintro e w7 ⟨rfl, hb7⟩
    rw [cx]
    have HB7 : Aside0 (Below w.heap.size w w7) := ⟨HB4.out.trans (hb7.mono HB4.out.size)⟩
    clear hb7
    have HF := Aside0.mk (HYES.out (by rw [cx]; rfl))
    clear cx hen
    go_wp2_with fail
    go_ret
    exact ⟨by rw [HF.out]; rfl, HB7.out⟩
   ·refine (set_has w4 rb _ HRB4.out x HXS.out).mono ?_
    rintro e w7 ⟨rfl, hb7⟩
    have cx2 : (strs m7).contains x.data.toList = false := by simpa using cx
    rw [cx2]
    have HRG7 := Aside0.mk (HRG4.out.kept (grownBy_of_below hb7 none) (by simp) (by simp))
    have HRA7 := Aside0.mk (HRA4.out.below hb7)
    have HRB7 := Aside0.mk (HRB4.out.below hb7)
    have HWB7 := Aside0.mk (HWB4.out.below hb7)
    have HB7 : Aside0 (Below w.heap.size w w7) := ⟨HB4.out.trans (hb7.mono HB4.out.size)⟩
    have HCX := Aside0.mk cx2
    clear hb7 cx cx2 hen
    go_wp2_with fail
    by_cases cy : (strs (wkeys m8)).contains x.data.toList = true
    ·refine (set_has w7 wb _ HWB7.out x HXS.out).mono ?_
     rintro e w8 ⟨rfl, hb8⟩
     rw [cy]
     have HB8 : Aside0 (Below w.heap.size w w8) := ⟨HB7.out.trans (hb8.mono HB7.out.size)⟩
     clear hb8
     have HF := Aside0.mk (HYES.out (by rw [cy]; simp))
     clear cy
     go_wp2_with fail
     go_ret
     exact ⟨by rw [HF.out]; rfl, HB8.out⟩
    ·refine (set_has w7 wb _ HWB7.out x HXS.out).mono ?_
     rintro e w8 ⟨rfl, hb8⟩
     have cy2 : (strs (wkeys m8)).contains x.data.toList = false := by simpa using cy
     rw [cy2]
     have HRG8 := Aside0.mk (HRG7.out.kept (grownBy_of_below hb8 none) (by simp) (by simp))
     have HRA8 := Aside0.mk (HRA7.out.below hb8)
     have HRB8 := Aside0.mk (HRB7.out.below hb8)
     have HWB8 := Aside0.mk (HWB7.out.below hb8)
     have HB8 : Aside0 (Below w.heap.size w w8) := ⟨HB7.out.trans (hb8.mono HB7.out.size)⟩
     have HCY := Aside0.mk cy2
     clear hb8 cy cy2
     go_wp2_with fail
     go_roundw
     case rel =>
      refine ⟨_, _, HRG8, ⟨fun s h1 h2 => ?_⟩, HRA8, HRB8, HWB8, HB8⟩
      rw [sameKey_str] at h2
      by_cases e : s = x.data.toList
      ·rw [e, HCX.out, HCY.out]; rfl
      ·exact HD.out s h1 (by simpa [e] using h2)
     case measure => rw [HRG8.out.left_eq]; exact HMS.out
def smallB (l : List ByteArray) : Bool := decide (l.length ≤ 1000000000) && l.all (fun s => decide (s.size ≤ 1000000000))
theorem small_of (l : List ByteArray) (h : smallB l = true) : small l := by
 unfold smallB at h
 rw [Bool.and_eq_true, decide_eq_true_eq, List.all_eq_true] at h
 exact ⟨h.1, fun s hs => by simpa using h.2 s hs⟩
def locks_clash.f (a0_0 : Int) (a0_1 : Int) (a0_2 : Int) (a0_3 : Int) (a0_4 : ByteArray) (a0_5 : ByteArray) (a0_6 : Bool) (l0_7 : List ByteArray) (l0_8 : List (S56)) (a1_0 : Int) (a1_1 : Int) (a1_2 : Int) (a1_3 : Int) (a1_4 : ByteArray) (a1_5 : ByteArray) (a1_6 : Bool) (l1_7 : List ByteArray) (l1_8 : List (S56)) : Option (Bool) :=
 if smallB l0_7 = true ∧ smallB (wkeys l0_8) = true ∧ smallB l1_7 = true ∧ smallB (wkeys l1_8) = true then some (clashB l0_7 l0_8 l1_7 l1_8) else none
theorem locks_clash.calls (a0_0 : Int) (a0_1 : Int) (a0_2 : Int) (a0_3 : Int) (a0_4 : ByteArray) (a0_5 : ByteArray) (a0_6 : Bool) (A0_7 : Option Addr) (c0_7 : Nat) (l0_7 : List ByteArray) (A0_8 : Option Addr) (c0_8 : Nat) (l0_8 : List (S56)) (a1_0 : Int) (a1_1 : Int) (a1_2 : Int) (a1_3 : Int) (a1_4 : ByteArray) (a1_5 : ByteArray) (a1_6 : Bool) (A1_7 : Option Addr) (c1_7 : Nat) (l1_7 : List ByteArray) (A1_8 : Option Addr) (c1_8 : Nat) (l1_8 : List (S56)) (r : Bool) (w : World) (hr0_7 : Kd.C Kd.string w A0_7 l0_7.length l0_7) (hc0_7 : l0_7.length ≤ c0_7) (hr0_8 : Kd.C k56 w A0_8 l0_8.length l0_8) (hc0_8 : l0_8.length ≤ c0_8) (hr1_7 : Kd.C Kd.string w A1_7 l1_7.length l1_7) (hc1_7 : l1_7.length ≤ c1_7) (hr1_8 : Kd.C k56 w A1_8 l1_8.length l1_8) (hc1_8 : l1_8.length ≤ c1_8) (h : locks_clash.f a0_0 a0_1 a0_2 a0_3 a0_4 a0_5 a0_6 l0_7 l0_8 a1_0 a1_1 a1_2 a1_3 a1_4 a1_5 a1_6 l1_7 l1_8 = some r) :
 Calls Try.prog 61 #[.agg #[.int .i64 a0_0, .int .i64 a0_1, .int .i64 a0_2, .int .i64 a0_3, .string a0_4, .string a0_5, .bool a0_6, .slice A0_7 l0_7.length c0_7, .slice A0_8 l0_8.length c0_8], .agg #[.int .i64 a1_0, .int .i64 a1_1, .int .i64 a1_2, .int .i64 a1_3, .string a1_4, .string a1_5, .bool a1_6, .slice A1_7 l1_7.length c1_7, .slice A1_8 l1_8.length c1_8]] w fun e w' => e = .returned (.bool r) ∧ Below w.heap.size w w' := by
 unfold locks_clash.f at h
 split at h
 ·rename_i hs
  injection h with h
  subst h
  exact clash_walk w _ _ _ _ _ _ _ _ _ _ _ _ _ _ _ _ _ _ _ _ _ _ _ _ _ _ hr0_7 hr0_8 (small_of _ hs.1) (small_of _ hs.2.1) hr1_7 hr1_8 (small_of _ hs.2.2.1) (small_of _ hs.2.2.2)
 ·cases h
end Go.Proofs.Ytaldfbmjmpkmmaa.PL
