/- Shards joined: Join, walked. -/
import Derived.Test.YtegmmefijihdeaaDoorHSplit
namespace Go.Proofs.YtegmmefijihdeaaDoor.PS
open Go.RowKit Go.Proofs.YtegmmefijihdeaaDoorW.PrintWords Go.Proofs.YtegmmefijihdeaaDoorW.PrintLast Go.Proofs.YtegmmefijihdeaaDoorW.PrintMore Go.Proofs.YtegmmefijihdeaaDoor.Gf Go.Proofs.YtegmmefijihdeaaDoor.Grd Go.Proofs.YtegmmefijihdeaaDoor.Rowb
set_option linter.unusedVariables false
set_option linter.unusedSimpArgs false
theorem or_join (x y i j : Nat) (hij : i ≤ j) (hj : j ≤ 62) (hx : 2 ^ i ∣ x) (hx2 : x < 2 ^ j) (hy : y < 2 ^ i) : bits .or .i64 (x : Int) (y : Int) = ((x + y : Nat) : Int) := by
  have hw : ∀ n : Int, 0 ≤ n → n < 2 ^ j → IntKind.i64.wrap n = n := fun n h0 h1 => by
    have h2 : (2 : Int) ^ j ≤ 2 ^ 62 := by
      have := Nat.pow_le_pow_right (n := 2) (by decide) hj
      exact_mod_cast this
    rw [IntKind.wrap_i64]
    have h3 : (2 : Int) ^ 62 = 4611686018427387904 := by decide
    omega
  have h := (bits_nat .i64 j (by show j ≤ 64; omega) hw x y hx2 (Nat.lt_of_lt_of_le hy (Nat.pow_le_pow_right (by decide) hij))).2
  rw [h]
  obtain ⟨c, rfl⟩ := hx
  rw [Nat.two_pow_add_eq_or_of_lt hy c]
/-- The length ahead of plain bytes. -/
def longOf (s : List UInt8) : Nat := (s.getD 0 0).toNat * 16777216 + (s.getD 1 0).toNat * 65536 + (s.getD 2 0).toNat * 256 + (s.getD 3 0).toNat
def joinS (K : Nat) (s : List UInt8) : ByteArray × Int :=
  if s.length < 4 then (⟨#[]⟩, 41) else if longOf s ≤ 2048 ∧ sizeN K (longOf s) * K = s.length then (if (s.drop (4 + longOf s)).all (· == 0) = true then (txt ((s.drop 4).take (longOf s)), 0) else (⟨#[]⟩, 41)) else (⟨#[]⟩, 41)
def flat (l : List ByteArray) : List UInt8 := (l.map (·.data.toList)).flatten
def joinV (l : List ByteArray) : ByteArray × Int := if 1 ≤ l.length ∧ l.length ≤ 255 then (if evenB l = true then joinS l.length (flat l) else (⟨#[]⟩, 4)) else (⟨#[]⟩, 1)
theorem flat_join (l : List ByteArray) : Lib.join (l.map (·.data.toList)) (⟨#[]⟩ : ByteArray).data.toList = flat l := join_flat _
theorem cell_plain {w : World} {a : Addr} {v : Value} (h : w.cell? a = some v) : a = ⟨a.block, a.off, none⟩ := by
  obtain ⟨b, o, s⟩ := a
  cases s with
  | none => rfl
  | some x =>
    exfalso
    unfold World.cell? at h
    simp only [Option.isSome_some, if_true] at h
    split at h <;> cases h
theorem dw_nil (p : UInt8 → Bool) : ∀ l : List UInt8, l.dropWhile p = [] ↔ ∀ x, x ∈ l → p x = true
  | [] => by simp
  | a :: l => by
    by_cases h : p a = true
    · rw [List.dropWhile_cons_of_pos h, dw_nil p l]
      constructor
      · intro hl x hx
        rcases List.mem_cons.1 hx with rfl | hx
        · exact h
        · exact hl x hx
      · intro hl x hx
        exact hl x (List.mem_cons_of_mem _ hx)
    · rw [List.dropWhile_cons_of_neg h]
      constructor
      · intro hl; cases hl
      · intro hl; exact absurd (hl a List.mem_cons_self) h
theorem dw_head (p : UInt8 → Bool) : ∀ (l : List UInt8) (a : UInt8) (t : List UInt8), l.dropWhile p = a :: t → ¬ p a = true
  | [], a, t, h => by cases h
  | b :: l, a, t, h => by
    by_cases hb : p b = true
    · rw [List.dropWhile_cons_of_pos hb] at h
      exact dw_head p l a t h
    · rw [List.dropWhile_cons_of_neg hb] at h
      injection h with h1 h2
      rw [← h1]; exact hb
theorem trim_all (l : List UInt8) : (Lib.trimB l 0 = []) ↔ l.all (· == 0) = true := by
  unfold Lib.trimB Lib.trimLeftB Lib.trimRightB
  rw [dw_nil, List.all_eq_true]
  constructor
  · intro h
    have h0 : l.reverse.dropWhile (· == 0) = [] := by
      cases hd : l.reverse.dropWhile (· == 0) with
      | nil => rfl
      | cons a t => exact absurd (h a (List.mem_reverse.2 (by rw [hd]; exact List.mem_cons_self))) (dw_head (fun x => x == 0) _ _ _ hd)
    rw [dw_nil] at h0
    intro x hx
    exact h0 x (List.mem_reverse.2 hx)
  · intro h x hx
    have h0 : l.reverse.dropWhile (· == 0) = [] := (dw_nil _ _).2 (fun y hy => h y (List.mem_reverse.1 hy))
    rw [h0] at hx
    simp at hx
section
variable (A0 : Option Addr) (c0 : Nat) (l : List ByteArray) (w : World) (hr : Kd.C Kd.string w A0 l.length l) (hc : l.length ≤ c0)
include hr hc
set_option maxRecDepth 100000 in
set_option maxHeartbeats 2000000 in
theorem join_main (h1 : 1 ≤ l.length) (h2 : l.length ≤ 255) (he : evenB l = true) (hb : (flat l).length ≤ 140737488355328) :
    Calls Tryd.prog 22 #[.slice A0 l.length c0] w fun e w' => e = .returned (.tuple #[.string (joinS l.length (flat l)).1, .int .i64 (joinS l.length (flat l)).2]) ∧ Below w.heap.size w w' := by
  have HE : Aside0 (∀ W, Below w.heap.size w W → Calls Tryd.prog 50 #[.slice A0 l.length c0] W fun e w' => e = .returned (.bool true) ∧ Drawn0 W w') := ⟨fun W hb => by have := even_walk A0 c0 l W (Kd.C_below hr hb) hc; rwa [he] at this⟩
  have HJ : Aside0 (∀ W, Below w.heap.size w W → Calls Tryd.prog 51 #[.slice A0 l.length c0, .string ⟨#[]⟩] W fun e w' => e = .returned (.string (txt (flat l))) ∧ Below W.heap.size W w') := ⟨fun W hB => by
    obtain ⟨ad, hA, hx0⟩ := Kd.at_string hr 0 (by omega) (by omega)
    subst hA
    rw [show ((0 : Int)).toNat = 0 from rfl, Addr.add_zero'] at hx0
    have hp := cell_plain hx0
    obtain ⟨b, o, sp⟩ := ad
    simp only at hp
    have hsp : sp = none := by injection hp
    subst hsp
    have hlt := World.block_lt_of_cell? _ _ hx0
    have := Tryd.strings_Join b o c0 l ⟨#[]⟩ W (fun j x hj => by
      obtain ⟨hj', rfl⟩ := List.getElem?_eq_some_iff.1 hj
      obtain ⟨ad', e', hxj⟩ := Kd.at_string (Kd.C_below hr hB) (j : Int) (by omega) (by omega)
      injection e' with e'
      subst e'
      rw [rdOf_nat l j hj', Int.toNat_natCast] at hxj
      have e2 : (⟨b, o, none⟩ : Addr).add j = ⟨b, o + j, none⟩ := by unfold Addr.add; split <;> simp_all
      rw [e2] at hxj
      exact hxj) (Nat.lt_of_lt_of_le hlt hB.size) (by omega) hc (by rw [flat_join]; exact hb)
    rw [flat_join] at this
    exact this⟩
  have HS : Aside0 (∀ (W : World) (long : Int), Calls Tryd.prog 15 #[.int .i64 (l.length : Int), .int .i64 long] W fun e w' => e = .returned (.tuple #[.int .i64 (sizeV l.length long).1, .int .i64 (sizeV l.length long).2]) ∧ Drawn0 W w') := ⟨fun W long => stripe_Size.calls _ _ _ _ W (size_f _ _)⟩
  have d1 : decide ((l.length : Int) < 1) = false := by simp; omega
  have d2 : decide ((255 : Int) < (l.length : Int)) = false := by simp; omega
  have HTS := Aside0.mk (txt_size (flat l))
  have HTL := Aside0.mk (txt_list (flat l))
  generalize txt (flat l) = s at *
  have hsb : s.size ≤ 140737488355328 := by rw [HTS.out]; exact hb
  generalize flat l = fl at *
  clear hr hc hb
  by_cases h4 : s.size < 4
  · have d4 : decide ((s.size : Int) < 4) = true := by simp; omega
    go_enter Tryd.func22, Tryd.ntmps22
    go_wp2_with fail
    refine (HE.out _ (Below.refl _ _)).mono ?_
    rintro e w1 ⟨rfl, ⟨n1, rfl⟩⟩
    go_wp2_with fail
    refine (HJ.out _ (pw_below_drewN (Below.refl _ _) _)).mono ?_
    rintro e w2 ⟨rfl, hb2⟩
    go_wp2
    go_ret2
    exact ⟨by unfold joinS; rw [if_pos (by have := HTS.out; omega)]; rfl, (pw_below_drewN (Below.refl _ _) _).trans hb2⟩
  · have d4 : decide ((s.size : Int) < 4) = false := by simp; omega
    go_enter Tryd.func22, Tryd.ntmps22
    go_wp2_with fail
    refine (HE.out _ (Below.refl _ _)).mono ?_
    rintro e w1 ⟨rfl, ⟨n1, rfl⟩⟩
    go_wp2_with fail
    refine (HJ.out _ (pw_below_drewN (Below.refl _ _) _)).mono ?_
    rintro e w2 ⟨rfl, hb2⟩
    have i3 : 3 < s.size := by omega
    have i2 : 2 < s.size := by omega
    have i1 : 1 < s.size := by omega
    have i0 : 0 < s.size := by omega
    have hgd : ∀ j (hj : j < s.size), (fl.getD j 0).toNat = s[j].toNat := fun j hj => by
      have hj' : j < s.data.toList.length := by rw [Array.length_toList]; exact hj
      rw [← HTL.out, List.getD_eq_getElem?_getD, List.getElem?_eq_getElem hj']
      rfl
    obtain ⟨a0, ha0⟩ : ∃ a, s[0].toNat = a := ⟨_, rfl⟩
    obtain ⟨a1, ha1⟩ : ∃ a, s[1].toNat = a := ⟨_, rfl⟩
    obtain ⟨a2, ha2⟩ : ∃ a, s[2].toNat = a := ⟨_, rfl⟩
    obtain ⟨a3, ha3⟩ : ∃ a, s[3].toNat = a := ⟨_, rfl⟩
    have b0 : a0 < 256 := by rw [← ha0]; exact b_lt _
    have b1 : a1 < 256 := by rw [← ha1]; exact b_lt _
    have b2 : a2 < 256 := by rw [← ha2]; exact b_lt _
    have b3 : a3 < 256 := by rw [← ha3]; exact b_lt _
    have HLO : Aside0 (longOf fl = a0 * 16777216 + a1 * 65536 + a2 * 256 + a3) := ⟨by
      unfold longOf
      rw [hgd 0 i0, hgd 1 i1, hgd 2 i2, hgd 3 i3, ha0, ha1, ha2, ha3]⟩
    obtain ⟨p1, hq1⟩ : ∃ p1, p1 = a0 * 16777216 + a1 * 65536 := ⟨_, rfl⟩
    obtain ⟨p2, hq2⟩ : ∃ p2, p2 = a0 * 16777216 + a1 * 65536 + a2 * 256 := ⟨_, rfl⟩
    obtain ⟨n, hn⟩ : ∃ n, n = longOf fl := ⟨_, rfl⟩
    have hn2 : n = a0 * 16777216 + a1 * 65536 + a2 * 256 + a3 := hn.trans HLO.out
    have o1 : bits .or .i64 ((a0 : Int) * 16777216) ((a1 : Int) * 65536) = (p1 : Int) := by
      have := or_join (a0 * 16777216) (a1 * 65536) 24 40 (by omega) (by omega) ⟨a0, by omega⟩ (by omega) (by omega)
      rw [Int.natCast_mul, Int.natCast_mul] at this
      rw [hq1]; exact this
    have o2 : bits .or .i64 (p1 : Int) ((a2 : Int) * 256) = (p2 : Int) := by
      have := or_join (a0 * 16777216 + a1 * 65536) (a2 * 256) 16 40 (by omega) (by omega) ⟨a0 * 256 + a1, by omega⟩ (by omega) (by omega)
      rw [Int.natCast_mul a2] at this
      rw [hq1, hq2]; exact this
    have o3 : bits .or .i64 (p2 : Int) (a3 : Int) = (n : Int) := by
      have := or_join (a0 * 16777216 + a1 * 65536 + a2 * 256) a3 8 40 (by omega) (by omega) ⟨a0 * 65536 + a1 * 256 + a2, by omega⟩ (by omega) (by omega)
      rw [hq2, hn2]; exact this
    have hlb : n < 4294967296 := by omega
    have hp1 : p1 < 4294967296 := by omega
    have hp2 : p2 < 4294967296 := by omega
    have HLN := Aside0.mk hn
    clear hq1 hq2 hgd hn2 hn
    go_wp2_with fail
    go_quiet (fail)
    have HB3 : Aside0 (Below w.heap.size w (w2.drewN nq)) := ⟨pw_below_drewN ((pw_below_drewN (Below.refl _ _) _).trans hb2) _⟩
    generalize w2.drewN nq = w3 at *
    have hnlt : ¬ s.size < 4 := h4
    clear hb2 ha0 ha1 ha2 ha3 b0 b1 b2 b3 o1 o2 o3 hp1 hp2 HLO HE HJ
    by_cases hn : n ≤ 2048
    · have hsv : sizeV (l.length : Int) (n : Int) = ((sizeN l.length n : Int), 0) := by
        unfold sizeV
        rw [if_pos ⟨by unfold codeB; exact decide_eq_true (by omega), by omega, by omega⟩]
        rfl
      have HS2 := HS.out w3 n
      rw [hsv] at HS2
      have HS3 := Aside0.mk HS2
      have HGE := sizeN_ge l.length n h1
      have hql : sizeN l.length n ≤ 4 + n + l.length := Nat.le_trans (Nat.div_le_self _ _) (by omega)
      have HEQ : Aside0 (∀ q, q = sizeN l.length n → joinS l.length fl = if q * l.length = s.size then (if (fl.drop (4 + n)).all (· == 0) = true then (txt ((fl.drop 4).take n), 0) else (⟨#[]⟩, 41)) else (⟨#[]⟩, 41)) := ⟨fun q hq => by
        unfold joinS
        rw [if_neg (by rw [← HTS.out]; exact hnlt), ← HLN.out, ← HTS.out, hq]
        by_cases e : sizeN l.length n * l.length = s.size
        · rw [if_pos ⟨hn, e⟩, if_pos e]
        · rw [if_neg (fun h => e h.2), if_neg e]⟩
      obtain ⟨q, hq⟩ : ∃ q, q = sizeN l.length n := ⟨_, rfl⟩
      have HE2 := HEQ.out q hq
      rw [← hq] at HS3 HGE hql
      obtain ⟨y, hy⟩ : ∃ y, q * l.length = y := ⟨_, rfl⟩
      have hyi : (q : Int) * (l.length : Int) = (y : Int) := by rw [← hy]; push_cast; rfl
      have hyb : y ≤ 3000 * 255 := by rw [← hy]; exact Nat.mul_le_mul (by omega) h2
      rw [hy] at HE2 HGE
      have HE3 := Aside0.mk HE2
      clear hy HE2 HS2 hsv HS hq HEQ
      by_cases hys : y = s.size
      · have d5 : ((y : Int) != (s.size : Int)) = false := by simp [hys]
        have hsl1 : ∀ W, (Instr.slice 9 (.string s) (some (.int .i64 4)) (some (.int .i64 (4 + (n : Int)))) none).run Tryd.prog W = .ok (.string (txt ((fl.drop 4).take n))) W := fun W => by
          have := run_slice_string (P := Tryd.prog) (w := W) 9 s .i64 .i64 4 (4 + (n : Int)) Tryd.underlying9 (by omega) (by omega) (by omega)
          rw [this, show (4 + (n : Int)).toNat = 4 + n by omega, show ((4 : Int)).toNat = 4 from rfl]
          congr 2
          apply ByteArray.ext
          apply Array.ext'
          rw [ByteArray.data_extract, Array.toList_extract, HTL.out, txt_list]
          simp [List.extract_eq_take_drop]
        have hsl2 : ∀ W, (Instr.slice 9 (.string s) (some (.int .i64 (4 + (n : Int)))) none none).run Tryd.prog W = .ok (.string (txt (fl.drop (4 + n)))) W := fun W => by
          have := run_slice_string_l (P := Tryd.prog) (w := W) (t := 9) (s := s) Tryd.underlying9 .i64 (4 + (n : Int)) (by omega) (by omega)
          rw [this, show (4 + (n : Int)).toNat = 4 + n by omega]
          congr 2
          apply ByteArray.ext
          apply Array.ext'
          rw [ByteArray.data_extract, Array.toList_extract, HTL.out, txt_list]
          rw [List.extract_eq_take_drop, List.take_of_length_le (by rw [List.length_drop, HTS.out]; omega)]
        have htr := trim_all (fl.drop (4 + n))
        have HTR : Aside0 (∀ W : World, Calls Tryd.prog 52 #[.string (txt (fl.drop (4 + n))), .string ⟨#[0]⟩] W fun e w' => e = .returned (.string (txt (Lib.trimB (fl.drop (4 + n)) 0))) ∧ (w' = W ∨ w' = W.drew)) := ⟨fun W => by
          have := Tryd.strings_Trim_one (txt (fl.drop (4 + n))) 0 (by decide) W (by rw [txt_size, List.length_drop, ← HTS.out]; omega)
          rw [txt_list] at this
          exact this⟩
        have j1 : (0 : Int) ≤ 4 + (n : Int) := by omega
        have j2 : 4 + (n : Int) ≤ (s.size : Int) := by omega
        cases hz : (fl.drop (4 + n)).all (· == 0) with
        | true =>
          rw [hz] at HE3
          have ht := htr.2 hz
          rw [ht, show txt [] = ⟨#[]⟩ from rfl] at HTR
          clear htr hz ht
          generalize txt (fl.drop (4 + n)) = rs at *
          generalize ho : txt ((fl.drop 4).take n) = ob at *
          clear ho
          go_wp2_with fail
          refine HS3.out.mono ?_
          rintro e w4 ⟨rfl, ⟨n4, rfl⟩⟩
          go_wp2_with fail
          go_quiet (fail)
          go_wp2_with fail
          refine (HTR.out _).mono ?_
          rintro e w5 ⟨rfl, hw5⟩
          have hB5 : Below w.heap.size w w5 := by
            rcases hw5 with rfl | rfl
            · repeat (first | exact HB3.out | apply pw_below_drewN)
            · refine below_drew1 ?_
              repeat (first | exact HB3.out | apply pw_below_drewN)
          clear hw5
          go_wp2
          go_ret2
          exact ⟨by rw [HE3.out, if_pos hys]; rfl, hB5⟩
        | false =>
          rw [hz] at HE3
          have ht : Lib.trimB (fl.drop (4 + n)) 0 ≠ [] := fun e => by rw [htr.1 e] at hz; cases hz
          obtain ⟨tr, htr2⟩ : ∃ tr, txt (Lib.trimB (fl.drop (4 + n)) 0) = tr := ⟨_, rfl⟩
          have ht2 : tr.toList.isEmpty = false := by
            rw [← htr2, ByteArray.toList_eq, txt_list]
            cases hc : Lib.trimB (fl.drop (4 + n)) 0 with
            | nil => exact absurd hc ht
            | cons a t => rfl
          have ht3 : ¬ tr.toList = [] := fun e => by rw [e] at ht2; cases ht2
          rw [htr2] at HTR
          clear htr hz ht htr2
          generalize txt (fl.drop (4 + n)) = rs at *
          generalize ho : txt ((fl.drop 4).take n) = ob at *
          clear ho
          go_wp2_with fail
          refine HS3.out.mono ?_
          rintro e w4 ⟨rfl, ⟨n4, rfl⟩⟩
          go_wp2_with fail
          go_quiet (fail)
          go_wp2_with fail
          refine (HTR.out _).mono ?_
          rintro e w5 ⟨rfl, hw5⟩
          have hB5 : Below w.heap.size w w5 := by
            rcases hw5 with rfl | rfl
            · repeat (first | exact HB3.out | apply pw_below_drewN)
            · refine below_drew1 ?_
              repeat (first | exact HB3.out | apply pw_below_drewN)
          clear hw5
          go_wp2
          go_ret2
          exact ⟨by rw [HE3.out, if_pos hys]; rfl, hB5⟩
      · have d5 : ((y : Int) != (s.size : Int)) = true := by simp; omega
        go_wp2_with fail
        refine HS3.out.mono ?_
        rintro e w4 ⟨rfl, ⟨n4, rfl⟩⟩
        go_wp2
        go_ret2
        exact ⟨by rw [HE3.out, if_neg hys]; rfl, pw_below_drewN HB3.out _⟩
    · have hsv : sizeV (l.length : Int) (n : Int) = (0, 1) := by
        unfold sizeV
        rw [if_neg (by omega)]
      have HS2 := HS.out w3 n
      rw [hsv] at HS2
      have HS3 := Aside0.mk HS2
      clear HS2 hsv HS
      go_wp2_with fail
      refine HS3.out.mono ?_
      rintro e w4 ⟨rfl, ⟨n4, rfl⟩⟩
      go_wp2
      go_ret2
      exact ⟨by unfold joinS; rw [if_neg (by rw [← HTS.out]; exact hnlt), if_neg (fun h => hn (by rw [HLN.out]; exact h.1))]; rfl, pw_below_drewN HB3.out _⟩
end
set_option maxRecDepth 100000 in
set_option maxHeartbeats 1000000 in
theorem join_walk (A0 : Option Addr) (c0 : Nat) (l : List ByteArray) (w : World) (hr : Kd.C Kd.string w A0 l.length l) (hc : l.length ≤ c0) (hb : 1 ≤ l.length → l.length ≤ 255 → evenB l = true → (flat l).length ≤ 140737488355328) :
    Calls Tryd.prog 22 #[.slice A0 l.length c0] w fun e w' => e = .returned (.tuple #[.string (joinV l).1, .int .i64 (joinV l).2]) ∧ Below w.heap.size w w' := by
  unfold joinV
  by_cases h : 1 ≤ l.length ∧ l.length ≤ 255
  · rw [if_pos h]
    cases heb : evenB l with
    | true =>
      rw [if_pos rfl]
      exact join_main A0 c0 l w hr hc h.1 h.2 heb (hb h.1 h.2 heb)
    | false =>
      rw [if_neg (by decide)]
      have HE := Aside0.mk (even_walk A0 c0 l w hr hc)
      rw [heb] at HE
      have d1 : decide ((l.length : Int) < 1) = false := by simp; omega
      have d2 : decide ((255 : Int) < (l.length : Int)) = false := by simp; omega
      clear hr hc
      go_enter Tryd.func22, Tryd.ntmps22
      go_wp2_with fail
      refine HE.out.mono ?_
      rintro e w1 ⟨rfl, ⟨n1, rfl⟩⟩
      go_wp2
      go_ret2
      exact ⟨rfl, pw_below_drewN (Below.refl _ _) _⟩
  · rw [if_neg h]
    have hlen := Kd.C_max hr
    by_cases h1 : l.length = 0
    · have d1 : decide ((l.length : Int) < 1) = true := by simp; omega
      clear hr hc
      go_enter Tryd.func22, Tryd.ntmps22
      go_wp2
      go_ret2
      exact ⟨rfl, Below.refl _ _⟩
    · have d1 : decide ((l.length : Int) < 1) = false := by simp; omega
      have d2 : decide ((255 : Int) < (l.length : Int)) = true := by simp; omega
      clear hr hc
      go_enter Tryd.func22, Tryd.ntmps22
      go_wp2
      go_ret2
      exact ⟨rfl, Below.refl _ _⟩
/-- Are these joined within one allocation? -/
def joinFits (l : List ByteArray) : Bool := decide (1 ≤ l.length ∧ l.length ≤ 255 ∧ evenB l = true → (flat l).length ≤ 140737488355328)
def stripe_Join.f (l0 : List ByteArray) : Option (ByteArray × Int) := if joinFits l0 = true then some (joinV l0) else none
theorem stripe_Join.calls (A0 : Option Addr) (c0 : Nat) (l0 : List ByteArray) (r1 : ByteArray) (r2 : Int) (w : World) (hr0 : Kd.C Kd.string w A0 l0.length l0) (hc0 : l0.length ≤ c0) (h : stripe_Join.f l0 = some (r1, r2)) :
    Calls Tryd.prog 22 #[.slice A0 l0.length c0] w fun e w' => e = .returned (.tuple #[.string r1, .int .i64 r2]) ∧ Below w.heap.size w w' := by
  unfold stripe_Join.f at h
  split at h
  · rename_i hf
    have := join_walk A0 c0 l0 w hr0 hc0 (fun h1 h2 h3 => (of_decide_eq_true hf) ⟨h1, h2, h3⟩)
    rw [Option.some.inj h] at this
    exact this
  · cases h
end Go.Proofs.YtegmmefijihdeaaDoor.PS
