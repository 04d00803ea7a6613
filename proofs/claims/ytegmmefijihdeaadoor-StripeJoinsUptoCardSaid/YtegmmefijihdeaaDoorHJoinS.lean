/- What any shards are, joined, is as the document has it: the law's pure statement, and its walk. -/
import Derived.Test.YtegmmefijihdeaaDoorPSf4
import Derived.Test.YtegmmefijihdeaaDoorHParS
import Derived.Test.YtegmmefijihdeaaDoorHBackS
namespace Go.Proofs.YtegmmefijihdeaaDoor.PS
open Go.RowKit Go.Proofs.YtegmmefijihdeaaDoorW.PrintWords Go.Proofs.YtegmmefijihdeaaDoorW.PrintLast Go.Proofs.YtegmmefijihdeaaDoorW.PrintMore Go.Proofs.YtegmmefijihdeaaDoor.Gf Go.Proofs.YtegmmefijihdeaaDoor.Fld Go.Proofs.YtegmmefijihdeaaDoor.Grd Go.Proofs.YtegmmefijihdeaaDoor.Rowb
set_option linter.unusedVariables false
set_option linter.unusedSimpArgs false
theorem be4_aux (c d : UInt8) (n : Nat) (hn : n = c.toNat * 256 + d.toNat) : be4 n = [0, 0, c, d] := by
  have hc := b_lt c
  have hd := b_lt d
  have h1 : n / 256 = c.toNat := by omega
  have h2 : n % 256 = d.toNat := by omega
  unfold be4
  rw [h1, h2]
  have e1 : UInt8.ofNat c.toNat = c := b_ext (by rw [UInt8.toNat_ofNat', Nat.mod_eq_of_lt (by omega)])
  have e2 : UInt8.ofNat d.toNat = d := b_ext (by rw [UInt8.toNat_ofNat', Nat.mod_eq_of_lt (by omega)])
  rw [e1, e2]
theorem long_cons (a b c d : UInt8) (t : List UInt8) : longOf (a :: b :: c :: d :: t) = a.toNat * 16777216 + b.toNat * 65536 + c.toNat * 256 + d.toNat := by
  unfold longOf
  simp only [List.getD_cons_zero, List.getD_cons_succ]
theorem b_zero (a : UInt8) (h : a.toNat = 0) : a = 0 := b_ext (h.trans rfl)
theorem be4_of (s : List UInt8) (h4 : 4 ≤ s.length) (hn : longOf s ≤ 2048) : s.take 4 = be4 (longOf s) := by
  obtain ⟨a, s1, rfl⟩ := List.exists_cons_of_length_pos (show 0 < s.length by omega)
  rw [List.length_cons] at h4
  obtain ⟨b, s2, rfl⟩ := List.exists_cons_of_length_pos (show 0 < s1.length by omega)
  rw [List.length_cons] at h4
  obtain ⟨c, s3, rfl⟩ := List.exists_cons_of_length_pos (show 0 < s2.length by omega)
  rw [List.length_cons] at h4
  obtain ⟨d, t, rfl⟩ := List.exists_cons_of_length_pos (show 0 < s3.length by omega)
  rw [long_cons] at hn ⊢
  obtain ⟨n, hN⟩ : ∃ n, a.toNat * 16777216 + b.toNat * 65536 + c.toNat * 256 + d.toNat = n := ⟨_, rfl⟩
  rw [hN] at hn ⊢
  have a0 : a.toNat = 0 := by omega
  have b0 : b.toNat = 0 := by omega
  have hcd : n = c.toNat * 256 + d.toNat := by omega
  rw [be4_aux c d n hcd, b_zero a a0, b_zero b b0]
  simp only [List.take_succ_cons, List.take_zero]
theorem all_zeros (l : List UInt8) (h : l.all (· == 0) = true) : l = zeros l.length := by
  unfold zeros
  refine List.eq_replicate_iff.2 ⟨rfl, fun b hb => ?_⟩
  exact eq_of_beq (List.all_eq_true.1 h b hb)
theorem plain_iff (K : Nat) (s : List UInt8) (h1 : 1 ≤ K) (h4 : 4 ≤ s.length) (hn : longOf s ≤ 2048) (hle : 4 + longOf s ≤ s.length) :
    plainL K (txt ((s.drop 4).take (longOf s))) = s ↔ (sizeN K (longOf s) * K = s.length ∧ (s.drop (4 + longOf s)).all (· == 0) = true) := by
  obtain ⟨n, hN⟩ : ∃ n, longOf s = n := ⟨_, rfl⟩
  have hb := be4_of s h4 hn
  rw [hN] at hn hle hb ⊢
  have ht : ((s.drop 4).take n).length = n := by rw [List.length_take, List.length_drop]; omega
  have hsz : (txt ((s.drop 4).take n)).size = n := by rw [txt_size, ht]
  have hpl : (plainL K (txt ((s.drop 4).take n))).length = sizeN K n * K := by rw [plain_len _ _ h1, hsz]
  have h4b : (be4 n).length = 4 := rfl
  constructor
  · intro e
    have hl : sizeN K n * K = s.length := by rw [← hpl, e]
    refine ⟨hl, ?_⟩
    have e2 : s.drop (4 + n) = zeros (sizeN K n * K - (4 + n)) := by
      conv => lhs; rw [← e]
      unfold plainL
      rw [hsz, txt_list, List.drop_append_of_le_length (by rw [List.length_append, h4b, ht]; omega), List.drop_of_length_le (by rw [List.length_append, h4b, ht]; omega), List.nil_append]
    rw [e2]
    unfold zeros
    simp
  · rintro ⟨hl, hz⟩
    have e2 := all_zeros _ hz
    rw [List.length_drop] at e2
    unfold plainL
    rw [hsz, txt_list, hl, ← hb, ← e2, ← List.drop_drop, List.append_assoc, List.take_append_drop, List.take_append_drop]
theorem bytes_eq (a b : ByteArray) : ((a.toList == b.toList) = true) ↔ a.data.toList = b.data.toList := by
  rw [Lib.toList_data, Lib.toList_data]
  exact beq_iff_eq
theorem whole_f (K : Nat) (s : List UInt8) (h1 : 1 ≤ K) (h2 : K ≤ 255) (hs : s.length ≤ 9223372036854775807) (k : Nat) (hk : 2060 ≤ k) :
    ∃ o b, corncribref03_Whole.f k (K : Int) (txt s) = some (o, b) ∧ joinS K s = if b = true then (o, 0) else (⟨#[]⟩, 41) := by
  unfold corncribref03_Whole.f joinS
  rw [txt_size]
  by_cases h4 : s.length < 4
  · rw [if_pos (by omega), if_pos h4]
    exact ⟨_, _, rfl, rfl⟩
  · rw [if_neg (by omega), if_neg h4]
    have b0 : bt (txt s) 0 = ((s.getD 0 0).toNat : Int) := by have := bt_nat (txt s) 0 (by rw [txt_size]; omega); rw [txt_list] at this; exact this
    have b1 : bt (txt s) 1 = ((s.getD 1 0).toNat : Int) := by have := bt_nat (txt s) 1 (by rw [txt_size]; omega); rw [txt_list] at this; exact this
    have b2 : bt (txt s) 2 = ((s.getD 2 0).toNat : Int) := by have := bt_nat (txt s) 2 (by rw [txt_size]; omega); rw [txt_list] at this; exact this
    have b3 : bt (txt s) 3 = ((s.getD 3 0).toNat : Int) := by have := bt_nat (txt s) 3 (by rw [txt_size]; omega); rw [txt_list] at this; exact this
    have l0 := b_lt (s.getD 0 0)
    have l1 := b_lt (s.getD 1 0)
    have l2 := b_lt (s.getD 2 0)
    have l3 := b_lt (s.getD 3 0)
    have hn : (wrap64 ((wrap64 ((wrap64 ((wrap64 ((wrap64 (bt (txt s) 0)) * 16777216)) + (wrap64 ((wrap64 (bt (txt s) 1)) * 65536)))) + (wrap64 ((wrap64 (bt (txt s) 2)) * 256)))) + (wrap64 (bt (txt s) 3)))) = (longOf s : Int) := by
      rw [b0, b1, b2, b3, w64_nat _ (by omega), w64_nat _ (by omega), w64_nat _ (by omega), w64_nat _ (by omega), w64_in (((s.getD 0 0).toNat : Int) * 16777216) (by omega) (by omega), w64_in (((s.getD 1 0).toNat : Int) * 65536) (by omega) (by omega), w64_in (((s.getD 2 0).toNat : Int) * 256) (by omega) (by omega), w64_in (((s.getD 0 0).toNat : Int) * 16777216 + ((s.getD 1 0).toNat : Int) * 65536) (by omega) (by omega), w64_in (((s.getD 0 0).toNat : Int) * 16777216 + ((s.getD 1 0).toNat : Int) * 65536 + ((s.getD 2 0).toNat : Int) * 256) (by omega) (by omega), w64_in _ (by omega) (by omega)]
      unfold longOf
      omega
    rw [hn]
    clear hn b0 b1 b2 b3 l0 l1 l2 l3
    have hpi := plain_iff K s h1 (by omega)
    have hge := sizeN_ge K (longOf s) h1
    obtain ⟨n, hN⟩ : ∃ n, longOf s = n := ⟨_, rfl⟩
    rw [hN] at hpi hge ⊢
    rw [if_pos (by omega), if_pos (by omega), if_pos (by omega), if_pos (by omega)]
    by_cases c1 : n ≤ 2048
    · rw [if_neg (by omega), w64_in ((s.length : Int) - 4) (by omega) (by omega)]
      by_cases c2 : 4 + n ≤ s.length
      · have e1 : wrap64 (4 + (n : Int)) = ((4 + n : Nat) : Int) := by rw [w64_in _ (by omega) (by omega)]; push_cast; rfl
        rw [if_neg (by omega), e1, if_pos (by omega), if_pos (by omega), Int.toNat_natCast]
        have ex : (txt s).extract 4 (4 + n) = txt ((s.drop 4).take n) := by
          apply ByteArray.ext
          apply Array.ext'
          show ((txt s).extract 4 (4 + n)).data.toList = (txt ((s.drop 4).take n)).data.toList
          rw [txt_list, ByteArray.data_extract]
          show (s.toArray.extract 4 (4 + n)).toList = _
          simp [List.extract_eq_take_drop]
        have hsz : (txt ((s.drop 4).take n)).size = n := by rw [txt_size, List.length_take, List.length_drop]; omega
        rw [ex, plain_f K _ h1 h2 (by rw [hsz]; exact c1) k hk, Option.bind_some]
        refine ⟨_, _, rfl, ?_⟩
        have hp := hpi c1 c2
        by_cases c3 : plainL K (txt ((s.drop 4).take n)) = s
        · obtain ⟨p1, p2⟩ := hp.1 c3
          rw [if_pos ⟨c1, p1⟩, if_pos p2, if_pos ((bytes_eq _ _).2 (by rw [txt_list, txt_list]; exact c3))]
        · rw [if_neg (c := ((txt (plainL K (txt (List.take n (List.drop 4 s))))).toList == (txt s).toList) = true) (fun h => c3 (by have := (bytes_eq _ _).1 h; rw [txt_list, txt_list] at this; exact this))]
          by_cases p1 : sizeN K n * K = s.length
          · rw [if_pos ⟨c1, p1⟩, if_neg (fun p2 => c3 (hp.2 ⟨p1, p2⟩))]
          · rw [if_neg (fun h => p1 h.2)]
      · rw [if_pos (by omega), if_neg (fun h => by have := h.2; omega)]
        exact ⟨_, _, rfl, rfl⟩
    · rw [if_pos (by omega), if_neg (fun h => c1 h.1)]
      exact ⟨_, _, rfl, rfl⟩
theorem flat_take (l : List ByteArray) (i : Nat) (h : i < l.length) : flat (l.take (i + 1)) = flat (l.take i) ++ l[i].data.toList := by
  unfold flat
  rw [List.take_succ_eq_append_getElem h, List.map_append, List.flatten_append]
  simp
theorem flat_part (l : List ByteArray) (i : Nat) : (flat (l.take i)).length ≤ (flat l).length := by
  have : flat l = flat (l.take i) ++ flat (l.drop i) := by
    unfold flat
    rw [← List.flatten_append, ← List.map_append, List.take_append_drop]
  rw [this, List.length_append]
  omega
theorem txt_append (a : List UInt8) (b : ByteArray) : txt a ++ b = txt (a ++ b.data.toList) := by
  apply ByteArray.ext
  apply Array.ext'
  rw [ByteArray.data_append]
  show (a.toArray ++ b.data).toList = (a ++ b.data.toList).toArray.toList
  simp
theorem rjoin_from (l : List ByteArray) (h1 : 1 ≤ l.length) (h2 : l.length ≤ 255) (hs : (flat l).length ≤ 9223372036854775807) (d : Nat) : ∀ i, i + d = l.length → ∀ k, d + 2061 ≤ k →
    corncribref03_Join.l0 k l (txt (flat (l.take i))) (i : Int) = some (joinS l.length (flat l)) := by
  induction d with
  | zero =>
    intro i hi k hk
    obtain ⟨m, rfl, hm⟩ := pred_of (K := 2060) (by omega : 2060 + 1 ≤ k)
    simp only [corncribref03_Join.l0]
    rw [if_neg (by omega), List.take_of_length_le (by omega)]
    obtain ⟨o, b, e1, e2⟩ := whole_f l.length (flat l) h1 h2 hs m hm
    rw [e1, Option.bind_some, e2]
    cases b <;> rfl
  | succ d ih =>
    intro i hi k hk
    obtain ⟨m, rfl, hm⟩ := pred_of (K := d + 2061) (by omega : d + 2061 + 1 ≤ k)
    have hil : i < l.length := by omega
    have hf := flat_take l i hil
    have hp := flat_part l (i + 1)
    rw [hf, List.length_append] at hp
    have hz : l[i].data.toList.length = l[i].size := Array.length_toList
    simp only [corncribref03_Join.l0]
    rw [if_pos (by omega), if_pos (by omega), rdOf_nat l i hil, txt_size, if_pos (by omega), txt_append, ← hf, w64_in ((i : Int) + 1) (by omega) (by omega)]
    exact ih (i + 1) (by omega) m hm
theorem rjoin_f (l : List ByteArray) (hl : l.length ≤ 9223372036854775806) (hs : (flat l).length ≤ 9223372036854775807) (k : Nat) (hk : l.length + 2400 ≤ k) : corncribref03_Join.f k l = some (joinV l) := by
  obtain ⟨m, rfl, hm⟩ := pred_of (K := l.length + 2399) (by omega : l.length + 2399 + 1 ≤ k)
  unfold corncribref03_Join.f joinV
  by_cases c1 : 1 ≤ l.length
  · rw [if_neg (by omega)]
    simp only [corncribref03_Join.j0]
    by_cases c2 : l.length ≤ 255
    · rw [if_neg (by simp; omega), reven_f l (by omega) m (by omega), Option.bind_some, if_pos (show 1 ≤ l.length ∧ l.length ≤ 255 from ⟨c1, c2⟩)]
      by_cases he : evenB l = true
      · rw [if_pos he, if_pos he]
        have := rjoin_from l c1 c2 hs l.length 0 (by omega) m (by omega)
        exact this
      · rw [if_neg he, if_neg he]
    · rw [if_pos (by simp; omega), if_neg (fun h => c2 h.2)]
  · rw [if_pos (by omega), if_neg (fun h => c1 h.1)]
    simp only [corncribref03_Join.j0]
    rw [if_pos trivial]
theorem joins_pure (l : List ByteArray) (h : l.length ≤ 1048576) (hs : (flat l).length ≤ 1048576) : corncriblaw03_StripeJoins.f (l.length + 2400) l = some true := by
  have hf : joinFits l = true := by unfold joinFits; exact decide_eq_true (fun _ => by omega)
  unfold corncriblaw03_StripeJoins.f stripe_Join.f
  rw [lend_f l (by omega), Option.bind_some, if_pos hf, Option.bind_some, rjoin_f l (by omega) (by omega) _ (Nat.le_refl _), Option.bind_some, if_pos rfl, if_pos rfl, kept_f l (by omega) _ (by omega), Option.bind_some, if_pos rfl, works_k _ (by omega)]
  rfl
theorem joins_walk (W : World) {A : Option Addr} {cap : Nat} {l : List ByteArray} (hc : l.length ≤ cap) (hr : Kd.C Kd.string W A l.length l) {b : Nat} (g : (flat l).length + l.length ≤ b) (hb : b ≤ 1048576) :
    Calls Tryd.prog 4 #[.slice A l.length cap] W fun e W' => e = .returned (.bool true) ∧ Below W.heap.size W W' :=
  corncriblaw03_StripeJoins.calls (l.length + 2400) A cap l true W hr hc (joins_pure l (by omega) (by omega))
end Go.Proofs.YtegmmefijihdeaaDoor.PS
