/- Texts of this proof, one behind the other (merged by a program of this session). -/
import Derived.Test.YtaldfbmjmpkmmaaGreatM90dfe3
import Derived.Test.YtaldfbmjmpkmmaaGreatPLf118
import Derived.Test.YtaldfbmjmpkmmaaGreatPLf99
import Derived.Test.YtaldfbmjmpkmmaaGreatMdc4a29
import Derived.Test.YtaldfbmjmpkmmaaGreatM25eeeb
import Derived.Test.YtaldfbmjmpkmmaaGreatM8db0dc
namespace Go.Proofs.YtaldfbmjmpkmmaaGreat.PL
open Go.RowKit Go.Proofs.YtaldfbmjmpkmmaaGreatW.PrintWords Go.Proofs.YtaldfbmjmpkmmaaGreatW.PrintLast Go.Proofs.YtaldfbmjmpkmmaaGreatW.PrintMore
set_option linter.unusedVariables false
set_option linter.unusedSimpArgs false
theorem rchk_from (l : Chain) (h : ChainOk l) (d : Nat) : ∀ (k i : Nat), i + d = l.length → 3 * d < k → corncribref11_Check.l0 k l (i : Int) = some (0, 0) := by
 have hlen := h.len
 induction d with
 | zero =>
  intro k i hd hk
  obtain ⟨k, rfl⟩ : ∃ m, k = m + 1 := ⟨k - 1, by omega⟩
  simp only [corncribref11_Check.l0]
  rw [if_neg (by omega)]
 | succ d ih =>
  intro k i hd hk
  obtain ⟨k, rfl⟩ : ∃ m, k = m + 1 + 1 + 1 := ⟨k - 3, by omega⟩
  have hi : i < l.length := by omega
  obtain ⟨v1, v2, v3, v4⟩ := h.ver l[i] (List.getElem_mem hi)
  have e3 : wrap64 ((i : Int) + 1) = ((i + 1 : Nat) : Int) := by rw [w64 _ (by omega) (by omega)]; omega
  have ih2 := ih k (i + 1) (by omega) (by omega)
  have hj2 : corncribref11_Check.j2 (k + 1) l (i : Int) false = some (0, 0) := by
   simp only [corncribref11_Check.j2]
   rw [if_neg (by simp)]
   by_cases h0 : i = 0
   ·subst h0
    rw [if_neg (by simp), e3]
    exact ih2
   ·have e4 : wrap64 ((i : Int) - 1) = ((i - 1 : Nat) : Int) := by rw [w64 _ (by omega) (by omega)]; omega
    have hr := List.pairwise_iff_getElem.1 h.rise (i - 1) i (by omega) hi (by omega)
    rw [if_pos (by omega), if_pos (by omega), if_pos (by omega), e4, if_pos (by omega), if_pos (by omega), rdV_nat l i hi, rdV_nat l (i - 1) (by omega), if_neg (by omega), e3]
    exact ih2
  have hj1 : corncribref11_Check.j1 (k + 1 + 1) l (i : Int) false = some (0, 0) := by
   simp only [corncribref11_Check.j1]
   rw [if_neg (by simp), if_pos (by omega), if_pos (by omega), rdV_nat l i hi, if_neg (by omega)]
   cases hdd : l[i].f2 with
   | true =>
    have hs : (l[i].f1.toList != ([] : List UInt8)) = false := by rw [v4 hdd]; rfl
    rw [if_pos rfl, hs]
    exact hj2
   | false =>
    rw [if_neg (by simp)]
    exact hj2
  simp only [corncribref11_Check.l0]
  rw [if_pos (by omega), if_pos (by omega), rdV_nat l i hi, if_neg (by omega)]
  have hs : decide (l[i].f0 > 1125899906842624) = false := decide_eq_false (by omega)
  rw [hs]
  exact hj1
theorem rchk_f {l : Chain} (h : ChainOk l) : corncribref11_Check.f 4000 l = some (0, 0) := by
 have hl := h.len
 unfold corncribref11_Check.f
 rw [if_neg (by omega)]
 exact rchk_from l h l.length 4000 0 (by omega) (by omega)
theorem rplace_from (l : Chain) (t : Int) (hl : l.length ≤ 1024) (d : Nat) : ∀ (k i : Nat), i + d = l.length → d < k → corncribref11_place.l0 k l t (i : Int) = some ((i + untilV (l.drop i) t : Nat) : Int) := by
 induction d with
 | zero =>
  intro k i hd hk
  obtain ⟨k, rfl⟩ : ∃ m, k = m + 1 := ⟨k - 1, by omega⟩
  simp only [corncribref11_place.l0]
  rw [if_neg (by omega), List.drop_of_length_le (by omega)]
  rfl
 | succ d ih =>
  intro k i hd hk
  obtain ⟨k, rfl⟩ : ∃ m, k = m + 1 := ⟨k - 1, by omega⟩
  have hi : i < l.length := by omega
  have e3 : wrap64 ((i : Int) + 1) = ((i + 1 : Nat) : Int) := by rw [w64 _ (by omega) (by omega)]; omega
  have ih2 := ih k (i + 1) (by omega) (by omega)
  simp only [corncribref11_place.l0]
  rw [if_pos (by omega), if_pos (by omega), rdV_nat l i hi, List.drop_eq_getElem_cons hi, until_cons]
  by_cases hv : l[i].f0 ≤ t
  ·rw [if_pos hv, if_pos hv, e3, ih2]
   congr 2
   omega
  ·rw [if_neg hv, if_neg hv]
   rfl
theorem rplace_f {l : Chain} (h : ChainOk l) (t : Int) : corncribref11_place.f 4000 l t = some ((untilV l t : Nat) : Int) := by
 have hl := h.len
 have := rplace_from l t h.len l.length 4000 0 (by omega) (by omega)
 unfold corncribref11_place.f
 simpa using this
theorem rlast_f {l : Chain} (h : ChainOk l) : corncribref11_Last.f 4000 l = some (lastV l, 0) := by
 have hl := h.len
 unfold corncribref11_Last.f
 rw [rchk_f h, Option.bind_some]
 simp only
 rw [if_pos trivial]
 by_cases h0 : l.length = 0
 ·obtain rfl := List.eq_nil_of_length_eq_zero h0
  rw [if_pos (by simp)]
  rfl
 ·have e : wrap64 ((l.length : Int) - 1) = ((l.length - 1 : Nat) : Int) := by rw [w64 _ (by omega) (by omega)]; omega
  rw [if_neg (by omega), e, if_pos (by omega), if_pos (by omega), rdV_nat l _ (by omega)]
  unfold lastV
  rw [List.getLast?_eq_getElem?, List.getElem?_eq_getElem (by omega)]
  rfl

theorem rsweep_f {l : Chain} (h : ChainOk l) (t : Int) : corncribref11_Sweep.f 4000 l t = some (sweepC l t, 0) := by
 have hl := h.len
 have hu := until_le l t
 unfold corncribref11_Sweep.f
 rw [rchk_f h, Option.bind_some]
 simp only
 rw [if_pos trivial, rplace_f h, Option.bind_some]
 unfold sweepC sweepFrom
 by_cases h0 : untilV l t = 0
 ·rw [if_neg (by omega), Option.bind_some, if_pos (by omega), if_pos (by omega), Option.bind_some, if_pos (by simp; omega), if_neg (by omega)]
  simp [h0]
 ·have e : wrap64 (((untilV l t : Nat) : Int) - 1) = ((untilV l t - 1 : Nat) : Int) := by rw [w64 _ (by omega) (by omega)]; omega
  rw [if_pos (by omega), e, if_pos (by omega), if_pos (by omega), rdV_getD l _ (by omega)]
  cases hd : (l.getD (untilV l t - 1) zVer).f2 with
  | true =>
   rw [if_pos rfl, Option.bind_some, if_pos (by omega), if_pos (by omega), Option.bind_some, if_pos (by simp; omega), if_neg (by simp)]
   simp
  | false =>
   rw [if_neg (by simp), Option.bind_some, if_pos (by omega), Option.bind_some, if_pos (by simp; omega), if_pos ⟨by omega, rfl⟩]
   simp
/-- What Add tells. -/
def addE (l : Chain) (v : Ver) : Int := if v.f0 ≤ lastV l then 110 else if 1024 ≤ l.length then 2 else 0
def addL (l : Chain) (v : Ver) : Chain := if addE l v = 0 then l ++ [v] else []
theorem radd_j {l : Chain} (h : ChainOk l) (v : Ver) (k : Nat) : corncribref11_Add.j0 (k + 1) l (decide (v.f0 ≤ lastV l)) v.f0 v.f1 v.f2 = some (addL l v, addE l v) := by
 have hl := h.len
 simp only [corncribref11_Add.j0]
 unfold addL addE
 by_cases h1 : v.f0 ≤ lastV l
 ·rw [if_pos (by simpa using h1), if_pos h1, if_neg (by decide)]
 ·rw [if_neg (by simpa using h1), if_neg h1]
  by_cases h2 : 1024 ≤ l.length
  ·rw [if_pos (by omega), if_pos h2, if_neg (by decide)]
  ·rw [if_neg (by omega), if_neg h2, if_pos rfl]
   simp only [Option.bind_some, List.length_nil, List.nil_append, List.length_append, List.length_singleton]
   rw [if_pos (by omega), if_pos (by omega)]
theorem radd_f {l : Chain} (h : ChainOk l) {v : Ver} (hv : VerOk v) : corncribref11_Add.f 4000 l v.f0 v.f1 v.f2 = some (addL l v, addE l v) := by
 have hl := h.len
 have h1 : ChainOk [v] := ⟨by simp, fun u hu => by rw [List.mem_singleton.1 hu]; exact hv, by simp⟩
 unfold corncribref11_Add.f
 rw [rchk_f h, Option.bind_some]
 simp only
 rw [if_pos trivial, rchk_f h1, Option.bind_some]
 simp only
 rw [if_pos trivial]
 have hj := radd_j h v 3999
 by_cases h0 : l.length = 0
 ·obtain rfl := List.eq_nil_of_length_eq_zero h0
  have e : decide (v.f0 ≤ lastV ([] : Chain)) = false := decide_eq_false (by have := hv.1; rw [last_nil]; omega)
  rw [e] at hj
  rw [if_neg (by simp)]
  exact hj
 ·have e : wrap64 ((l.length : Int) - 1) = ((l.length - 1 : Nat) : Int) := by rw [w64 _ (by omega) (by omega)]; omega
  have e2 : (rd_T43 l ((l.length - 1 : Nat) : Int)).f0 = lastV l := by
   rw [rdV_nat l _ (by omega)]
   unfold lastV
   rw [List.getLast?_eq_getElem?, List.getElem?_eq_getElem (by omega)]
   rfl
  rw [if_pos (by omega), e, if_pos (by omega), if_pos (by omega), e2]
  exact hj
end Go.Proofs.YtaldfbmjmpkmmaaGreat.PL
namespace Go.Proofs.YtaldfbmjmpkmmaaGreat.PL
open Go.RowKit Go.Proofs.YtaldfbmjmpkmmaaGreatW.PrintWords Go.Proofs.YtaldfbmjmpkmmaaGreatW.PrintLast Go.Proofs.YtaldfbmjmpkmmaaGreatW.PrintMore
set_option linter.unusedVariables false
set_option linter.unusedSimpArgs false
set_option linter.unusedSectionVars false
def bs (k : Key) : ByteArray := ⟨k.toArray⟩
theorem kb_bs (k : Key) : kb (bs k) = k := by simp [kb, bs]
theorem bs_kb (s : ByteArray) : bs (kb s) = s := by cases s; simp [kb, bs]
theorem bs_list (k : Key) : (bs k).toList = k := by rw [kb_toList, kb_bs]
abbrev KC := Key × Chain
/-- A key and its chain. -/
def kKC : Kd KC := Kd.iso (Kd.pair Kd.string (Kd.slice 43 k43)) (fun x => (bs x.1, x.2))
theorem kKC_open {w : World} {x : KC} {cs : List Value} (h : kKC.K w x cs) : ∃ A c, cs = [.string (bs x.1), .slice A x.2.length c] ∧ x.2.length ≤ c ∧ Kd.C k43 w A x.2.length x.2 := by
 obtain ⟨_, _, rfl, rfl, ⟨A, c, rfl, l, g⟩⟩ := h
 exact ⟨A, c, rfl, l, g⟩
theorem kKC_mk (w : World) (x : KC) {A : Option Addr} {c : Nat} (l : x.2.length ≤ c) (g : Kd.C k43 w A x.2.length x.2) : kKC.K w x [.string (bs x.1), .slice A x.2.length c] :=
 ⟨[.string (bs x.1)], [.slice A x.2.length c], rfl, rfl, ⟨A, c, rfl, l, g⟩⟩

theorem heapW : Kd.Heap k57 := Kd.heap_iso _ (Kd.heap_pair Kd.heap_string (Kd.heap_pair Kd.heap_string Kd.heap_bool))

theorem heapR : Kd.Heap k26 := Kd.heap_iso _ (Kd.heap_pair (Kd.heap_int _) (Kd.heap_pair (Kd.heap_int _) (Kd.heap_pair (Kd.heap_int _) (Kd.heap_pair (Kd.heap_int _) (Kd.heap_pair Kd.heap_string (Kd.heap_pair Kd.heap_string (Kd.heap_pair Kd.heap_bool (Kd.heap_pair (Kd.heap_slice _ Kd.heap_string) (Kd.heap_slice _ heapW)))))))))
/-- The document's shelf: its box and its rows; what the rows lead to is ok, and not the box. -/
structure RfP (w : World) (ok : Nat → Prop) (b : Nat) (s : Sh) (AK AP AE : Option Addr) (cK cP cE : Nat) : Prop where
 box : w.heap[b]? = some (.cells #[.slice AK s.K.length cK, .slice AP s.P.length cP, .slice AE s.E.length cE, .int .i64 s.over] 51 (0, 0))
 lK : s.K.length ≤ cK
 lP : s.P.length ≤ cP
 lE : s.E.length ≤ cE
 fK : Kd.F kKC w (fun g => ok g ∧ g ≠ b) AK s.K.length s.K
 fP : Kd.F k26 w (fun g => ok g ∧ g ≠ b) AP s.P.length s.P
 fE : Kd.F kEnd w (fun g => ok g ∧ g ≠ b) AE s.E.length s.E
 okb : ok b
 pos : ∀ e ∈ s.E, 0 ≤ e.2
 few : s.E.length ≤ 1024
 good : ShOk s
def RfAt (w : World) (ok : Nat → Prop) (b : Nat) (s : Sh) : Prop := ∃ AK AP AE cK cP cE, RfP w ok b s AK AP AE cK cP cE
section
variable {w w' : World} {ok ok' : Nat → Prop} {b : Nat} {s : Sh} {AK AP AE : Option Addr} {cK cP cE : Nat}
theorem RfP.step (h : RfP w ok b s AK AP AE cK cP cE) (hm : ∀ g, ok g → g < w.heap.size → w'.heap[g]? = w.heap[g]?) : RfP w' ok b s AK AP AE cK cP cE :=
 ⟨(hm b h.okb (blk_lt h.box)).trans h.box, h.lK, h.lP, h.lE, Kd.F_step h.fK (fun g hg hl => hm g hg.1 hl), Kd.F_step h.fP (fun g hg hl => hm g hg.1 hl), Kd.F_step h.fE (fun g hg hl => hm g hg.1 hl), h.okb, h.pos, h.few, h.good⟩
theorem RfAt.step (h : RfAt w ok b s) (hm : ∀ g, ok g → g < w.heap.size → w'.heap[g]? = w.heap[g]?) : RfAt w' ok b s := by
 obtain ⟨AK, AP, AE, cK, cP, cE, hp⟩ := h
 exact ⟨AK, AP, AE, cK, cP, cE, hp.step hm⟩
theorem RfP.below (h : RfP w ok b s AK AP AE cK cP cE) (hb : Below w.heap.size w w') : RfP w' ok b s AK AP AE cK cP cE := h.step (fun g _ hl => hb.block g hl)
theorem RfAt.below (h : RfAt w ok b s) (hb : Below w.heap.size w w') : RfAt w' ok b s := h.step (fun g _ hl => hb.block g hl)
theorem RfAt.apart (h : RfAt w ok b s) (hc : Chg0 ok' w w') (hd : ∀ g, ok g → g < w.heap.size → ¬ ok' g) : RfAt w' ok b s := h.step (fun g hg hl => hc.block g hl (hd g hg hl))
theorem RfAt.mono (h : RfAt w ok b s) (hok : ∀ g, ok g → g < w.heap.size → ok' g) : RfAt w ok' b s := by
 obtain ⟨AK, AP, AE, cK, cP, cE, hp⟩ := h
 exact ⟨AK, AP, AE, cK, cP, cE, hp.box, hp.lK, hp.lP, hp.lE, Kd.F_mono (Kd.F_bound hp.fK) (fun g hg => ⟨hok g hg.1.1 hg.2, hg.1.2⟩), Kd.F_mono (Kd.F_bound hp.fP) (fun g hg => ⟨hok g hg.1.1 hg.2, hg.1.2⟩), Kd.F_mono (Kd.F_bound hp.fE) (fun g hg => ⟨hok g hg.1.1 hg.2, hg.1.2⟩), hok b hp.okb (blk_lt hp.box), hp.pos, hp.few, hp.good⟩
theorem RfP.cells (h : RfP w ok b s AK AP AE cK cP cE) : w.cell? ⟨b, 0, none⟩ = some (.slice AK s.K.length cK) ∧ w.cell? ⟨b, 1, none⟩ = some (.slice AP s.P.length cP) ∧ w.cell? ⟨b, 2, none⟩ = some (.slice AE s.E.length cE) ∧ w.cell? ⟨b, 3, none⟩ = some (.int .i64 s.over) :=
 ⟨(blk_cell h.box 0).trans rfl, (blk_cell h.box 1).trans rfl, (blk_cell h.box 2).trans rfl, (blk_cell h.box 3).trans rfl⟩
end
end Go.Proofs.YtaldfbmjmpkmmaaGreat.PL
namespace Go.Proofs.YtaldfbmjmpkmmaaGreat.PL
set_option linter.unusedVariables false
/-- The place of a key among keys. -/
def atN : List (Key × Chain) → Key → Nat
 | [], _ => 0
 | p :: r, q => if Op.bytesLess p.1 q = true then atN r q + 1 else 0
def atB (K : List (Key × Chain)) (q : Key) : Bool := (K[atN K q]?.map (·.1)) == some q
theorem atN_le : ∀ (K : List (Key × Chain)) (q : Key), atN K q ≤ K.length
 | [], _ => Nat.le_refl _
 | p :: r, q => by
  unfold atN
  split
  ·have := atN_le r q
   simp
   omega
  ·simp
theorem atN_step : ∀ (K : List (Key × Chain)) (q : Key) (k : Nat) (h : k < K.length), k ≤ atN K q → (k + 1 ≤ atN K q ↔ Op.bytesLess K[k].1 q = true)
 | [], _, k, h, _ => by simp at h
 | p :: r, q, 0, h, _ => by
  unfold atN
  simp only [List.getElem_cons_zero]
  split
  ·rename_i hp
   exact ⟨fun _ => hp, fun _ => by omega⟩
  ·rename_i hp
   exact ⟨fun hx => by omega, fun hx => absurd hx hp⟩
 | p :: r, q, k + 1, h, hk => by
  have h2 : k < r.length := by simpa using h
  unfold atN at hk ⊢
  split at hk
  ·rename_i hp
   rw [if_pos hp]
   have := atN_step r q k h2 (by omega)
   simp only [List.getElem_cons_succ]
   rw [← this]
   omega
  ·omega
theorem atB_some {K : List (Key × Chain)} {q : Key} (h : atB K q = true) : ∃ p, K[atN K q]? = some p ∧ p.1 = q := by
 unfold atB at h
 cases hk : K[atN K q]? with
 | none => rw [hk] at h; simp at h
 | some p => rw [hk] at h; exact ⟨p, rfl, by simpa using h⟩
theorem at_look {K : List (Key × Chain)} (hs : Rising (keysK K)) {q : Key} {p : Key × Chain} (hp : K[atN K q]? = some p) (hq : p.1 = q) : look K q = p.2 := by
 subst hq
 exact look_of_mem hs (List.mem_of_getElem? hp)
theorem atB_cons_lt {p : Key × Chain} {r : List (Key × Chain)} {q : Key} (h : Op.bytesLess p.1 q = true) : atB (p :: r) q = atB r q := by
 unfold atB
 conv => lhs; unfold atN
 rw [if_pos h]
 simp
theorem at_none : ∀ {K : List (Key × Chain)} {q : Key}, Rising (keysK K) → atB K q = false → q ∉ keysK K
 | [], _, _, _ => by simp [keysK]
 | p :: r, q, hs, h => by
  have hs2 : Rising (keysK r) ∧ ∀ k ∈ keysK r, Op.bytesLess p.1 k = true := by
   unfold Rising keysK at hs ⊢
   rw [List.map_cons, List.pairwise_cons] at hs
   exact ⟨hs.2, hs.1⟩
  by_cases hl : Op.bytesLess p.1 q = true
  ·rw [atB_cons_lt hl] at h
   have := at_none hs2.1 h
   intro hq
   unfold keysK at hq
   rw [List.map_cons, List.mem_cons] at hq
   rcases hq with rfl | hq
   ·rw [kl_irrefl] at hl; cases hl
   ·exact this hq
  ·have he : atN (p :: r) q = 0 := by unfold atN; rw [if_neg hl]
   unfold atB at h
   rw [he] at h
   have hne : p.1 ≠ q := by simpa using h
   intro hq
   unfold keysK at hq
   rw [List.map_cons, List.mem_cons] at hq
   rcases hq with e | hq
   ·exact hne e.symm
   ·exact hl (hs2.2 q hq)
/-- A chain put in its place. -/
theorem kput_at : ∀ (K : List (Key × Chain)) (q : Key) (c : Chain), kput K q c = K.take (atN K q) ++ (q, c) :: K.drop (atN K q + if atB K q = true then 1 else 0)
 | [], q, c => by simp [kput, atN, atB]
 | p :: r, q, c => by
  by_cases hl : Op.bytesLess p.1 q = true
  ·have hne : p.1 ≠ q := kl_ne hl
   have he : atN (p :: r) q = atN r q + 1 := by conv => lhs; unfold atN
                                                rw [if_pos hl]
   rw [atB_cons_lt hl, he]
   show (if p.1 = q then (q, c) :: r else if Op.bytesLess p.1 q = true then (p.1, p.2) :: kput r q c else (q, c) :: (p.1, p.2) :: r) = _
   rw [if_neg hne, if_pos hl, kput_at r q c, List.take_succ_cons, List.cons_append]
   congr 2
   rw [show atN r q + 1 + (if atB r q = true then 1 else 0) = (atN r q + if atB r q = true then 1 else 0) + 1 by omega, List.drop_succ_cons]
  ·have he : atN (p :: r) q = 0 := by unfold atN; rw [if_neg hl]
   show (if p.1 = q then (q, c) :: r else if Op.bytesLess p.1 q = true then (p.1, p.2) :: kput r q c else (q, c) :: (p.1, p.2) :: r) = _
   rw [he]
   by_cases hq : p.1 = q
   ·have hb : atB (p :: r) q = true := by unfold atB; rw [he]; simp [hq]
    rw [if_pos hq, hb, if_pos rfl]
    simp
   ·have hb : atB (p :: r) q = false := by unfold atB; rw [he]; simpa using hq
    rw [if_neg hq, if_neg hl, hb, if_neg (by decide)]
    simp
end Go.Proofs.YtaldfbmjmpkmmaaGreat.PL
namespace Go.Proofs.YtaldfbmjmpkmmaaGreat.PL
open Go.RowKit Go.Proofs.YtaldfbmjmpkmmaaGreatW.PrintWords Go.Proofs.YtaldfbmjmpkmmaaGreatW.PrintLast Go.Proofs.YtaldfbmjmpkmmaaGreatW.PrintMore
set_option linter.unusedVariables false
set_option linter.unusedSimpArgs false
set_option linter.unusedSectionVars false
/-- An element of a row of keys and chains, cell by cell. -/
theorem kc_at {w : World} {A : Option Addr} {n : Nat} {K : List KC} (h : Kd.C kKC w A n K) (k : Nat) (hk : k < K.length) : ∃ ad A2 c2, A = some ad ∧ w.cell? (ad.add (k * 2)) = some (.string (bs K[k].1)) ∧ w.cell? ⟨(ad.add (k * 2)).block, (ad.add (k * 2)).off + 1, none⟩ = some (.slice A2 K[k].2.length c2) ∧ K[k].2.length ≤ c2 ∧ Kd.C k43 w A2 K[k].2.length K[k].2 := by
 have hn : K.length = n := h.1
 obtain ⟨ad, cs, rfl, hlen, hK, hc0⟩ := Kd.C_get h (([], []) : KC) (k : Int) (by omega) (by omega)
 rw [Int.toNat_natCast] at hK hc0
 have hget : K.getD k (([], []) : KC) = K[k] := by simp [List.getElem?_eq_getElem hk]
 rw [hget] at hK
 obtain ⟨A2, c2, rfl, l, g⟩ := kKC_open hK
 have hc : ∀ j u, [Value.string (bs K[k].1), .slice A2 K[k].2.length c2][j]? = some u → w.cell? (ad.add (k * 2 + j)) = some u := hc0
 exact ⟨ad, A2, c2, rfl, hc 0 _ rfl, by rw [← add_field _ _ 1 (by omega)]; exact hc 1 _ rfl, l, g⟩
/-- An element of a row of records: its number. -/
theorem rec_at {w : World} {A : Option Addr} {n : Nat} {P : List Rec} (h : Kd.C k26 w A n P) (k : Nat) (hk : k < P.length) : ∃ ad A7 c7 A8 c8, A = some ad ∧ w.cell? ⟨(ad.add (k * 9)).block, (ad.add (k * 9)).off + 1, none⟩ = some (.int .i64 P[k].f1) ∧ w.cell? ⟨(ad.add (k * 9)).block, (ad.add (k * 9)).off + 7, none⟩ = some (.slice A7 P[k].f7.length c7) ∧ w.cell? ⟨(ad.add (k * 9)).block, (ad.add (k * 9)).off + 8, none⟩ = some (.slice A8 P[k].f8.length c8) ∧
 P[k].f7.length ≤ c7 ∧ Kd.C Kd.string w A7 P[k].f7.length P[k].f7 ∧ P[k].f8.length ≤ c8 ∧ Kd.C k57 w A8 P[k].f8.length P[k].f8 := by
 have hn : P.length = n := h.1
 obtain ⟨ad, cs, rfl, hlen, hK, hc0⟩ := Kd.C_get h (⟨0, 0, 0, 0, ⟨#[]⟩, ⟨#[]⟩, false, [], []⟩ : Rec) (k : Int) (by omega) (by omega)
 rw [Int.toNat_natCast] at hK hc0
 have hget : P.getD k (⟨0, 0, 0, 0, ⟨#[]⟩, ⟨#[]⟩, false, [], []⟩ : Rec) = P[k] := by simp [List.getElem?_eq_getElem hk]
 rw [hget] at hK
 generalize P[k] = r at *
 obtain ⟨A7, c7, A8, c8, rfl, l7, g7, l8, g8⟩ := k26_open hK
 have hc : ∀ j u, [Value.int .i64 r.f0, .int .i64 r.f1, .int .i64 r.f2, .int .i64 r.f3, .string r.f4, .string r.f5, .bool r.f6, .slice A7 r.f7.length c7, .slice A8 r.f8.length c8][j]? = some u → w.cell? (ad.add (k * 9 + j)) = some u := hc0
 exact ⟨ad, A7, c7, A8, c8, rfl, by rw [← add_field _ _ 1 (by omega)]; exact hc 1 _ rfl, by rw [← add_field _ _ 7 (by omega)]; exact hc 7 _ rfl, by rw [← add_field _ _ 8 (by omega)]; exact hc 8 _ rfl, l7, g7, l8, g8⟩
set_option maxRecDepth 100000 in
set_option maxHeartbeats 4000000 in
theorem rat_walk {w : World} {ok : Nat → Prop} {b : Nat} {s : Sh} (h : RfAt w ok b s) (key : ByteArray) :
 Calls Tryz.prog 96 #[.pointer (some ⟨b, 0, none⟩), .string key] w fun e w' => e = .returned (.tuple #[.int .i64 (atN s.K (kb key) : Nat), .bool (atB s.K (kb key))]) ∧ Below w.heap.size w w' := by
 obtain ⟨AK, AP, AE, cK, cP, cE, hp⟩ := h
 obtain ⟨c0, -, -, -⟩ := hp.cells
 have HC := Aside0.mk (Kd.F_now hp.fK)
 have hlen := hp.good.keys.few
 have hle := atN_le s.K (kb key)
 have hkl : key.toList = kb key := kb_toList key
 have HST := Aside0.mk (atN_step s.K (kb key))
 have HAB : Aside0 (atB s.K (kb key) = ((s.K[atN s.K (kb key)]?.map (·.1)) == some (kb key))) := ⟨rfl⟩
 clear hp
 generalize atB s.K (kb key) = tb at *
 generalize atN s.K (kb key) = n at *
 go_enter Tryz.func96, Tryz.ntmps96
 go_wp2
 go_loopw [6] (fun v wr => ∃ k : Nat, k ≤ n ∧ v = .int .i64 (k : Int) ∧ wr = w) (fun i _ => s.K.length - (intOf i).toNat)
 case atStart => exact ⟨0, Nat.zero_le _, rfl, by first | rfl | trivial⟩
 case round =>
  obtain ⟨k, hk, rfl, rfl⟩ := hrel
  by_cases hlt : k < s.K.length
  ·obtain ⟨ad, A2, c2, rfl, x0, -, -, -⟩ := kc_at HC.out k hlt
   have hst := HST.out k hlt hk
   have hbl : (bs s.K[k].1).toList = s.K[k].1 := bs_list _
   cases hb : Op.bytesLess s.K[k].1 (kb key) with
   | true =>
    have hk1 : k + 1 ≤ n := hst.2 hb
    have hv : Op.bytesLess (bs s.K[k].1).toList key.toList = true := by rw [hbl, hkl]; exact hb
    clear hst hbl hkl hb
    generalize bs s.K[k].1 = nm at *
    go_wp2_with fail
    go_roundw
    case rel => exact ⟨k + 1, by omega, by go_num, by first | rfl | trivial⟩
    case measure => simp [intOf]; omega
   | false =>
    have hkn : k = n := by
     rcases Nat.lt_or_ge k n with h1 | h1
     ·have := hst.1 (by omega)
      rw [hb] at this
      cases this
     ·omega
    subst hkn
    have hv : Op.bytesLess (bs s.K[k].1).toList key.toList = false := by rw [hbl, hkl]; exact hb
    have ht : ((bs s.K[k].1).toList == key.toList) = tb := by
     rw [HAB.out, List.getElem?_eq_getElem hlt, hbl, hkl]
     rfl
    have HT := Aside0.mk ht
    clear hst hbl hkl hb ht
    generalize bs s.K[k].1 = nm at *
    go_wp2_with fail
    go_quiet (fail)
    all_goals (try go_wp2)
    rw [HT.out]
    go_ret2
    exact ⟨rfl, by repeat (first | exact Below.refl _ _ | apply below_drew1 | apply pw_below_drewN)⟩
  ·obtain rfl : k = s.K.length := by omega
   obtain rfl : n = s.K.length := by omega
   have ht : tb = false := by
    rw [HAB.out, List.getElem?_eq_none (Nat.le_refl _)]
    rfl
   subst ht
   go_wp2_with fail
   go_quiet (fail)
   all_goals (try go_wp2)
   go_ret2
   exact ⟨rfl, by repeat (first | exact Below.refl _ _ | apply below_drew1 | apply pw_below_drewN)⟩
set_option maxRecDepth 100000 in
set_option maxHeartbeats 4000000 in
theorem rchain_walk {w : World} {ok : Nat → Prop} {b : Nat} {s : Sh} (h : RfAt w ok b s) (key : ByteArray) :
 Calls Tryz.prog 97 #[.pointer (some ⟨b, 0, none⟩), .string key] w fun e w' => ∃ A c, e = .returned (.slice A (look s.K (kb key)).length c) ∧ (look s.K (kb key)).length ≤ c ∧ Kd.C k43 w' A (look s.K (kb key)).length (look s.K (kb key)) ∧ Below w.heap.size w w' := by
 have HAT := Aside0.mk (rat_walk h key)
 have HS := Aside0.mk h
 generalize hch : look s.K (kb key) = ch
 have HQ := Aside0.mk hch
 clear hch
 go_enter Tryz.func97, Tryz.ntmps97
 go_wp2_with fail
 refine HAT.out.mono ?_
 rintro e w1 ⟨rfl, hb1⟩
 obtain ⟨AK, AP, AE, cK, cP, cE, hp⟩ := HS.out.below hb1
 obtain ⟨c0, -, -, -⟩ := hp.cells
 have HC := Aside0.mk (Kd.F_now hp.fK)
 have HB1 := Aside0.mk hb1
 have hlen := hp.good.keys.few
 have hrise := hp.good.keys.rise
 clear hp hb1 HAT HS h
 cases hb : atB s.K (kb key) with
 | true =>
  obtain ⟨p, hpe, hpq⟩ := atB_some hb
  have hn := (List.getElem?_eq_some_iff.1 hpe).1
  have hlk : ch = p.2 := HQ.out.symm.trans (at_look hrise hpe hpq)
  have hpe2 : s.K[atN s.K (kb key)] = p := (List.getElem?_eq_some_iff.1 hpe).2
  obtain ⟨ad, A2, c2, rfl, -, x1, hl2, hC2⟩ := kc_at HC.out (atN s.K (kb key)) hn
  rw [hpe2, ← hlk] at x1 hl2 hC2
  have HC2 := Aside0.mk hC2
  have HL2 := Aside0.mk hl2
  clear hpe hpq hlk hpe2 hC2 hl2 hb hrise
  generalize atN s.K (kb key) = n at *
  go_wp2_with fail
  go_ret
  exact ⟨_, _, rfl, HL2.out, HC2.out, HB1.out⟩
 | false =>
  have hlk : ch = [] := HQ.out.symm.trans (look_none (at_none hrise hb))
  subst hlk
  clear hb hrise HQ
  generalize atN s.K (kb key) = n at *
  go_wp2_with fail
  go_ret
  exact ⟨none, 0, rfl, Nat.le_refl _, Kd.C_nil _ _, HB1.out⟩
set_option maxRecDepth 100000 in
theorem rflast_walk {w : World} {ok : Nat → Prop} {b : Nat} {s : Sh} (h : RfAt w ok b s) (key : ByteArray) :
 Calls Tryz.prog 59 #[.pointer (some ⟨b, 0, none⟩), .string key] w fun e w' => e = .returned (.int .i64 (lastV (look s.K (kb key)))) ∧ Below w.heap.size w w' := by
 have HCH := Aside0.mk (rchain_walk h key)
 have HCO : Aside0 (ChainOk (look s.K (kb key))) := ⟨by obtain ⟨AK, AP, AE, cK, cP, cE, hp⟩ := h; exact hp.good.keys.look _⟩
 clear h
 generalize look s.K (kb key) = ch at *
 go_enter Tryz.func59, Tryz.ntmps59
 go_wp2_with fail
 refine HCH.out.mono ?_
 rintro e w1 ⟨A, c, rfl, hl, hC, hb1⟩
 have HL := Aside0.mk (corncribref11_Last.calls 4000 A c ch _ _ w1 hC hl (rlast_f HCO.out))
 have HB1 := Aside0.mk hb1
 clear hl hC hb1 HCH
 go_wp2_with fail
 refine HL.out.mono ?_
 rintro e w2 ⟨rfl, hd⟩
 have HB2 : Aside0 (Below w.heap.size w w2) := ⟨HB1.out.trans (hd.below.mono HB1.out.size)⟩
 clear hd
 go_wp2_with fail
 go_ret
 exact ⟨rfl, HB2.out⟩
set_option maxRecDepth 100000 in
set_option maxHeartbeats 4000000 in
theorem rprep_walk {w : World} {ok : Nat → Prop} {b : Nat} {s : Sh} (h : RfAt w ok b s) (t : Int) :
 Calls Tryz.prog 95 #[.pointer (some ⟨b, 0, none⟩), .int .i64 t] w fun e w' => ∃ i : Int, e = .returned (.int .i64 i) ∧ ((i = -1 ∧ ∀ r ∈ s.P, r.f1 ≠ t) ∨ ∃ (k : Nat) (hk : k < s.P.length), i = (k : Int) ∧ s.P[k].f1 = t) ∧ Below w.heap.size w w' := by
 obtain ⟨AK, AP, AE, cK, cP, cE, hp⟩ := h
 obtain ⟨-, c1, -, -⟩ := hp.cells
 have HC := Aside0.mk (Kd.F_now hp.fP)
 have hlen := hp.good.few
 clear hp
 go_enter Tryz.func95, Tryz.ntmps95
 go_wp2
 go_loopw [5] (fun v wr => ∃ k : Nat, k ≤ s.P.length ∧ v = .int .i64 (k : Int) ∧ Aside0 (∀ (j : Nat) (hj : j < s.P.length), j < k → s.P[j].f1 ≠ t) ∧ wr = w) (fun i _ => s.P.length - (intOf i).toNat)
 case atStart => exact ⟨0, Nat.zero_le _, rfl, ⟨fun j hj hk => absurd hk (by omega)⟩, by first | rfl | trivial⟩
 case round =>
  obtain ⟨k, hk, rfl, HN, rfl⟩ := hrel
  by_cases hlt : k < s.P.length
  ·obtain ⟨ad, A7, c7, A8, c8, rfl, x1, -, -, -, -, -, -⟩ := rec_at HC.out k hlt
   by_cases he : s.P[k].f1 = t
   ·have HE : Aside0 (∃ (q : Nat) (hq : q < s.P.length), (k : Int) = (q : Int) ∧ s.P[q].f1 = t) := ⟨k, hlt, rfl, he⟩
    have d1 : (s.P[k].f1 == t) = true := by simpa using he
    clear he
    generalize s.P[k].f1 = u at x1 d1
    go_wp2_with fail
    go_ret
    exact ⟨(k : Int), rfl, .inr HE.out, Below.refl _ _⟩
   ·have HNN : Aside0 (∀ (j : Nat) (hj : j < s.P.length), j < k + 1 → s.P[j].f1 ≠ t) := ⟨fun j hj hk2 => by
     by_cases hjk : j = k
     ·subst hjk; exact he
     ·exact HN.out j hj (by omega)⟩
    have d1 : (s.P[k].f1 == t) = false := by simpa using he
    clear he
    generalize s.P[k].f1 = u at x1 d1
    go_wp2_with fail
    go_roundw
    case rel => exact ⟨k + 1, by omega, by go_num, HNN, by first | rfl | trivial⟩
    case measure => simp [intOf]; omega
  ·obtain rfl : k = s.P.length := by omega
   go_wp2_with fail
   go_ret
   exact ⟨-1, rfl, .inl ⟨rfl, fun r hr => by
    obtain ⟨j, hj, rfl⟩ := List.getElem_of_mem hr
    exact HN.out j hj hj⟩, Below.refl _ _⟩
end Go.Proofs.YtaldfbmjmpkmmaaGreat.PL
