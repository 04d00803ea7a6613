/- Texts of this proof, one behind the other (merged by a program of this session). -/
import Derived.Test.YtaldfbmjmpkmmaaGreatHCheck
import Derived.Test.YtaldfbmjmpkmmaaGreatM85d5e2
import Derived.Lib.Strings
import Derived.StillTailTactics
import Derived.Lib.SliceRun
namespace Go.Proofs.YtaldfbmjmpkmmaaGreat.PL
open Go.RowKit
set_option linter.unusedVariables false
set_option linter.unusedSectionVars false
abbrev Ver := S43
abbrev Rec := S26
abbrev Wr := S57
abbrev Chain := List Ver
abbrev Key := List UInt8
/-! chains -/
def VerOk (v : Ver) : Prop := 1 ≤ v.f0 ∧ v.f0 ≤ 1125899906842624 ∧ v.f1.size ≤ 2052 ∧ (v.f2 = true → v.f1.toList = [])
structure ChainOk (l : Chain) : Prop where
 len : l.length ≤ 1024
 ver : ∀ v ∈ l, VerOk v
 rise : l.Pairwise (fun x y => x.f0 < y.f0)
def lastV (l : Chain) : Int := (l.getLast?.map (·.f0)).getD 0
/-- How many versions are not above a time. -/
def untilV (l : Chain) (t : Int) : Nat := (l.takeWhile (fun v => decide (v.f0 ≤ t))).length
def zVer : Ver := ⟨0, ⟨#[]⟩, false⟩
def atV (l : Chain) (t : Int) : Ver × Bool := if untilV l t = 0 then (zVer, false) else (l.getD (untilV l t - 1) zVer, true)
def sweepFrom (l : Chain) (t : Int) : Nat := if 0 < untilV l t ∧ (l.getD (untilV l t - 1) zVer).f2 = false then untilV l t - 1 else untilV l t
def sweepC (l : Chain) (t : Int) : Chain := l.drop (sweepFrom l t)
theorem ChainOk.nil : ChainOk [] := ⟨by simp, by simp, by simp⟩
theorem ChainOk.drop {l : Chain} (h : ChainOk l) (n : Nat) : ChainOk (l.drop n) :=
 ⟨by rw [List.length_drop]; have := h.len; omega, fun v hv => h.ver v (List.mem_of_mem_drop hv), h.rise.sublist (List.drop_sublist _ _)⟩
theorem last_all {l : Chain} (h : ChainOk l) : ∀ v ∈ l, v.f0 ≤ lastV l := fun v hv => by
 unfold lastV
 cases hl : l.getLast? with
 | none => rw [List.getLast?_eq_none_iff.1 hl] at hv; simp at hv
 | some u =>
  simp only [Option.map_some, Option.getD_some]
  obtain ⟨ys, e⟩ := List.getLast?_eq_some_iff.1 hl
  have hr := h.rise
  rw [e] at hv hr
  rcases List.mem_append.1 hv with hv | hv
  ·have := (List.pairwise_append.1 hr).2.2 v hv u (by simp)
   omega
  ·rw [List.mem_singleton.1 hv]
   exact Int.le_refl _
theorem ChainOk.snoc {l : Chain} (h : ChainOk l) {v : Ver} (hv : VerOk v) (hl : l.length < 1024) (ht : lastV l < v.f0) : ChainOk (l ++ [v]) :=
 ⟨by rw [List.length_append]; simp; omega, fun u hu => by
  rcases List.mem_append.1 hu with hu | hu
  ·exact h.ver u hu
  ·rw [List.mem_singleton.1 hu]; exact hv, List.pairwise_append.2 ⟨h.rise, by simp, fun a ha b hb => by
  rw [List.mem_singleton.1 hb]
  have := last_all h a ha
  omega⟩⟩
theorem last_snoc (l : Chain) (v : Ver) : lastV (l ++ [v]) = v.f0 := by unfold lastV; simp
theorem last_nil : lastV [] = 0 := rfl
/-! the shelf -/
structure Sh where
 K : List (Key × Chain)
 P : List Rec
 E : List (Int × Int)
 over : Int
def kb (s : ByteArray) : Key := s.data.toList
theorem kb_toList (s : ByteArray) : s.toList = kb s := Lib.toList_data s
def look : List (Key × Chain) → Key → Chain
 | [], _ => []
 | (k, c) :: r, q => if k = q then c else look r q
def kput : List (Key × Chain) → Key → Chain → List (Key × Chain)
 | [], q, c => [(q, c)]
 | (k, d) :: r, q, c => if k = q then (q, c) :: r else if Op.bytesLess k q = true then (k, d) :: kput r q c else (q, c) :: (k, d) :: r
def pput : List Rec → Rec → List Rec
 | [], r => [r]
 | x :: l, r => if x.f1 < r.f1 then x :: pput l r else r :: x :: l
def stateV (s : Sh) (t : Int) : Int × Int :=
 if s.P.any (fun r => decide (r.f1 = t)) = true then (1, 0)
 else match s.E.find? (fun e => decide (e.1 = t)) with
 | none => (0, 0)
 | some e => if e.2 = 0 then (3, 0) else (2, e.2)
def wrote (r : Rec) (k : Key) : Bool := r.f8.any (fun w => kb w.f0 == k)
def watches (r : Rec) (k : Key) : Bool := r.f7.any (fun q => kb q == k)
def heldR (r : Rec) (k : Key) (write : Bool) : Bool := wrote r k || (write && watches r k)
def heldV (s : Sh) (k : Key) (write : Bool) : Bool := s.P.any (fun r => heldR r k write)
def prepV (s : Sh) (r : Rec) : Int × Sh :=
 if 0 < (stateV s r.f1).1 then (6, s)
 else if (r.f7.any (fun k => heldV s (kb k) false) || r.f8.any (fun w => heldV s (kb w.f0) true)) = true then (180, s)
 else if 1024 ≤ s.P.length then (2, s)
 else (0, { s with P := pput s.P r })
def wkey (w : Wr) : Key := kb w.f0
/-- The keys counted with w's. -/
def cntK (K : List (Key × Chain)) (n : Nat) (w : Wr) : Nat := if (look K (wkey w)).isEmpty = true then n + 1 else n
/-- .. while there is room. -/
def roomN (K : List (Key × Chain)) : Nat → List Wr → Int
 | _, [] => 0
 | n, w :: l => if 1024 ≤ (look K (wkey w)).length ∨ 1024 < cntK K n w then 2 else roomN K (cntK K n w) l
def roomV (s : Sh) (l : List Wr) (ts : Int) : Int :=
 if l.any (fun w => decide (ts ≤ lastV (look s.K (wkey w)))) = true then 110 else roomN s.K s.K.length l
def put1 (ts : Int) (K : List (Key × Chain)) (w : Wr) : List (Key × Chain) := kput K (wkey w) (look K (wkey w) ++ [⟨ts, w.f1, w.f2⟩])
def putV (K : List (Key × Chain)) (l : List Wr) (ts : Int) : List (Key × Chain) := l.foldl (put1 ts) K
def endE (E : List (Int × Int)) (x : Int × Int) : List (Int × Int) := if 1024 < (E ++ [x]).length then (E ++ [x]).drop 1 else E ++ [x]
def endV (s : Sh) (t ts : Int) : Sh := { s with P := s.P.filter (fun r => !decide (r.f1 = t)), E := endE s.E (t, ts) }
def writesOf (s : Sh) (t : Int) : List Wr := ((s.P.find? (fun r => decide (r.f1 = t))).map (·.f8)).getD []
def doV (s : Sh) (t ts : Int) : Int × Sh :=
 if 1 < (stateV s t).1 ∧ (stateV s t).2 = ts then (6, s)
 else if 1 < (stateV s t).1 then (120, s)
 else if (stateV s t).1 = 1 ∧ 0 < ts then
  (if roomV s (writesOf s t) ts = 0 then (0, endV { s with K := putV s.K (writesOf s t) ts } t ts) else (roomV s (writesOf s t) ts, s))
 else (0, endV s t ts)
def sweepK (K : List (Key × Chain)) (t : Int) : List (Key × Chain) := (K.map (fun p => (p.1, sweepC p.2 t))).filter (fun p => !p.2.isEmpty)
def sweepV (s : Sh) (t : Int) : Int × Sh := if t < s.over then (110, s) else (0, { s with over := t, K := sweepK s.K t })
def okR (r : Rec) : Int := recV r.f0 r.f1 r.f2 r.f3 r.f4 r.f5 r.f6 r.f7 r.f8
def verW (r : Rec) : Wr := ⟨r.f4, r.f5, r.f6⟩
def applyV (s : Sh) (r : Rec) : Int × Sh :=
 if okR r = 0 then
  (if r.f0 = 1 then prepV s r
  else if r.f0 = 2 then doV s r.f1 r.f2
  else if r.f0 = 4 then sweepV s r.f2
  else if r.f0 = 3 then (if roomV s [verW r] r.f2 = 0 then (0, { s with K := putV s.K [verW r] r.f2 }) else (roomV s [verW r] r.f2, s))
  else (80, s))
 else (okR r, s)
def readV (s : Sh) (k : Key) (t : Int) : Int × Ver :=
 if t < s.over then (4, zVer)
 else if heldV s k false = true then (3, zVer)
 else if (atV (look s.K k) t).2 = false then (0, (atV (look s.K k) t).1)
 else if (atV (look s.K k) t).1.f2 = true then (2, (atV (look s.K k) t).1)
 else (1, (atV (look s.K k) t).1)
def sh0 : Sh := ⟨[], [], [], 0⟩
def madeV (l : List Rec) : Sh := (l.take 60).foldl (fun s r => (applyV s r).2) sh0
end Go.Proofs.YtaldfbmjmpkmmaaGreat.PL
namespace Go.Proofs.YtaldfbmjmpkmmaaGreat.PL
open Go.RowKit Go.Proofs.YtaldfbmjmpkmmaaGreatW.PrintWords Go.Proofs.YtaldfbmjmpkmmaaGreatW.PrintLast Go.Proofs.YtaldfbmjmpkmmaaGreatW.PrintMore
set_option linter.unusedVariables false
set_option linter.unusedSimpArgs false
/-- An ended transaction. -/
def kEnd : Kd (Int × Int) := Kd.pair (Kd.int .i64) (Kd.int .i64)
theorem kEnd_open {w : World} {x : Int × Int} {cs : List Value} (h : kEnd.K w x cs) : cs = [.int .i64 x.1, .int .i64 x.2] := by
 obtain ⟨_, _, rfl, rfl, rfl⟩ := h
 exact rfl
theorem kEnd_mk (w : World) (x : Int × Int) : kEnd.K w x [.int .i64 x.1, .int .i64 x.2] := ⟨[.int .i64 x.1], [.int .i64 x.2], rfl, rfl, rfl⟩
theorem kEnd_mkM (w : World) (base : Nat) (ok : Nat → Prop) (x : Int × Int) : kEnd.M w base ok x [.int .i64 x.1, .int .i64 x.2] := ⟨[.int .i64 x.1], [.int .i64 x.2], rfl, rfl, rfl⟩
theorem infoV : (Tryz.prog.info? 43).map (fun i => (i.zero, i.size, i.bytes)) = some (some (.agg #[.int .i64 0, .string ⟨#[]⟩, .bool false]), 3, 32) := by kernel_rfl
theorem infoW : (Tryz.prog.info? 57).map (fun i => (i.zero, i.size, i.bytes)) = some (some (.agg #[.string ⟨#[]⟩, .string ⟨#[]⟩, .bool false]), 3, 40) := by kernel_rfl
theorem infoE : (Tryz.prog.info? 76).map (fun i => (i.zero, i.size, i.bytes)) = some (some (.agg #[.int .i64 0, .int .i64 0]), 2, 16) := by kernel_rfl
theorem infoS : (Tryz.prog.info? 9).map (fun i => (i.zero, i.size, i.bytes)) = some (some (.string ⟨#[]⟩), 1, 16) := by kernel_rfl
theorem C_none {α : Type} {d : Kd α} {w : World} {n : Nat} {xs : List α} (h : d.C w none n xs) : xs = [] := by
 have h1 := h.1
 rcases Nat.eq_zero_or_pos n with h0 | h0
 ·exact List.eq_nil_of_length_eq_zero (by omega)
 ·obtain ⟨ad, e, _⟩ := h.2.2 h0
  cases e
set_option maxRecDepth 100000 in
set_option maxHeartbeats 1000000 in
theorem clone_ver (w : World) (A : Option Addr) (c : Nat) (xs : List Ver) (hr : Kd.C k43 w A xs.length xs) (hl : xs.length ≤ 8192) :
 Calls Tryz.prog 110 #[.slice A xs.length c] w fun e w' => ∃ v, e = .returned v ∧ Kd.R k43 43 w' w.heap.size (fun _ => True) v xs ∧ Below w.heap.size w w' := by
 cases A with
 | none =>
  obtain rfl := C_none hr
  have q : ∀ w, (binOp .eql 74 (.slice none 0 c) (.slice none 0 0)).run Tryz.prog w = .ok (.bool true) w := fun w => Lib.run_eql_slice_nil (P := Tryz.prog) w 74 _ none 0 c 0 0 Tryz.underlying74
  show Calls Tryz.prog 110 #[.slice none 0 c] w _
  clear hr hl
  go_enter Tryz.func110, Tryz.ntmps110
  go_wp2
  go_ret
  exact ⟨_, rfl, Kd.R_nil _ _ _ _ _, Below.refl _ _⟩
 | some ad =>
  have q : ∀ w, (binOp .eql 74 (.slice (some ad) xs.length c) (.slice none 0 0)).run Tryz.prog w = .ok (.bool false) w := fun w => Lib.run_eql_slice_nil (P := Tryz.prog) w 74 _ (some ad) xs.length c 0 0 Tryz.underlying74
  have HR := Aside0.mk hr
  have HL := Aside0.mk hl
  clear hr hl
  go_enter Tryz.func110, Tryz.ntmps110
  go_wp2_with (first | ((with_reducible refine gate_dst (N := 5) rfl ?_); refine Kd.R_lit k43 _ 43 ?hg (N := 5) ?hd (xs := ([] : List Ver)) (inner := []) (ok := fun _ => True) (okp := fun _ => True) ?hr ?hp (fun _ hk => hk) trivial (Below.refl _ _) (Nat.le_refl _) (by simp) ?_; (case hd => rfl); (case hg => rfl); (case hr => first | (go_simp; done) | (go_simp; rfl)); (case hp => exact (Reps.none _ _)); intro v1 w1 ho hb hg_ hnew_; have HO := Aside0.mk ho; have HB := Aside0.mk hb; clear ho hb hg_ hnew_) | ((with_reducible refine gate_builtin (b := .append) (xs := #[.tmp 5, .tmp 6]) rfl ?_); at_builtin; refine Kd.R_append_rows k43 (w0 := w) w.heap.size rfl (.tmp 5) (.tmp 6) 74 43 (.agg #[.int .i64 0, .string ⟨#[]⟩, .bool false]) 32 rfl Tryz.underlying74 infoV rfl (by decide) (by omega) v1 [] xs (some ad) xs.length c (fun _ => True) (fun _ => False) rfl rfl HO.out (Kd.C_below HR.out HB.out) (fun _ _ h => h) (fun _ h => h.elim) (fun _ _ => trivial) HB.out HB.out.size (by have := HL.out; simp only [List.length_nil]; omega) ?_; intro v2 w2 ho hb hg hat; have HO2 := Aside0.mk ho; have HB2 := Aside0.mk hb; clear ho hb hg hat))
  go_ret
  exact ⟨_, rfl, by simpa using HO2.out, HB2.out⟩
set_option maxRecDepth 100000 in
set_option maxHeartbeats 1000000 in
theorem clone_wr (w : World) (A : Option Addr) (c : Nat) (xs : List Wr) (hr : Kd.C k57 w A xs.length xs) (hl : xs.length ≤ 8192) :
 Calls Tryz.prog 69 #[.slice A xs.length c] w fun e w' => ∃ v, e = .returned v ∧ Kd.R k57 57 w' w.heap.size (fun _ => True) v xs ∧ Below w.heap.size w w' := by
 cases A with
 | none =>
  obtain rfl := C_none hr
  have q : ∀ w, (binOp .eql 24 (.slice none 0 c) (.slice none 0 0)).run Tryz.prog w = .ok (.bool true) w := fun w => Lib.run_eql_slice_nil (P := Tryz.prog) w 24 _ none 0 c 0 0 Tryz.underlying24
  show Calls Tryz.prog 69 #[.slice none 0 c] w _
  clear hr hl
  go_enter Tryz.func69, Tryz.ntmps69
  go_wp2
  go_ret
  exact ⟨_, rfl, Kd.R_nil _ _ _ _ _, Below.refl _ _⟩
 | some ad =>
  have q : ∀ w, (binOp .eql 24 (.slice (some ad) xs.length c) (.slice none 0 0)).run Tryz.prog w = .ok (.bool false) w := fun w => Lib.run_eql_slice_nil (P := Tryz.prog) w 24 _ (some ad) xs.length c 0 0 Tryz.underlying24
  have HR := Aside0.mk hr
  have HL := Aside0.mk hl
  clear hr hl
  go_enter Tryz.func69, Tryz.ntmps69
  go_wp2_with (first | ((with_reducible refine gate_dst (N := 5) rfl ?_); refine Kd.R_lit k57 _ 57 ?hg (N := 5) ?hd (xs := ([] : List Wr)) (inner := []) (ok := fun _ => True) (okp := fun _ => True) ?hr ?hp (fun _ hk => hk) trivial (Below.refl _ _) (Nat.le_refl _) (by simp) ?_; (case hd => rfl); (case hg => rfl); (case hr => first | (go_simp; done) | (go_simp; rfl)); (case hp => exact (Reps.none _ _)); intro v1 w1 ho hb hg_ hnew_; have HO := Aside0.mk ho; have HB := Aside0.mk hb; clear ho hb hg_ hnew_) | ((with_reducible refine gate_builtin (b := .append) (xs := #[.tmp 5, .tmp 6]) rfl ?_); at_builtin; refine Kd.R_append_rows k57 (w0 := w) w.heap.size rfl (.tmp 5) (.tmp 6) 24 57 (.agg #[.string ⟨#[]⟩, .string ⟨#[]⟩, .bool false]) 40 rfl Tryz.underlying24 infoW rfl (by decide) (by omega) v1 [] xs (some ad) xs.length c (fun _ => True) (fun _ => False) rfl rfl HO.out (Kd.C_below HR.out HB.out) (fun _ _ h => h) (fun _ h => h.elim) (fun _ _ => trivial) HB.out HB.out.size (by have := HL.out; simp only [List.length_nil]; omega) ?_; intro v2 w2 ho hb hg hat; have HO2 := Aside0.mk ho; have HB2 := Aside0.mk hb; clear ho hb hg hat))
  go_ret
  exact ⟨_, rfl, by simpa using HO2.out, HB2.out⟩
set_option maxRecDepth 100000 in
set_option maxHeartbeats 1000000 in
theorem clone_str (w : World) (A : Option Addr) (c : Nat) (xs : List ByteArray) (hr : Kd.C Kd.string w A xs.length xs) (hl : xs.length ≤ 8192) :
 Calls Tryz.prog 68 #[.slice A xs.length c] w fun e w' => ∃ v, e = .returned v ∧ Kd.R Kd.string 9 w' w.heap.size (fun _ => True) v xs ∧ Below w.heap.size w w' := by
 cases A with
 | none =>
  obtain rfl := C_none hr
  have q : ∀ w, (binOp .eql 23 (.slice none 0 c) (.slice none 0 0)).run Tryz.prog w = .ok (.bool true) w := fun w => Lib.run_eql_slice_nil (P := Tryz.prog) w 23 _ none 0 c 0 0 Tryz.underlying23
  show Calls Tryz.prog 68 #[.slice none 0 c] w _
  clear hr hl
  go_enter Tryz.func68, Tryz.ntmps68
  go_wp2
  go_ret
  exact ⟨_, rfl, Kd.R_nil _ _ _ _ _, Below.refl _ _⟩
 | some ad =>
  have q : ∀ w, (binOp .eql 23 (.slice (some ad) xs.length c) (.slice none 0 0)).run Tryz.prog w = .ok (.bool false) w := fun w => Lib.run_eql_slice_nil (P := Tryz.prog) w 23 _ (some ad) xs.length c 0 0 Tryz.underlying23
  have HR := Aside0.mk hr
  have HL := Aside0.mk hl
  clear hr hl
  go_enter Tryz.func68, Tryz.ntmps68
  go_wp2_with (first | ((with_reducible refine gate_dst (N := 5) rfl ?_); refine Kd.R_lit Kd.string _ 9 ?hg (N := 5) ?hd (xs := ([] : List ByteArray)) (inner := []) (ok := fun _ => True) (okp := fun _ => True) ?hr ?hp (fun _ hk => hk) trivial (Below.refl _ _) (Nat.le_refl _) (by simp) ?_; (case hd => rfl); (case hg => rfl); (case hr => first | (go_simp; done) | (go_simp; rfl)); (case hp => exact (Reps.none _ _)); intro v1 w1 ho hb hg_ hnew_; have HO := Aside0.mk ho; have HB := Aside0.mk hb; clear ho hb hg_ hnew_) | ((with_reducible refine gate_builtin (b := .append) (xs := #[.tmp 5, .tmp 6]) rfl ?_); at_builtin; refine Kd.R_append_rows Kd.string (w0 := w) w.heap.size rfl (.tmp 5) (.tmp 6) 23 9 (.string ⟨#[]⟩) 16 rfl Tryz.underlying23 infoS rfl (by decide) (by omega) v1 [] xs (some ad) xs.length c (fun _ => True) (fun _ => False) rfl rfl HO.out (Kd.C_below HR.out HB.out) (fun _ _ h => h) (fun _ h => h.elim) (fun _ _ => trivial) HB.out HB.out.size (by have := HL.out; simp only [List.length_nil]; omega) ?_; intro v2 w2 ho hb hg hat; have HO2 := Aside0.mk ho; have HB2 := Aside0.mk hb; clear ho hb hg hat))
  go_ret
  exact ⟨_, rfl, by simpa using HO2.out, HB2.out⟩
set_option maxRecDepth 100000 in
set_option maxHeartbeats 1000000 in
theorem clone_end (w : World) (A : Option Addr) (c : Nat) (xs : List (Int × Int)) (hr : Kd.C kEnd w A xs.length xs) (hl : xs.length ≤ 8192) :
 Calls Tryz.prog 44 #[.slice A xs.length c] w fun e w' => ∃ v, e = .returned v ∧ Kd.R kEnd 76 w' w.heap.size (fun _ => True) v xs ∧ Below w.heap.size w w' := by
 cases A with
 | none =>
  obtain rfl := C_none hr
  have q : ∀ w, (binOp .eql 67 (.slice none 0 c) (.slice none 0 0)).run Tryz.prog w = .ok (.bool true) w := fun w => Lib.run_eql_slice_nil (P := Tryz.prog) w 67 _ none 0 c 0 0 Tryz.underlying67
  show Calls Tryz.prog 44 #[.slice none 0 c] w _
  clear hr hl
  go_enter Tryz.func44, Tryz.ntmps44
  go_wp2
  go_ret
  exact ⟨_, rfl, Kd.R_nil _ _ _ _ _, Below.refl _ _⟩
 | some ad =>
  have q : ∀ w, (binOp .eql 67 (.slice (some ad) xs.length c) (.slice none 0 0)).run Tryz.prog w = .ok (.bool false) w := fun w => Lib.run_eql_slice_nil (P := Tryz.prog) w 67 _ (some ad) xs.length c 0 0 Tryz.underlying67
  have HR := Aside0.mk hr
  have HL := Aside0.mk hl
  clear hr hl
  go_enter Tryz.func44, Tryz.ntmps44
  go_wp2_with (first | ((with_reducible refine gate_dst (N := 5) rfl ?_); refine Kd.R_lit kEnd _ 76 ?hg (N := 5) ?hd (xs := ([] : List (Int × Int))) (inner := []) (ok := fun _ => True) (okp := fun _ => True) ?hr ?hp (fun _ hk => hk) trivial (Below.refl _ _) (Nat.le_refl _) (by simp) ?_; (case hd => rfl); (case hg => rfl); (case hr => first | (go_simp; done) | (go_simp; rfl)); (case hp => exact (Reps.none _ _)); intro v1 w1 ho hb hg_ hnew_; have HO := Aside0.mk ho; have HB := Aside0.mk hb; clear ho hb hg_ hnew_) | ((with_reducible refine gate_builtin (b := .append) (xs := #[.tmp 5, .tmp 6]) rfl ?_); at_builtin; refine Kd.R_append_rows kEnd (w0 := w) w.heap.size rfl (.tmp 5) (.tmp 6) 67 76 (.agg #[.int .i64 0, .int .i64 0]) 16 rfl Tryz.underlying67 infoE rfl (by decide) (by omega) v1 [] xs (some ad) xs.length c (fun _ => True) (fun _ => False) rfl rfl HO.out (Kd.C_below HR.out HB.out) (fun _ _ h => h) (fun _ h => h.elim) (fun _ _ => trivial) HB.out HB.out.size (by have := HL.out; simp only [List.length_nil]; omega) ?_; intro v2 w2 ho hb hg hat; have HO2 := Aside0.mk ho; have HB2 := Aside0.mk hb; clear ho hb hg hat))
  go_ret
  exact ⟨_, rfl, by simpa using HO2.out, HB2.out⟩
end Go.Proofs.YtaldfbmjmpkmmaaGreat.PL
