/- x -/
import Derived.Test.YtaldfbmjmpkmmaaHLgA
import Derived.Test.YtaldfbmjmpkmmaaHWorks
import Derived.Test.YtaldfbmjmpkmmaaHWN
import Derived.Test.YtaldfbmjmpkmmaaHPLb
import Derived.Deep.QuietTactic
import Derived.BigQuiet
namespace Go.Proofs.Ytaldfbmjmpkmmaa.PL.Lk
open Go Go.Proofs.Ytaldfbmjmpkmmaa.PL Go.RowKit Go.Proofs.YtaldfbmjmpkmmaaW.PrintWords Go.Proofs.YtaldfbmjmpkmmaaW.PrintLast Go.Proofs.YtaldfbmjmpkmmaaW.PrintMore Go.Maps Mk
set_option linter.unusedVariables false
set_option linter.unusedSimpArgs false
set_option linter.unusedSectionVars false
theorem heapWg : Kd.Heap k56 := Kd.heap_iso _ (Kd.heap_pair Kd.heap_string (Kd.heap_pair Kd.heap_string Kd.heap_bool))
theorem heapRg : Kd.Heap k35 := Kd.heap_iso _ (Kd.heap_pair (Kd.heap_int _) (Kd.heap_pair (Kd.heap_int _) (Kd.heap_pair (Kd.heap_int _) (Kd.heap_pair (Kd.heap_int _) (Kd.heap_pair Kd.heap_string (Kd.heap_pair Kd.heap_string (Kd.heap_pair Kd.heap_bool (Kd.heap_pair (Kd.heap_slice _ Kd.heap_string) (Kd.heap_slice _ heapWg)))))))))
theorem infoRg : (Try.prog.info? 35).map (fun i => (i.zero, i.size, i.bytes)) = some (some (.agg #[.int .i64 0, .int .i64 0, .int .i64 0, .int .i64 0, .string ⟨#[]⟩, .string ⟨#[]⟩, .bool false, .slice none 0 0, .slice none 0 0]), 9, 120) := by kernel_rfl
theorem N_own_lt {α : Type} {d : Kd α} {e base : Nat} {w : World} {ok : Nat → Prop} {v : Value} {xs : List α} (h : Kd.N d e w base ok v xs) {k : Nat} (hk : v.ownBlock = some k) : k < w.heap.size := by
  obtain ⟨_, rows, _, hR, _⟩ := h
  exact Kd.R_lt hR k hk
theorem emptyN {α : Type} (d : Kd α) (e : Nat) (w : World) (base : Nat) (hb : base ≤ w.heap.size) : Kd.N d e (w.alloc (.cells #[] e)) base (fun _ => True) (.slice (some ⟨w.heap.size, 0, none⟩) 0 0) [] :=
  Kd.R_N ⟨fun _ _ => trivial, [], by simpa using World.ownsRow_lit (base := base) (e := e) (size := d.sz) w #[] 0 hb (by decide) (by simp), by simp, fun j p hj => by simp at hj⟩
theorem emptyN' {α : Type} (d : Kd α) (e : Nat) (w : World) (base g : Nat) (hg : w.heap.size = g) (hb : base ≤ w.heap.size) : Kd.N d e (w.alloc (.cells #[] e)) base (fun _ => True) (.slice (some ⟨g, 0, none⟩) 0 0) [] := hg ▸ emptyN d e w base hb
theorem emptyNo {α : Type} (d : Kd α) (e : Nat) (w : World) (base g : Nat) (ok : Nat → Prop) (hg : w.heap.size = g) (hb : base ≤ w.heap.size) (hok : ok g) : Kd.N d e (w.alloc (.cells #[] e)) base ok (.slice (some ⟨g, 0, none⟩) 0 0) [] := by
  subst hg
  refine Kd.R_N ⟨fun k hk => ?_, [], by simpa using World.ownsRow_lit (base := base) (e := e) (size := d.sz) w #[] 0 hb (by decide) (by simp), by simp, fun j p hj => by simp at hj⟩
  have : w.heap.size = k := by simpa [Value.ownBlock] using hk
  subst this
  exact hok
theorem N_Fg {α : Type} {d : Kd α} {e base n c : Nat} {w : World} {ok : Nat → Prop} {A : Option Addr} {xs : List α} (h : Kd.N d e w base ok (.slice A n c) xs) : Kd.F d w ok A xs.length xs := fun W hW => (Kd.N_reads' (Kd.N_step h hW)).2.2
theorem strAt {w : World} {A : Option Addr} {n : Nat} {l : List ByteArray} (h : Kd.C Kd.string w A n l) (k : Nat) (hk : k < l.length) : ∃ ad, A = some ad ∧ w.cell? (ad.add k) = some (.string l[k]) := by
  have hn : l.length = n := h.1
  obtain ⟨ad, cs, rfl, hlen, hK, hc0⟩ := Kd.C_get h (⟨#[]⟩ : ByteArray) (k : Int) (by omega) (by omega)
  rw [Int.toNat_natCast] at hK hc0
  have hget : l.getD k (⟨#[]⟩ : ByteArray) = l[k] := by simp [List.getElem?_eq_getElem hk]
  rw [hget] at hK
  obtain rfl : cs = [.string l[k]] := hK
  have hc : ∀ j u, [Value.string l[k]][j]? = some u → w.cell? (ad.add (k * 1 + j)) = some u := hc0
  exact ⟨ad, rfl, by have := hc 0 _ rfl; simpa using this⟩
theorem key_small (l : List S35) (hw : wrongV l = 0) (s : ByteArray) (hs : s ∈ bytesOfL (kl l)) : s.size ≤ maxLen := by
  unfold bytesOfL at hs
  obtain ⟨x, hx, rfl⟩ := List.mem_map.1 hs
  obtain ⟨a, ha, hx⟩ := (kl_mem l x).1 hx
  obtain ⟨y, hy, rfl⟩ := List.mem_map.1 hx
  have hp := prep_small a ((wrong_zero l hw).2 a ha)
  have h1 : y.size ≤ 1000000000 := by
    rcases List.mem_append.1 hy with h | h
    · exact hp.1.2 y h
    · exact hp.2.2 y h
  have h2 : y.data.toList.toArray.size = y.size := by rw [List.size_toArray, Array.length_toList]; rfl
  show y.data.toList.toArray.size ≤ maxLen
  rw [h2]
  unfold maxLen
  omega
theorem zeroBg (w : World) : (zeroValue 4).run Try.prog w = .ok (.bool false) w := by kernel_rfl
theorem keyedG : Keyed Try.prog 9 := string_keyed Try.underlying9
theorem key_lit {s : ByteArray} (h : s.size ≤ maxLen) : keyOf Try.prog 9 (.string s) = some (litOf s.data.toList) := key_str Try.underlying9 h
theorem strs_take (l : List ByteArray) (i : Nat) (h : i < l.length) : strs (l.take (i + 1)) = strs (l.take i) ++ [l[i].data.toList] := by
  unfold strs
  rw [List.take_succ_eq_append_getElem h, List.map_append]
  rfl
/-- A guarded operation whose guard holds is run as one without. -/
theorem unguardG {P : Program} {ops : Array Oper} {Q : Exit → Act → World → Prop} {rest : List Oper} {o : Oper} {a : Act} {w : World}
    (hw : Region.wanted o (yielded ops a.tmps) = true) (h : wpList P ops Q ({ o with guard := none } :: rest) a w) : wpList P ops Q (o :: rest) a w := by
  unfold wpList at *
  rw [if_pos hw]
  rw [if_pos (by rfl)] at h
  exact h
theorem own_apart {v1 v0 : Value} {n g0 g1 : Nat} (h : v1.ownBlock = v0.ownBlock ∨ ∃ b, v1.ownBlock = some b ∧ n ≤ b) (h0 : v0.ownBlock = some g0) (hne : g1 ≠ g0) (hlt : g1 < n) : some g1 ≠ v1.ownBlock := by
  intro e
  rcases h with h | ⟨b, h, hb⟩
  · rw [h, h0] at e; injection e with e; exact hne e
  · rw [h] at e; injection e with e; omega
theorem F_one {α : Type} {d : Kd α} {W : World} {ok : Nat → Prop} {g e : Nat} {cs : Array Value} {x : α} (h : W.heap[g]? = some (.cells cs e (0, 0))) (hf : Kd.FK d W ok x cs.toList) (hg : ok g) : Kd.F d W ok (some ⟨g, 0, none⟩) 1 [x] :=
  fun W' hW => C_one1 ((hW g hg (blk_lt h)).trans h) (hf W' hW)
theorem intAt {w : World} {A : Option Addr} {n : Nat} {l : List Int} (h : Kd.C (Kd.int .i64) w A n l) (k : Nat) (hk : k < l.length) : ∃ ad, A = some ad ∧ w.cell? (ad.add k) = some (.int .i64 l[k]) := by
  have hn : l.length = n := h.1
  obtain ⟨ad, cs, rfl, hlen, hK, hc0⟩ := Kd.C_get h (0 : Int) (k : Int) (by omega) (by omega)
  rw [Int.toNat_natCast] at hK hc0
  have hget : l.getD k (0 : Int) = l[k] := by simp [List.getElem?_eq_getElem hk]
  rw [hget] at hK
  obtain rfl : cs = [.int .i64 l[k]] := hK
  have hc : ∀ j u, [Value.int .i64 l[k]][j]? = some u → w.cell? (ad.add (k * 1 + j)) = some u := hc0
  exact ⟨ad, rfl, by have := hc 0 _ rfl; simpa using this⟩
set_option maxRecDepth 100000 in
set_option maxHeartbeats 4000000 in
theorem sameInts_eq (w : World) (A B : Option Addr) (c d : Nat) (l : List Int) (ha : Kd.C (Kd.int .i64) w A l.length l) (hb : Kd.C (Kd.int .i64) w B l.length l) :
    Calls Try.prog 29 #[.slice A l.length c, .slice B l.length d] w fun e w' => e = .returned (.bool true) ∧ Below w.heap.size w w' := by
  have HA := Aside0.mk ha
  have HB := Aside0.mk hb
  have hm := Kd.C_max ha
  clear ha hb
  go_enter Try.func29, Try.ntmps29
  go_wp2_with fail
  go_loopw [5] (fun v wz => ∃ k : Nat, k ≤ l.length ∧ v = .int .i64 (k : Int) ∧ Aside0 (Below w.heap.size w wz)) (fun i _ => l.length - (intOf i).toNat)
  case atStart => exact ⟨0, Nat.zero_le _, rfl, ⟨Below.refl _ _⟩⟩
  case round =>
    obtain ⟨k, hk, rfl, HW⟩ := hrel
    by_cases hlt : k < l.length
    · obtain ⟨ad, rfl, z0⟩ := intAt (Kd.C_below HA.out HW.out) k hlt
      obtain ⟨bd, rfl, y0⟩ := intAt (Kd.C_below HB.out HW.out) k hlt
      generalize l[k] = x at z0 y0
      have d1 : (x == x) = true := by simp
      have d2 : (x != x) = false := by simp
      go_wp2_with fail
      go_quiet (fail)
      all_goals (try go_wp2_with fail)
      go_roundw
      case rel => exact ⟨k + 1, by omega, by go_num, ⟨pw_below_drewN HW.out _⟩⟩
      case measure => simp [intOf]; omega
    · obtain rfl : k = l.length := by omega
      go_wp2_with fail
      go_ret
      exact ⟨rfl, HW.out⟩
end Go.Proofs.Ytaldfbmjmpkmmaa.PL.Lk
