/- The answers to letters, told of any letter by one form, and at no shelf. -/
import Derived.Test.YtaldfbmjmpkmmaaHLuE
namespace Go.Proofs.Ytaldfbmjmpkmmaa.PL
open Go.RowKit Go.Proofs.YtaldfbmjmpkmmaaW.PrintWords Go.Proofs.YtaldfbmjmpkmmaaW.PrintLast Go.Proofs.YtaldfbmjmpkmmaaW.PrintMore
set_option linter.unusedVariables false
set_option linter.unusedSimpArgs false
set_option linter.unusedSectionVars false
structure Ans where
 f0 : Int
 f1 : Int
 f2 : Int
 f3 : Int
 f4 : Int
 f5 : Int
 f6 : ByteArray
 ls : List ByteArray
 code : Int
def zAns : Ans := ⟨0, 0, 0, 0, 0, 0, ⟨#[]⟩, [], 70⟩
def keyOf (l : List ByteArray) : ByteArray := match l with
 | [] => ⟨#[]⟩
 | x :: _ => x
def ansV (s : Sh) (k fr tw tx ts cd : Int) (text : ByteArray) (l7 : List ByteArray) (l8 : List S56) (me : Int) : Ans :=
 if mineV k fr tw tx ts cd text l7 l8 1 me = 0 then ⟨2, tw, fr, tx, (readV s (kb (keyOf l7)) ts).2.f0, (readV s (kb (keyOf l7)) ts).1, (readV s (kb (keyOf l7)) ts).2.f1, [keyOf l7], 0⟩ else zAns
def telV (s : Sh) (k fr tw tx ts cd : Int) (text : ByteArray) (l7 : List ByteArray) (l8 : List S56) (me : Int) : Ans :=
 if mineV k fr tw tx ts cd text l7 l8 7 me = 0 then ⟨8, tw, fr, tx, (tellV s tx).2, (tellV s tx).1, ⟨#[]⟩, [], 0⟩ else zAns
theorem shard_all {w : World} {ok : Nat → Prop} {b N : Nat} {s : Sh} (h : ShAt w ok b N s) (me : Int) (k fr tw tx ts cd : Int) (text : ByteArray) (A7 : Option Addr) (c7 : Nat) (l7 : List ByteArray) (A8 : Option Addr) (c8 : Nat) (l8 : List S56) (hr7 : Kd.C Kd.string w A7 l7.length l7) (hc7 : l7.length ≤ c7) (hr8 : Kd.C k56 w A8 l8.length l8) (hc8 : l8.length ≤ c8) (h8 : l8.length < 8796093022208) :
 Calls Try.prog 19 #[.pointer (some ⟨b, 0, none⟩), .int .i64 me, .agg #[.int .i64 k, .int .i64 fr, .int .i64 tw, .int .i64 tx, .int .i64 ts, .int .i64 cd, .string text, .slice A7 l7.length c7, .slice A8 l8.length c8]] w fun e w' => ∃ A c, e = .returned (.tuple #[.agg #[.int .i64 (ansV s k fr tw tx ts cd text l7 l8 me).f0, .int .i64 (ansV s k fr tw tx ts cd text l7 l8 me).f1, .int .i64 (ansV s k fr tw tx ts cd text l7 l8 me).f2, .int .i64 (ansV s k fr tw tx ts cd text l7 l8 me).f3, .int .i64 (ansV s k fr tw tx ts cd text l7 l8 me).f4, .int .i64 (ansV s k fr tw tx ts cd text l7 l8 me).f5, .string (ansV s k fr tw tx ts cd text l7 l8 me).f6, .slice A (ansV s k fr tw tx ts cd text l7 l8 me).ls.length c, .slice none 0 0], .int .i64 (ansV s k fr tw tx ts cd text l7 l8 me).code]) ∧ (ansV s k fr tw tx ts cd text l7 l8 me).ls.length ≤ c ∧ Kd.C Kd.string w' A (ansV s k fr tw tx ts cd text l7 l8 me).ls.length (ansV s k fr tw tx ts cd text l7 l8 me).ls ∧ Below w.heap.size w w' := by
 by_cases hm : mineV k fr tw tx ts cd text l7 l8 1 me = 0
 ·obtain ⟨h1, rfl, h3⟩ := mine_zero hm
  obtain ⟨x, rfl, hk⟩ := let_key1 h1
  obtain ⟨ad, rfl, -⟩ := strK_at0 hr7
  have ha : ansV s 1 fr tw tx ts cd text [x] l8 me = ⟨2, tw, fr, tx, (readV s (kb x) ts).2.f0, (readV s (kb x) ts).1, (readV s (kb x) ts).2.f1, [x], 0⟩ := by unfold ansV; rw [if_pos hm]; rfl
  rw [ha]
  refine (shard_yes h me fr tw tx ts cd text ad c7 x A8 c8 l8 hr7 hc7 hr8 hc8 h8 (Nat.le_trans (key_size hk) (by decide)) hm).mono ?_
  rintro e w' ⟨g, rfl, hg, hb⟩
  exact ⟨_, 1, rfl, Nat.le_refl _, C_one (cs := [.string x]) hg rfl, hb⟩
 ·have ha : ansV s k fr tw tx ts cd text l7 l8 me = zAns := by unfold ansV; rw [if_neg hm]
  rw [ha]
  refine (shard_no h me k fr tw tx ts cd text A7 c7 l7 A8 c8 l8 hr7 hc7 hr8 hc8 h8 hm).mono ?_
  rintro e w' ⟨rfl, hb⟩
  exact ⟨none, 0, rfl, Nat.le_refl _, Kd.C_nil _ _, hb⟩
theorem rshard_all {w : World} {ok : Nat → Prop} {b : Nat} {s : Sh} (h : RfAt w ok b s) (me : Int) (k fr tw tx ts cd : Int) (text : ByteArray) (A7 : Option Addr) (c7 : Nat) (l7 : List ByteArray) (A8 : Option Addr) (c8 : Nat) (l8 : List S56) (hr7 : Kd.C Kd.string w A7 l7.length l7) (hc7 : l7.length ≤ c7) (hr8 : Kd.C k56 w A8 l8.length l8) (hc8 : l8.length ≤ c8) (h8 : l8.length < 8796093022208) :
 Calls Try.prog 20 #[.pointer (some ⟨b, 0, none⟩), .int .i64 me, .agg #[.int .i64 k, .int .i64 fr, .int .i64 tw, .int .i64 tx, .int .i64 ts, .int .i64 cd, .string text, .slice A7 l7.length c7, .slice A8 l8.length c8]] w fun e w' => ∃ A c, e = .returned (.tuple #[.agg #[.int .i64 (ansV s k fr tw tx ts cd text l7 l8 me).f0, .int .i64 (ansV s k fr tw tx ts cd text l7 l8 me).f1, .int .i64 (ansV s k fr tw tx ts cd text l7 l8 me).f2, .int .i64 (ansV s k fr tw tx ts cd text l7 l8 me).f3, .int .i64 (ansV s k fr tw tx ts cd text l7 l8 me).f4, .int .i64 (ansV s k fr tw tx ts cd text l7 l8 me).f5, .string (ansV s k fr tw tx ts cd text l7 l8 me).f6, .slice A (ansV s k fr tw tx ts cd text l7 l8 me).ls.length c, .slice none 0 0], .int .i64 (ansV s k fr tw tx ts cd text l7 l8 me).code]) ∧ (ansV s k fr tw tx ts cd text l7 l8 me).ls.length ≤ c ∧ Kd.C Kd.string w' A (ansV s k fr tw tx ts cd text l7 l8 me).ls.length (ansV s k fr tw tx ts cd text l7 l8 me).ls ∧ Below w.heap.size w w' := by
 by_cases hm : mineV k fr tw tx ts cd text l7 l8 1 me = 0
 ·obtain ⟨h1, rfl, h3⟩ := mine_zero hm
  obtain ⟨x, rfl, hk⟩ := let_key1 h1
  obtain ⟨ad, rfl, -⟩ := strK_at0 hr7
  have ha : ansV s 1 fr tw tx ts cd text [x] l8 me = ⟨2, tw, fr, tx, (readV s (kb x) ts).2.f0, (readV s (kb x) ts).1, (readV s (kb x) ts).2.f1, [x], 0⟩ := by unfold ansV; rw [if_pos hm]; rfl
  rw [ha]
  refine (rshard_yes h me fr tw tx ts cd text ad c7 x A8 c8 l8 hr7 hc7 hr8 hc8 h8 hm).mono ?_
  rintro e w' ⟨g, rfl, hg, hb⟩
  exact ⟨_, 1, rfl, Nat.le_refl _, C_one (cs := [.string x]) hg rfl, hb⟩
 ·have ha : ansV s k fr tw tx ts cd text l7 l8 me = zAns := by unfold ansV; rw [if_neg hm]
  rw [ha]
  refine (rshard_no h me k fr tw tx ts cd text A7 c7 l7 A8 c8 l8 hr7 hc7 hr8 hc8 h8 hm).mono ?_
  rintro e w' ⟨rfl, hb⟩
  exact ⟨none, 0, rfl, Nat.le_refl _, Kd.C_nil _ _, hb⟩
theorem tel_form (s : Sh) (k fr tw tx ts cd : Int) (text : ByteArray) (l7 : List ByteArray) (l8 : List S56) (me : Int) :
 (.tuple #[.agg (if mineV k fr tw tx ts cd text l7 l8 7 me = 0 then #[.int .i64 8, .int .i64 tw, .int .i64 fr, .int .i64 tx, .int .i64 (tellV s tx).2, .int .i64 (tellV s tx).1, .string ⟨#[]⟩, .slice none 0 0, .slice none 0 0] else #[.int .i64 0, .int .i64 0, .int .i64 0, .int .i64 0, .int .i64 0, .int .i64 0, .string ⟨#[]⟩, .slice none 0 0, .slice none 0 0]), .int .i64 (mineV k fr tw tx ts cd text l7 l8 7 me)] : Value) = .tuple #[.agg #[.int .i64 (telV s k fr tw tx ts cd text l7 l8 me).f0, .int .i64 (telV s k fr tw tx ts cd text l7 l8 me).f1, .int .i64 (telV s k fr tw tx ts cd text l7 l8 me).f2, .int .i64 (telV s k fr tw tx ts cd text l7 l8 me).f3, .int .i64 (telV s k fr tw tx ts cd text l7 l8 me).f4, .int .i64 (telV s k fr tw tx ts cd text l7 l8 me).f5, .string (telV s k fr tw tx ts cd text l7 l8 me).f6, .slice none 0 0, .slice none 0 0], .int .i64 (telV s k fr tw tx ts cd text l7 l8 me).code] := by
 unfold telV
 by_cases hm : mineV k fr tw tx ts cd text l7 l8 7 me = 0
 ·rw [if_pos hm, if_pos hm, hm]
 ·rw [if_neg hm, if_neg hm, (mine_two k fr tw tx ts cd text l7 l8 7 me).resolve_left hm]
  rfl
set_option maxRecDepth 100000 in
set_option maxHeartbeats 4000000 in
theorem minenil_walk (w : World) (kind me k fr tw tx ts cd : Int) (text : ByteArray) (A7 : Option Addr) (n7 c7 : Nat) (A8 : Option Addr) (n8 c8 : Nat) :
 Calls Try.prog 47 #[.pointer none, .agg #[.int .i64 k, .int .i64 fr, .int .i64 tw, .int .i64 tx, .int .i64 ts, .int .i64 cd, .string text, .slice A7 n7 c7, .slice A8 n8 c8], .int .i64 kind, .int .i64 me] w fun e w' => e = .returned (.int .i64 5) ∧ Below w.heap.size w w' := by
 have HB : Aside0 (Below w.heap.size w (w.alloc (.cells #[.int .i64 k, .int .i64 fr, .int .i64 tw, .int .i64 tx, .int .i64 ts, .int .i64 cd, .string text, .slice A7 n7 c7, .slice A8 n8 c8] 46))) := ⟨below_alloc (Below.refl _ _) _⟩
 have hu := Try.underlying46
 go_enter Try.func47, Try.ntmps47
 go_wp2_with fail
 go_ret
 exact ⟨rfl, HB.out⟩
set_option maxRecDepth 100000 in
set_option maxHeartbeats 4000000 in
theorem shardnil_walk (w : World) (me k fr tw tx ts cd : Int) (text : ByteArray) (A7 : Option Addr) (n7 c7 : Nat) (A8 : Option Addr) (n8 c8 : Nat) :
 Calls Try.prog 19 #[.pointer none, .int .i64 me, .agg #[.int .i64 k, .int .i64 fr, .int .i64 tw, .int .i64 tx, .int .i64 ts, .int .i64 cd, .string text, .slice A7 n7 c7, .slice A8 n8 c8]] w fun e w' => e = .returned (.tuple #[.agg #[.int .i64 0, .int .i64 0, .int .i64 0, .int .i64 0, .int .i64 0, .int .i64 0, .string ⟨#[]⟩, .slice none 0 0, .slice none 0 0], .int .i64 5]) ∧ Below w.heap.size w w' := by
 obtain ⟨wy, hwy⟩ : ∃ wy, wy = ((w.alloc (.cells #[.int .i64 k, .int .i64 fr, .int .i64 tw, .int .i64 tx, .int .i64 ts, .int .i64 cd, .string text, .slice A7 n7 c7, .slice A8 n8 c8] 46)).alloc (.cells #[.int .i64 0, .int .i64 0, .int .i64 0, .int .i64 0, .int .i64 0, .int .i64 0, .string ⟨#[]⟩, .slice none 0 0, .slice none 0 0] 46)) := ⟨_, rfl⟩
 have hby : Below w.heap.size w wy := by rw [hwy]; exact below_alloc (below_alloc (Below.refl _ _) _) _
 have hyz : wy.heap[w.heap.size + 1]? = some (.cells #[.int .i64 0, .int .i64 0, .int .i64 0, .int .i64 0, .int .i64 0, .int .i64 0, .string ⟨#[]⟩, .slice none 0 0, .slice none 0 0] 46 (0, 0)) := by
  rw [hwy]
  have h := blk_new (w.alloc (.cells #[.int .i64 k, .int .i64 fr, .int .i64 tw, .int .i64 tx, .int .i64 ts, .int .i64 cd, .string text, .slice A7 n7 c7, .slice A8 n8 c8] 46)) (.cells #[.int .i64 0, .int .i64 0, .int .i64 0, .int .i64 0, .int .i64 0, .int .i64 0, .string ⟨#[]⟩, .slice none 0 0, .slice none 0 0] 46)
  rwa [show (w.alloc (.cells #[.int .i64 k, .int .i64 fr, .int .i64 tw, .int .i64 tx, .int .i64 ts, .int .i64 cd, .string text, .slice A7 n7 c7, .slice A8 n8 c8] 46)).heap.size = w.heap.size + 1 by simp] at h
 have HWY := Aside0.mk hwy
 have HBY := Aside0.mk hby
 have HYZ := Aside0.mk hyz
 have HMI := Aside0.mk (fun kind => minenil_walk wy kind me k fr tw tx ts cd text A7 n7 c7 A8 n8 c8)
 have hu := Try.underlying46
 clear hby hyz hwy
 go_enter Try.func19, Try.ntmps19
 go_wp2_with fail
 rw [← HWY.out]
 refine (HMI.out _).mono ?_
 rintro e w1 ⟨rfl, hb1⟩
 have HB1 : Aside0 (Below w.heap.size w w1) := ⟨HBY.out.trans (hb1.mono HBY.out.size)⟩
 have hz1 := blk_below HYZ.out hb1
 have HZ1 := Aside0.mk hz1
 have f0 := blk_frozen hz1 0
 have f1 := blk_frozen hz1 1
 have f2 := blk_frozen hz1 2
 have f3 := blk_frozen hz1 3
 have f4 := blk_frozen hz1 4
 have f5 := blk_frozen hz1 5
 have f6 := blk_frozen hz1 6
 have f7 := blk_frozen hz1 7
 have f8 := blk_frozen hz1 8
 obtain ⟨r0, r1, r2, r3, r4, r5, r6, r7, r8⟩ := rec_cells hz1
 clear hb1 HMI HYZ HBY HWY hz1
 go_wp2_with fail
 obtain ⟨w6, hw6⟩ : ∃ w6, w6 = (((((((((w1.setCell ⟨w.heap.size + 1, 0, none⟩ (.int .i64 0)).setCell ⟨w.heap.size + 1, 1, none⟩ (.int .i64 0)).setCell ⟨w.heap.size + 1, 2, none⟩ (.int .i64 0)).setCell ⟨w.heap.size + 1, 3, none⟩ (.int .i64 0)).setCell ⟨w.heap.size + 1, 4, none⟩ (.int .i64 0)).setCell ⟨w.heap.size + 1, 5, none⟩ (.int .i64 0)).setCell ⟨w.heap.size + 1, 6, none⟩ (.string ⟨#[]⟩)).setCell ⟨w.heap.size + 1, 7, none⟩ (.slice none 0 0)).setCell ⟨w.heap.size + 1, 8, none⟩ (.slice none 0 0)) := ⟨_, rfl⟩
 have hz : w6.heap[w.heap.size + 1]? = some (.cells #[.int .i64 0, .int .i64 0, .int .i64 0, .int .i64 0, .int .i64 0, .int .i64 0, .string ⟨#[]⟩, .slice none 0 0, .slice none 0 0] 46 (0, 0)) := by rw [hw6]; exact put9_blk HZ1.out (.int .i64 0) (.int .i64 0) (.int .i64 0) (.int .i64 0) (.int .i64 0) (.int .i64 0) (.string ⟨#[]⟩) (.slice none 0 0) (.slice none 0 0)
 have hzb : Below w.heap.size w w6 := by rw [hw6]; exact put9_below (HB1.out) (Nat.le_succ _) (.int .i64 0) (.int .i64 0) (.int .i64 0) (.int .i64 0) (.int .i64 0) (.int .i64 0) (.string ⟨#[]⟩) (.slice none 0 0) (.slice none 0 0)
 rw [← hw6]
 clear hw6
 (try simp only [Exit.inBlock, Exit.then])
 refine bodyPost_ret (results_list (rs := [.cell 6 46, .tmp 7]) rfl (by simp) (Vals.cell (w.heap.size + 1) 46 _ (0, 0) _ rfl hz Try.underlying46 rfl (by kernel_rfl) (Vals.tmp Vals.nil))) rfl ?_
 exact ⟨rfl, hzb⟩
set_option maxRecDepth 100000 in
set_option maxHeartbeats 4000000 in
theorem tellnil_walk (w : World) (me k fr tw tx ts cd : Int) (text : ByteArray) (A7 : Option Addr) (n7 c7 : Nat) (A8 : Option Addr) (n8 c8 : Nat) :
 Calls Try.prog 21 #[.pointer none, .int .i64 me, .agg #[.int .i64 k, .int .i64 fr, .int .i64 tw, .int .i64 tx, .int .i64 ts, .int .i64 cd, .string text, .slice A7 n7 c7, .slice A8 n8 c8]] w fun e w' => e = .returned (.tuple #[.agg #[.int .i64 0, .int .i64 0, .int .i64 0, .int .i64 0, .int .i64 0, .int .i64 0, .string ⟨#[]⟩, .slice none 0 0, .slice none 0 0], .int .i64 5]) ∧ Below w.heap.size w w' := by
 obtain ⟨wy, hwy⟩ : ∃ wy, wy = ((w.alloc (.cells #[.int .i64 k, .int .i64 fr, .int .i64 tw, .int .i64 tx, .int .i64 ts, .int .i64 cd, .string text, .slice A7 n7 c7, .slice A8 n8 c8] 46)).alloc (.cells #[.int .i64 0, .int .i64 0, .int .i64 0, .int .i64 0, .int .i64 0, .int .i64 0, .string ⟨#[]⟩, .slice none 0 0, .slice none 0 0] 46)) := ⟨_, rfl⟩
 have hby : Below w.heap.size w wy := by rw [hwy]; exact below_alloc (below_alloc (Below.refl _ _) _) _
 have hyz : wy.heap[w.heap.size + 1]? = some (.cells #[.int .i64 0, .int .i64 0, .int .i64 0, .int .i64 0, .int .i64 0, .int .i64 0, .string ⟨#[]⟩, .slice none 0 0, .slice none 0 0] 46 (0, 0)) := by
  rw [hwy]
  have h := blk_new (w.alloc (.cells #[.int .i64 k, .int .i64 fr, .int .i64 tw, .int .i64 tx, .int .i64 ts, .int .i64 cd, .string text, .slice A7 n7 c7, .slice A8 n8 c8] 46)) (.cells #[.int .i64 0, .int .i64 0, .int .i64 0, .int .i64 0, .int .i64 0, .int .i64 0, .string ⟨#[]⟩, .slice none 0 0, .slice none 0 0] 46)
  rwa [show (w.alloc (.cells #[.int .i64 k, .int .i64 fr, .int .i64 tw, .int .i64 tx, .int .i64 ts, .int .i64 cd, .string text, .slice A7 n7 c7, .slice A8 n8 c8] 46)).heap.size = w.heap.size + 1 by simp] at h
 have HWY := Aside0.mk hwy
 have HBY := Aside0.mk hby
 have HYZ := Aside0.mk hyz
 have HMI := Aside0.mk (fun kind => minenil_walk wy kind me k fr tw tx ts cd text A7 n7 c7 A8 n8 c8)
 have hu := Try.underlying46
 clear hby hyz hwy
 go_enter Try.func21, Try.ntmps21
 go_wp2_with fail
 rw [← HWY.out]
 refine (HMI.out _).mono ?_
 rintro e w1 ⟨rfl, hb1⟩
 have HB1 : Aside0 (Below w.heap.size w w1) := ⟨HBY.out.trans (hb1.mono HBY.out.size)⟩
 have hz1 := blk_below HYZ.out hb1
 have HZ1 := Aside0.mk hz1
 have f0 := blk_frozen hz1 0
 have f1 := blk_frozen hz1 1
 have f2 := blk_frozen hz1 2
 have f3 := blk_frozen hz1 3
 have f4 := blk_frozen hz1 4
 have f5 := blk_frozen hz1 5
 have f6 := blk_frozen hz1 6
 have f7 := blk_frozen hz1 7
 have f8 := blk_frozen hz1 8
 obtain ⟨r0, r1, r2, r3, r4, r5, r6, r7, r8⟩ := rec_cells hz1
 clear hb1 HMI HYZ HBY HWY hz1
 go_wp2_with fail
 obtain ⟨w6, hw6⟩ : ∃ w6, w6 = (((((((((w1.setCell ⟨w.heap.size + 1, 0, none⟩ (.int .i64 0)).setCell ⟨w.heap.size + 1, 1, none⟩ (.int .i64 0)).setCell ⟨w.heap.size + 1, 2, none⟩ (.int .i64 0)).setCell ⟨w.heap.size + 1, 3, none⟩ (.int .i64 0)).setCell ⟨w.heap.size + 1, 4, none⟩ (.int .i64 0)).setCell ⟨w.heap.size + 1, 5, none⟩ (.int .i64 0)).setCell ⟨w.heap.size + 1, 6, none⟩ (.string ⟨#[]⟩)).setCell ⟨w.heap.size + 1, 7, none⟩ (.slice none 0 0)).setCell ⟨w.heap.size + 1, 8, none⟩ (.slice none 0 0)) := ⟨_, rfl⟩
 have hz : w6.heap[w.heap.size + 1]? = some (.cells #[.int .i64 0, .int .i64 0, .int .i64 0, .int .i64 0, .int .i64 0, .int .i64 0, .string ⟨#[]⟩, .slice none 0 0, .slice none 0 0] 46 (0, 0)) := by rw [hw6]; exact put9_blk HZ1.out (.int .i64 0) (.int .i64 0) (.int .i64 0) (.int .i64 0) (.int .i64 0) (.int .i64 0) (.string ⟨#[]⟩) (.slice none 0 0) (.slice none 0 0)
 have hzb : Below w.heap.size w w6 := by rw [hw6]; exact put9_below (HB1.out) (Nat.le_succ _) (.int .i64 0) (.int .i64 0) (.int .i64 0) (.int .i64 0) (.int .i64 0) (.int .i64 0) (.string ⟨#[]⟩) (.slice none 0 0) (.slice none 0 0)
 rw [← hw6]
 clear hw6
 (try simp only [Exit.inBlock, Exit.then])
 refine bodyPost_ret (results_list (rs := [.cell 6 46, .tmp 7]) rfl (by simp) (Vals.cell (w.heap.size + 1) 46 _ (0, 0) _ rfl hz Try.underlying46 rfl (by kernel_rfl) (Vals.tmp Vals.nil))) rfl ?_
 exact ⟨rfl, hzb⟩
end Go.Proofs.Ytaldfbmjmpkmmaa.PL
