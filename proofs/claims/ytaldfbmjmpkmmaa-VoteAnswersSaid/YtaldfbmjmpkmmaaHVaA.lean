/- VoteAnswers: the walk. -/
import Derived.Test.YtaldfbmjmpkmmaaHLuD
import Derived.Test.YtaldfbmjmpkmmaaHLuF
import Derived.Test.YtaldfbmjmpkmmaaM6c338c
import Derived.Test.YtaldfbmjmpkmmaaHVtC
import Derived.Test.YtaldfbmjmpkmmaaPLf18
namespace Go.Proofs.Ytaldfbmjmpkmmaa.PL
open Go.RowKit Go.Proofs.YtaldfbmjmpkmmaaW.PrintWords Go.Proofs.YtaldfbmjmpkmmaaW.PrintLast Go.Proofs.YtaldfbmjmpkmmaaW.PrintMore
set_option linter.unusedVariables false
set_option linter.unusedSimpArgs false
set_option linter.unusedSectionVars false
theorem copyLet_walk (w : World) (k fr tw tx ts cd : Int) (text : ByteArray) (A7 : Option Addr) (c7 : Nat) (l7 : List ByteArray) (A8 : Option Addr) (c8 : Nat) (l8 : List S56) (hr7 : Kd.C Kd.string w A7 l7.length l7) (hc7 : l7.length ≤ c7) (hr8 : Kd.C k56 w A8 l8.length l8) (hc8 : l8.length ≤ c8) (h7 : l7.length < 8796093022208) (h8 : l8.length < 3518437208883) :
 Calls Try.prog 18 #[.agg #[.int .i64 k, .int .i64 fr, .int .i64 tw, .int .i64 tx, .int .i64 ts, .int .i64 cd, .string text, .slice A7 l7.length c7, .slice A8 l8.length c8]] w fun e w' => ∃ B7 d7 B8 d8, e = .returned (.agg #[.int .i64 k, .int .i64 fr, .int .i64 tw, .int .i64 tx, .int .i64 ts, .int .i64 cd, .string text, .slice B7 l7.length d7, .slice B8 l8.length d8]) ∧ l7.length ≤ d7 ∧ Kd.C Kd.string w' B7 l7.length l7 ∧ l8.length ≤ d8 ∧ Kd.C k56 w' B8 l8.length l8 ∧ Below w.heap.size w w' := by
 have hf : corncribbook_CopyLetter.f k fr tw tx ts cd text l7 l8 = some (k, fr, tw, tx, ts, cd, text, l7, l8) := by
  unfold corncribbook_CopyLetter.f
  rw [Option.bind_some, if_pos (by simpa using h7), Option.bind_some, if_pos (by simpa using h8)]
  rfl
 refine (corncribbook_CopyLetter.calls k fr tw tx ts cd text A7 c7 l7 A8 c8 l8 _ _ _ _ _ _ _ _ _ w hr7 hc7 hr8 hc8 hf).mono ?_
 rintro e w' ⟨v7, v8, rfl, g7, g8, hb⟩
 obtain ⟨B7, d7, rfl⟩ := Kd.R_slice g7
 obtain ⟨B8, d8, rfl⟩ := Kd.R_slice g8
 exact ⟨B7, d7, B8, d8, rfl, (Kd.R_reads' g7).2.1, (Kd.R_reads' g7).2.2, (Kd.R_reads' g8).2.1, (Kd.R_reads' g8).2.2, hb⟩
theorem tell_all {w : World} {ok : Nat → Prop} {b N : Nat} {s : Sh} (h : ShAt w ok b N s) (me : Int) (k fr tw tx ts cd : Int) (text : ByteArray) (A7 : Option Addr) (c7 : Nat) (l7 : List ByteArray) (A8 : Option Addr) (c8 : Nat) (l8 : List S56) (hr7 : Kd.C Kd.string w A7 l7.length l7) (hc7 : l7.length ≤ c7) (hr8 : Kd.C k56 w A8 l8.length l8) (hc8 : l8.length ≤ c8) (h8 : l8.length < 8796093022208) :
 Calls Try.prog 21 #[.pointer (some ⟨b, 0, none⟩), .int .i64 me, .agg #[.int .i64 k, .int .i64 fr, .int .i64 tw, .int .i64 tx, .int .i64 ts, .int .i64 cd, .string text, .slice A7 l7.length c7, .slice A8 l8.length c8]] w fun e w' => ∃ A c, e = .returned (.tuple #[.agg #[.int .i64 (telV s k fr tw tx ts cd text l7 l8 me).f0, .int .i64 (telV s k fr tw tx ts cd text l7 l8 me).f1, .int .i64 (telV s k fr tw tx ts cd text l7 l8 me).f2, .int .i64 (telV s k fr tw tx ts cd text l7 l8 me).f3, .int .i64 (telV s k fr tw tx ts cd text l7 l8 me).f4, .int .i64 (telV s k fr tw tx ts cd text l7 l8 me).f5, .string (telV s k fr tw tx ts cd text l7 l8 me).f6, .slice A (telV s k fr tw tx ts cd text l7 l8 me).ls.length c, .slice none 0 0], .int .i64 (telV s k fr tw tx ts cd text l7 l8 me).code]) ∧ (telV s k fr tw tx ts cd text l7 l8 me).ls.length ≤ c ∧ Kd.C Kd.string w' A (telV s k fr tw tx ts cd text l7 l8 me).ls.length (telV s k fr tw tx ts cd text l7 l8 me).ls ∧ Below w.heap.size w w' := by
 refine (tell_walk h me k fr tw tx ts cd text A7 c7 l7 A8 c8 l8 hr7 hc7 hr8 hc8 h8).mono ?_
 rintro e w' ⟨rfl, hb⟩
 have hl : (telV s k fr tw tx ts cd text l7 l8 me).ls = [] := by unfold telV; split <;> rfl
 refine ⟨none, 0, ?_, by rw [hl]; exact Nat.le_refl _, by rw [hl]; exact Kd.C_nil _ _, hb⟩
 rw [tel_form, hl]
 rfl
theorem rtell_all {w : World} {ok : Nat → Prop} {b : Nat} {s : Sh} (h : RfAt w ok b s) (me : Int) (k fr tw tx ts cd : Int) (text : ByteArray) (A7 : Option Addr) (c7 : Nat) (l7 : List ByteArray) (A8 : Option Addr) (c8 : Nat) (l8 : List S56) (hr7 : Kd.C Kd.string w A7 l7.length l7) (hc7 : l7.length ≤ c7) (hr8 : Kd.C k56 w A8 l8.length l8) (hc8 : l8.length ≤ c8) (h8 : l8.length < 8796093022208) :
 Calls Try.prog 22 #[.pointer (some ⟨b, 0, none⟩), .int .i64 me, .agg #[.int .i64 k, .int .i64 fr, .int .i64 tw, .int .i64 tx, .int .i64 ts, .int .i64 cd, .string text, .slice A7 l7.length c7, .slice A8 l8.length c8]] w fun e w' => ∃ A c, e = .returned (.tuple #[.agg #[.int .i64 (telV s k fr tw tx ts cd text l7 l8 me).f0, .int .i64 (telV s k fr tw tx ts cd text l7 l8 me).f1, .int .i64 (telV s k fr tw tx ts cd text l7 l8 me).f2, .int .i64 (telV s k fr tw tx ts cd text l7 l8 me).f3, .int .i64 (telV s k fr tw tx ts cd text l7 l8 me).f4, .int .i64 (telV s k fr tw tx ts cd text l7 l8 me).f5, .string (telV s k fr tw tx ts cd text l7 l8 me).f6, .slice A (telV s k fr tw tx ts cd text l7 l8 me).ls.length c, .slice none 0 0], .int .i64 (telV s k fr tw tx ts cd text l7 l8 me).code]) ∧ (telV s k fr tw tx ts cd text l7 l8 me).ls.length ≤ c ∧ Kd.C Kd.string w' A (telV s k fr tw tx ts cd text l7 l8 me).ls.length (telV s k fr tw tx ts cd text l7 l8 me).ls ∧ Below w.heap.size w w' := by
 refine (rtell_walk h me k fr tw tx ts cd text A7 c7 l7 A8 c8 l8 hr7 hc7 hr8 hc8 h8).mono ?_
 rintro e w' ⟨rfl, hb⟩
 have hl : (telV s k fr tw tx ts cd text l7 l8 me).ls = [] := by unfold telV; split <;> rfl
 refine ⟨none, 0, ?_, by rw [hl]; exact Nat.le_refl _, by rw [hl]; exact Kd.C_nil _ _, hb⟩
 rw [tel_form, hl]
 rfl
set_option maxRecDepth 100000 in
set_option maxHeartbeats 16000000 in
theorem voteAnswers_core (w : World) {l : List Rec} {A0 : Option Addr} {c0 : Nat} (hr0 : Kd.C k35 w A0 l.length l) (g0 : ∀ r, r ∈ l → sizesOk r) (me k fr tw tx ts cd : Int) (text : ByteArray) (A7 : Option Addr) (c7 : Nat) (l7 : List ByteArray) (A8 : Option Addr) (c8 : Nat) (l8 : List S56) (hr7 : Kd.C Kd.string w A7 l7.length l7) (hc7 : l7.length ≤ c7) (hr8 : Kd.C k56 w A8 l8.length l8) (hc8 : l8.length ≤ c8) (h7 : l7.length < 8796093022208) (h8 : l8.length < 3518437208883) :
 Calls Try.prog 5 #[.slice A0 l.length c0, .int .i64 me, .agg #[.int .i64 k, .int .i64 fr, .int .i64 tw, .int .i64 tx, .int .i64 ts, .int .i64 cd, .string text, .slice A7 l7.length c7, .slice A8 l8.length c8]] w fun e w' => e = .returned (.bool true) ∧ Below w.heap.size w w' := by
 obtain ⟨wy, hwy⟩ : ∃ wy, wy = w.alloc (.cells #[.int .i64 k, .int .i64 fr, .int .i64 tw, .int .i64 tx, .int .i64 ts, .int .i64 cd, .string text, .slice A7 l7.length c7, .slice A8 l8.length c8] 46) := ⟨_, rfl⟩
 have hby : Below w.heap.size w wy := by rw [hwy]; exact below_alloc (Below.refl _ _) _
 have HMD := Aside0.mk (made19_walk wy A0 c0 l (Kd.C_below hr0 hby) g0)
 have HX := Aside0.mk (show wy.heap[w.heap.size]? = some (.cells #[.int .i64 k, .int .i64 fr, .int .i64 tw, .int .i64 tx, .int .i64 ts, .int .i64 cd, .string text, .slice A7 l7.length c7, .slice A8 l8.length c8] 46 (0, 0)) by rw [hwy]; exact blk_new _ _)
 have HBY := Aside0.mk hby
 have HR7 := Aside0.mk (Kd.C_below hr7 hby)
 have HR8 := Aside0.mk (Kd.C_below hr8 hby)
 have HC7 := Aside0.mk hc7
 have HC8 := Aside0.mk hc8
 have H7 := Aside0.mk h7
 have H8 := Aside0.mk h8
 have HL := Aside0.mk (Kd.C_max hr0)
 have h7m := Kd.C_max hr7
 have h8m := Kd.C_max hr8
 have HWY := Aside0.mk hwy
 have hu := Try.underlying46
 have HWS := Aside0.mk works19_walk
 clear hr0 g0 hr7 hc7 hr8 hc8 h7 h8 hby hwy
 generalize madeV l = s at *
 go_enter Try.func5, Try.ntmps5
 go_wp2_with fail
 rw [← HWY.out]
 refine HMD.out.mono ?_
 rintro e w1 ⟨b, rb, rfl, hD⟩
 have HX1 := Aside0.mk (blk_below HX.out hD.world)
 have HR71 := Aside0.mk (Kd.C_below HR7.out hD.world)
 have HR81 := Aside0.mk (Kd.C_below HR8.out hD.world)
 have HB1 : Aside0 (Below w.heap.size w w1) := ⟨HBY.out.trans (hD.world.mono HBY.out.size)⟩
 have HD := Aside0.mk hD
 clear hD HMD HX HBY HR7 HR8 HWY
 go_wp2_with fail
 refine (HWS.out w1).mono ?_
 rintro e w2 ⟨rfl, hb2⟩
 have HKx_w2 := Aside0.mk (blk_below HX1.out hb2)
 have HLx_w2 := Aside0.mk (Kd.C_below HR71.out hb2)
 have HLy_w2 := Aside0.mk (Kd.C_below HR81.out hb2)
 have HD_w2 := Aside0.mk (HD.out.below hb2)
 have HB_w2 : Aside0 (Below w.heap.size w w2) := ⟨HB1.out.trans (hb2.mono HB1.out.size)⟩
 clear hb2 HD HB1 HX1 HR71 HR81 HWS
 have HCP := Aside0.mk (copyLet_walk w2 k fr tw tx ts cd text A7 c7 l7 A8 c8 l8 HLx_w2.out HC7.out HLy_w2.out HC8.out H7.out H8.out)
 obtain ⟨q0, q1, q2, q3, q4, q5, q6, q7, q8⟩ := rec_cells HKx_w2.out
 go_wp2_with fail
 refine HCP.out.mono ?_
 rintro e w3 ⟨B7, d7, B8, d8, rfl, j7, J7, j8, J8, hb3⟩
 clear HCP q0 q1 q2 q3 q4 q5 q6 q7 q8
 obtain ⟨w4, hw4⟩ : ∃ w4, w4 = w3.alloc (.cells #[.int .i64 k, .int .i64 fr, .int .i64 tw, .int .i64 tx, .int .i64 ts, .int .i64 cd, .string text, .slice B7 l7.length d7, .slice B8 l8.length d8] 46) := ⟨_, rfl⟩
 have hba : Below w3.heap.size w3 w4 := by rw [hw4]; exact below_alloc (Below.refl _ _) _
 have Hw4 := Aside0.mk hw4
 clear hw4
 have hbc := hb3.trans (hba.mono hb3.size)
 have HKx_w4 := Aside0.mk (blk_below HKx_w2.out hbc)
 have HLx_w4 := Aside0.mk (Kd.C_below HLx_w2.out hbc)
 have HLy_w4 := Aside0.mk (Kd.C_below HLy_w2.out hbc)
 have HD_w4 := Aside0.mk (HD_w2.out.below hbc)
 have HB_w4 : Aside0 (Below w.heap.size w w4) := ⟨HB_w2.out.trans (hbc.mono HB_w2.out.size)⟩
 clear HKx_w2 HLx_w2 HLy_w2 HD_w2 HB_w2
 have HKo_w4 : Aside0 (w4.heap[w3.heap.size]? = some (.cells #[.int .i64 k, .int .i64 fr, .int .i64 tw, .int .i64 tx, .int .i64 ts, .int .i64 cd, .string text, .slice B7 l7.length d7, .slice B8 l8.length d8] 46 (0, 0))) := ⟨by rw [Hw4.out]; exact blk_new _ _⟩
 have HLo_w4 := Aside0.mk (Kd.C_below J7 hba)
 have HLp_w4 := Aside0.mk (Kd.C_below J8 hba)
 have HJ7 := Aside0.mk j7
 have HJ8 := Aside0.mk j8
 clear hb3 hba hbc j7 J7 j8 J8
 have HTE := Aside0.mk (Eq.refl (telV s k fr tw tx ts cd text l7 l8 me))
 have HSA := Aside0.mk (Eq.refl (ansV s k fr tw tx ts cd text l7 l8 me))
 obtain ⟨q0, q1, q2, q3, q4, q5, q6, q7, q8⟩ := rec_cells HKo_w4.out
 rw [Hw4.out] at q0 q1 q2 q3 q4 q5 q6 q7 q8
 obtain ⟨okp, hsh, hrf, -, -, -⟩ := HD_w4.out
 have hcl := shard_all hsh me k fr tw tx ts cd text B7 d7 l7 B8 d8 l8 HLo_w4.out HJ7.out HLp_w4.out HJ8.out (Nat.lt_trans H8.out (by decide))
 have HCL := Aside0.mk hcl
 clear hsh hrf hcl
 go_wp2_with fail
 rw [← Hw4.out]
 refine HCL.out.mono ?_
 rintro e w5 ⟨Aa, ca, rfl, jAa, JAa, hb5⟩
 clear HCL q0 q1 q2 q3 q4 q5 q6 q7 q8 Hw4
 obtain ⟨w6, hw6⟩ : ∃ w6, w6 = w5.alloc (.cells #[.int .i64 (ansV s k fr tw tx ts cd text l7 l8 me).f0, .int .i64 (ansV s k fr tw tx ts cd text l7 l8 me).f1, .int .i64 (ansV s k fr tw tx ts cd text l7 l8 me).f2, .int .i64 (ansV s k fr tw tx ts cd text l7 l8 me).f3, .int .i64 (ansV s k fr tw tx ts cd text l7 l8 me).f4, .int .i64 (ansV s k fr tw tx ts cd text l7 l8 me).f5, .string (ansV s k fr tw tx ts cd text l7 l8 me).f6, .slice Aa (ansV s k fr tw tx ts cd text l7 l8 me).ls.length ca, .slice none 0 0] 46) := ⟨_, rfl⟩
 have hba : Below w5.heap.size w5 w6 := by rw [hw6]; exact below_alloc (Below.refl _ _) _
 have Hw6 := Aside0.mk hw6
 clear hw6
 have hbc := hb5.trans (hba.mono hb5.size)
 have HKx_w6 := Aside0.mk (blk_below HKx_w4.out hbc)
 have HKo_w6 := Aside0.mk (blk_below HKo_w4.out hbc)
 have HLx_w6 := Aside0.mk (Kd.C_below HLx_w4.out hbc)
 have HLy_w6 := Aside0.mk (Kd.C_below HLy_w4.out hbc)
 have HLo_w6 := Aside0.mk (Kd.C_below HLo_w4.out hbc)
 have HLp_w6 := Aside0.mk (Kd.C_below HLp_w4.out hbc)
 have HD_w6 := Aside0.mk (HD_w4.out.below hbc)
 have HB_w6 : Aside0 (Below w.heap.size w w6) := ⟨HB_w4.out.trans (hbc.mono HB_w4.out.size)⟩
 clear HKx_w4 HKo_w4 HLx_w4 HLy_w4 HLo_w4 HLp_w4 HD_w4 HB_w4
 have HKa_w6 : Aside0 (w6.heap[w5.heap.size]? = some (.cells #[.int .i64 (ansV s k fr tw tx ts cd text l7 l8 me).f0, .int .i64 (ansV s k fr tw tx ts cd text l7 l8 me).f1, .int .i64 (ansV s k fr tw tx ts cd text l7 l8 me).f2, .int .i64 (ansV s k fr tw tx ts cd text l7 l8 me).f3, .int .i64 (ansV s k fr tw tx ts cd text l7 l8 me).f4, .int .i64 (ansV s k fr tw tx ts cd text l7 l8 me).f5, .string (ansV s k fr tw tx ts cd text l7 l8 me).f6, .slice Aa (ansV s k fr tw tx ts cd text l7 l8 me).ls.length ca, .slice none 0 0] 46 (0, 0))) := ⟨by rw [Hw6.out]; exact blk_new _ _⟩
 have HLa_w6 := Aside0.mk (Kd.C_below JAa hba)
 clear hb5 hba hbc jAa JAa okp
 obtain ⟨q0, q1, q2, q3, q4, q5, q6, q7, q8⟩ := rec_cells HKx_w6.out
 rw [Hw6.out] at q0 q1 q2 q3 q4 q5 q6 q7 q8
 obtain ⟨okp, hsh, hrf, -, -, -⟩ := HD_w6.out
 have hcl := rshard_all hrf me k fr tw tx ts cd text A7 c7 l7 A8 c8 l8 HLx_w6.out HC7.out HLy_w6.out HC8.out (Nat.lt_trans H8.out (by decide))
 have HCL := Aside0.mk hcl
 clear hsh hrf hcl
 go_wp2_with fail
 rw [← Hw6.out]
 refine HCL.out.mono ?_
 rintro e w7 ⟨Ab, cb, rfl, jAb, JAb, hb7⟩
 clear HCL q0 q1 q2 q3 q4 q5 q6 q7 q8 Hw6
 obtain ⟨w8, hw8⟩ : ∃ w8, w8 = w7.alloc (.cells #[.int .i64 (ansV s k fr tw tx ts cd text l7 l8 me).f0, .int .i64 (ansV s k fr tw tx ts cd text l7 l8 me).f1, .int .i64 (ansV s k fr tw tx ts cd text l7 l8 me).f2, .int .i64 (ansV s k fr tw tx ts cd text l7 l8 me).f3, .int .i64 (ansV s k fr tw tx ts cd text l7 l8 me).f4, .int .i64 (ansV s k fr tw tx ts cd text l7 l8 me).f5, .string (ansV s k fr tw tx ts cd text l7 l8 me).f6, .slice Ab (ansV s k fr tw tx ts cd text l7 l8 me).ls.length cb, .slice none 0 0] 46) := ⟨_, rfl⟩
 have hba : Below w7.heap.size w7 w8 := by rw [hw8]; exact below_alloc (Below.refl _ _) _
 have Hw8 := Aside0.mk hw8
 clear hw8
 have hbc := hb7.trans (hba.mono hb7.size)
 have HKx_w8 := Aside0.mk (blk_below HKx_w6.out hbc)
 have HKo_w8 := Aside0.mk (blk_below HKo_w6.out hbc)
 have HKa_w8 := Aside0.mk (blk_below HKa_w6.out hbc)
 have HLx_w8 := Aside0.mk (Kd.C_below HLx_w6.out hbc)
 have HLy_w8 := Aside0.mk (Kd.C_below HLy_w6.out hbc)
 have HLo_w8 := Aside0.mk (Kd.C_below HLo_w6.out hbc)
 have HLp_w8 := Aside0.mk (Kd.C_below HLp_w6.out hbc)
 have HLa_w8 := Aside0.mk (Kd.C_below HLa_w6.out hbc)
 have HD_w8 := Aside0.mk (HD_w6.out.below hbc)
 have HB_w8 : Aside0 (Below w.heap.size w w8) := ⟨HB_w6.out.trans (hbc.mono HB_w6.out.size)⟩
 clear HKx_w6 HKo_w6 HKa_w6 HLx_w6 HLy_w6 HLo_w6 HLp_w6 HLa_w6 HD_w6 HB_w6
 have HKb_w8 : Aside0 (w8.heap[w7.heap.size]? = some (.cells #[.int .i64 (ansV s k fr tw tx ts cd text l7 l8 me).f0, .int .i64 (ansV s k fr tw tx ts cd text l7 l8 me).f1, .int .i64 (ansV s k fr tw tx ts cd text l7 l8 me).f2, .int .i64 (ansV s k fr tw tx ts cd text l7 l8 me).f3, .int .i64 (ansV s k fr tw tx ts cd text l7 l8 me).f4, .int .i64 (ansV s k fr tw tx ts cd text l7 l8 me).f5, .string (ansV s k fr tw tx ts cd text l7 l8 me).f6, .slice Ab (ansV s k fr tw tx ts cd text l7 l8 me).ls.length cb, .slice none 0 0] 46 (0, 0))) := ⟨by rw [Hw8.out]; exact blk_new _ _⟩
 have HLb_w8 := Aside0.mk (Kd.C_below JAb hba)
 clear hb7 hba hbc jAb JAb okp
 obtain ⟨q0, q1, q2, q3, q4, q5, q6, q7, q8⟩ := rec_cells HKo_w8.out
 rw [Hw8.out] at q0 q1 q2 q3 q4 q5 q6 q7 q8
 obtain ⟨okp, hsh, hrf, -, -, -⟩ := HD_w8.out
 have hcl := tell_all hsh me k fr tw tx ts cd text B7 d7 l7 B8 d8 l8 HLo_w8.out HJ7.out HLp_w8.out HJ8.out (Nat.lt_trans H8.out (by decide))
 have HCL := Aside0.mk hcl
 clear hsh hrf hcl
 go_wp2_with fail
 rw [← Hw8.out]
 refine HCL.out.mono ?_
 rintro e w9 ⟨Ac, cc, rfl, jAc, JAc, hb9⟩
 clear HCL q0 q1 q2 q3 q4 q5 q6 q7 q8 Hw8
 obtain ⟨w10, hw10⟩ : ∃ w10, w10 = w9.alloc (.cells #[.int .i64 (telV s k fr tw tx ts cd text l7 l8 me).f0, .int .i64 (telV s k fr tw tx ts cd text l7 l8 me).f1, .int .i64 (telV s k fr tw tx ts cd text l7 l8 me).f2, .int .i64 (telV s k fr tw tx ts cd text l7 l8 me).f3, .int .i64 (telV s k fr tw tx ts cd text l7 l8 me).f4, .int .i64 (telV s k fr tw tx ts cd text l7 l8 me).f5, .string (telV s k fr tw tx ts cd text l7 l8 me).f6, .slice Ac (telV s k fr tw tx ts cd text l7 l8 me).ls.length cc, .slice none 0 0] 46) := ⟨_, rfl⟩
 have hba : Below w9.heap.size w9 w10 := by rw [hw10]; exact below_alloc (Below.refl _ _) _
 have Hw10 := Aside0.mk hw10
 clear hw10
 have hbc := hb9.trans (hba.mono hb9.size)
 have HKx_w10 := Aside0.mk (blk_below HKx_w8.out hbc)
 have HKo_w10 := Aside0.mk (blk_below HKo_w8.out hbc)
 have HKa_w10 := Aside0.mk (blk_below HKa_w8.out hbc)
 have HKb_w10 := Aside0.mk (blk_below HKb_w8.out hbc)
 have HLx_w10 := Aside0.mk (Kd.C_below HLx_w8.out hbc)
 have HLy_w10 := Aside0.mk (Kd.C_below HLy_w8.out hbc)
 have HLo_w10 := Aside0.mk (Kd.C_below HLo_w8.out hbc)
 have HLp_w10 := Aside0.mk (Kd.C_below HLp_w8.out hbc)
 have HLa_w10 := Aside0.mk (Kd.C_below HLa_w8.out hbc)
 have HLb_w10 := Aside0.mk (Kd.C_below HLb_w8.out hbc)
 have HD_w10 := Aside0.mk (HD_w8.out.below hbc)
 have HB_w10 : Aside0 (Below w.heap.size w w10) := ⟨HB_w8.out.trans (hbc.mono HB_w8.out.size)⟩
 clear HKx_w8 HKo_w8 HKa_w8 HKb_w8 HLx_w8 HLy_w8 HLo_w8 HLp_w8 HLa_w8 HLb_w8 HD_w8 HB_w8
 have HKc_w10 : Aside0 (w10.heap[w9.heap.size]? = some (.cells #[.int .i64 (telV s k fr tw tx ts cd text l7 l8 me).f0, .int .i64 (telV s k fr tw tx ts cd text l7 l8 me).f1, .int .i64 (telV s k fr tw tx ts cd text l7 l8 me).f2, .int .i64 (telV s k fr tw tx ts cd text l7 l8 me).f3, .int .i64 (telV s k fr tw tx ts cd text l7 l8 me).f4, .int .i64 (telV s k fr tw tx ts cd text l7 l8 me).f5, .string (telV s k fr tw tx ts cd text l7 l8 me).f6, .slice Ac (telV s k fr tw tx ts cd text l7 l8 me).ls.length cc, .slice none 0 0] 46 (0, 0))) := ⟨by rw [Hw10.out]; exact blk_new _ _⟩
 have HLc_w10 := Aside0.mk (Kd.C_below JAc hba)
 clear hb9 hba hbc jAc JAc okp
 obtain ⟨q0, q1, q2, q3, q4, q5, q6, q7, q8⟩ := rec_cells HKx_w10.out
 rw [Hw10.out] at q0 q1 q2 q3 q4 q5 q6 q7 q8
 obtain ⟨okp, hsh, hrf, -, -, -⟩ := HD_w10.out
 have hcl := rtell_all hrf me k fr tw tx ts cd text A7 c7 l7 A8 c8 l8 HLx_w10.out HC7.out HLy_w10.out HC8.out (Nat.lt_trans H8.out (by decide))
 have HCL := Aside0.mk hcl
 clear hsh hrf hcl
 go_wp2_with fail
 rw [← Hw10.out]
 refine HCL.out.mono ?_
 rintro e w11 ⟨Ad, ce, rfl, jAd, JAd, hb11⟩
 clear HCL q0 q1 q2 q3 q4 q5 q6 q7 q8 Hw10
 obtain ⟨w12, hw12⟩ : ∃ w12, w12 = w11.alloc (.cells #[.int .i64 (telV s k fr tw tx ts cd text l7 l8 me).f0, .int .i64 (telV s k fr tw tx ts cd text l7 l8 me).f1, .int .i64 (telV s k fr tw tx ts cd text l7 l8 me).f2, .int .i64 (telV s k fr tw tx ts cd text l7 l8 me).f3, .int .i64 (telV s k fr tw tx ts cd text l7 l8 me).f4, .int .i64 (telV s k fr tw tx ts cd text l7 l8 me).f5, .string (telV s k fr tw tx ts cd text l7 l8 me).f6, .slice Ad (telV s k fr tw tx ts cd text l7 l8 me).ls.length ce, .slice none 0 0] 46) := ⟨_, rfl⟩
 have hba : Below w11.heap.size w11 w12 := by rw [hw12]; exact below_alloc (Below.refl _ _) _
 have Hw12 := Aside0.mk hw12
 clear hw12
 have hbc := hb11.trans (hba.mono hb11.size)
 have HKx_w12 := Aside0.mk (blk_below HKx_w10.out hbc)
 have HKo_w12 := Aside0.mk (blk_below HKo_w10.out hbc)
 have HKa_w12 := Aside0.mk (blk_below HKa_w10.out hbc)
 have HKb_w12 := Aside0.mk (blk_below HKb_w10.out hbc)
 have HKc_w12 := Aside0.mk (blk_below HKc_w10.out hbc)
 have HLx_w12 := Aside0.mk (Kd.C_below HLx_w10.out hbc)
 have HLy_w12 := Aside0.mk (Kd.C_below HLy_w10.out hbc)
 have HLo_w12 := Aside0.mk (Kd.C_below HLo_w10.out hbc)
 have HLp_w12 := Aside0.mk (Kd.C_below HLp_w10.out hbc)
 have HLa_w12 := Aside0.mk (Kd.C_below HLa_w10.out hbc)
 have HLb_w12 := Aside0.mk (Kd.C_below HLb_w10.out hbc)
 have HLc_w12 := Aside0.mk (Kd.C_below HLc_w10.out hbc)
 have HD_w12 := Aside0.mk (HD_w10.out.below hbc)
 have HB_w12 : Aside0 (Below w.heap.size w w12) := ⟨HB_w10.out.trans (hbc.mono HB_w10.out.size)⟩
 clear HKx_w10 HKo_w10 HKa_w10 HKb_w10 HKc_w10 HLx_w10 HLy_w10 HLo_w10 HLp_w10 HLa_w10 HLb_w10 HLc_w10 HD_w10 HB_w10
 have HKd_w12 : Aside0 (w12.heap[w11.heap.size]? = some (.cells #[.int .i64 (telV s k fr tw tx ts cd text l7 l8 me).f0, .int .i64 (telV s k fr tw tx ts cd text l7 l8 me).f1, .int .i64 (telV s k fr tw tx ts cd text l7 l8 me).f2, .int .i64 (telV s k fr tw tx ts cd text l7 l8 me).f3, .int .i64 (telV s k fr tw tx ts cd text l7 l8 me).f4, .int .i64 (telV s k fr tw tx ts cd text l7 l8 me).f5, .string (telV s k fr tw tx ts cd text l7 l8 me).f6, .slice Ad (telV s k fr tw tx ts cd text l7 l8 me).ls.length ce, .slice none 0 0] 46 (0, 0))) := ⟨by rw [Hw12.out]; exact blk_new _ _⟩
 have HLd_w12 := Aside0.mk (Kd.C_below JAd hba)
 clear hb11 hba hbc jAd JAd okp
 obtain ⟨q0, q1, q2, q3, q4, q5, q6, q7, q8⟩ := rec_cells HKx_w12.out
 rw [Hw12.out] at q0 q1 q2 q3 q4 q5 q6 q7 q8
 have HCL := Aside0.mk (shardnil_walk w12 me k fr tw tx ts cd text A7 l7.length c7 A8 l8.length c8)
 go_wp2_with fail
 rw [← Hw12.out]
 refine HCL.out.mono ?_
 rintro e w13 ⟨rfl, hb13⟩
 clear HCL q0 q1 q2 q3 q4 q5 q6 q7 q8 Hw12
 obtain ⟨w14, hw14⟩ : ∃ w14, w14 = w13.alloc (.cells #[.int .i64 0, .int .i64 0, .int .i64 0, .int .i64 0, .int .i64 0, .int .i64 0, .string ⟨#[]⟩, .slice none 0 0, .slice none 0 0] 46) := ⟨_, rfl⟩
 have hba : Below w13.heap.size w13 w14 := by rw [hw14]; exact below_alloc (Below.refl _ _) _
 have Hw14 := Aside0.mk hw14
 clear hw14
 have hbc := hb13.trans (hba.mono hb13.size)
 have HKx_w14 := Aside0.mk (blk_below HKx_w12.out hbc)
 have HKo_w14 := Aside0.mk (blk_below HKo_w12.out hbc)
 have HKa_w14 := Aside0.mk (blk_below HKa_w12.out hbc)
 have HKb_w14 := Aside0.mk (blk_below HKb_w12.out hbc)
 have HKc_w14 := Aside0.mk (blk_below HKc_w12.out hbc)
 have HKd_w14 := Aside0.mk (blk_below HKd_w12.out hbc)
 have HLx_w14 := Aside0.mk (Kd.C_below HLx_w12.out hbc)
 have HLy_w14 := Aside0.mk (Kd.C_below HLy_w12.out hbc)
 have HLo_w14 := Aside0.mk (Kd.C_below HLo_w12.out hbc)
 have HLp_w14 := Aside0.mk (Kd.C_below HLp_w12.out hbc)
 have HLa_w14 := Aside0.mk (Kd.C_below HLa_w12.out hbc)
 have HLb_w14 := Aside0.mk (Kd.C_below HLb_w12.out hbc)
 have HLc_w14 := Aside0.mk (Kd.C_below HLc_w12.out hbc)
 have HLd_w14 := Aside0.mk (Kd.C_below HLd_w12.out hbc)
 have HD_w14 := Aside0.mk (HD_w12.out.below hbc)
 have HB_w14 : Aside0 (Below w.heap.size w w14) := ⟨HB_w12.out.trans (hbc.mono HB_w12.out.size)⟩
 clear HKx_w12 HKo_w12 HKa_w12 HKb_w12 HKc_w12 HKd_w12 HLx_w12 HLy_w12 HLo_w12 HLp_w12 HLa_w12 HLb_w12 HLc_w12 HLd_w12 HD_w12 HB_w12
 clear hb13 hba hbc
 obtain ⟨q0, q1, q2, q3, q4, q5, q6, q7, q8⟩ := rec_cells HKx_w14.out
 rw [Hw14.out] at q0 q1 q2 q3 q4 q5 q6 q7 q8
 have HCL := Aside0.mk (tellnil_walk w14 me k fr tw tx ts cd text A7 l7.length c7 A8 l8.length c8)
 go_wp2_with fail
 rw [← Hw14.out]
 refine HCL.out.mono ?_
 rintro e w15 ⟨rfl, hb15⟩
 clear HCL q0 q1 q2 q3 q4 q5 q6 q7 q8 Hw14
 obtain ⟨w16, hw16⟩ : ∃ w16, w16 = w15.alloc (.cells #[.int .i64 0, .int .i64 0, .int .i64 0, .int .i64 0, .int .i64 0, .int .i64 0, .string ⟨#[]⟩, .slice none 0 0, .slice none 0 0] 46) := ⟨_, rfl⟩
 have hba : Below w15.heap.size w15 w16 := by rw [hw16]; exact below_alloc (Below.refl _ _) _
 have Hw16 := Aside0.mk hw16
 clear hw16
 have hbc := hb15.trans (hba.mono hb15.size)
 have HKx_w16 := Aside0.mk (blk_below HKx_w14.out hbc)
 have HKo_w16 := Aside0.mk (blk_below HKo_w14.out hbc)
 have HKa_w16 := Aside0.mk (blk_below HKa_w14.out hbc)
 have HKb_w16 := Aside0.mk (blk_below HKb_w14.out hbc)
 have HKc_w16 := Aside0.mk (blk_below HKc_w14.out hbc)
 have HKd_w16 := Aside0.mk (blk_below HKd_w14.out hbc)
 have HLx_w16 := Aside0.mk (Kd.C_below HLx_w14.out hbc)
 have HLy_w16 := Aside0.mk (Kd.C_below HLy_w14.out hbc)
 have HLo_w16 := Aside0.mk (Kd.C_below HLo_w14.out hbc)
 have HLp_w16 := Aside0.mk (Kd.C_below HLp_w14.out hbc)
 have HLa_w16 := Aside0.mk (Kd.C_below HLa_w14.out hbc)
 have HLb_w16 := Aside0.mk (Kd.C_below HLb_w14.out hbc)
 have HLc_w16 := Aside0.mk (Kd.C_below HLc_w14.out hbc)
 have HLd_w16 := Aside0.mk (Kd.C_below HLd_w14.out hbc)
 have HD_w16 := Aside0.mk (HD_w14.out.below hbc)
 have HB_w16 : Aside0 (Below w.heap.size w w16) := ⟨HB_w14.out.trans (hbc.mono HB_w14.out.size)⟩
 clear HKx_w14 HKo_w14 HKa_w14 HKb_w14 HKc_w14 HKd_w14 HLx_w14 HLy_w14 HLo_w14 HLp_w14 HLa_w14 HLb_w14 HLc_w14 HLd_w14 HD_w14 HB_w14
 clear hb15 hba hbc
 have e1 : ((ansV s k fr tw tx ts cd text l7 l8 me).code == (ansV s k fr tw tx ts cd text l7 l8 me).code) = true := by simp
 have e2 : ((telV s k fr tw tx ts cd text l7 l8 me).code == (telV s k fr tw tx ts cd text l7 l8 me).code) = true := by simp
 obtain ⟨q0, q1, q2, q3, q4, q5, q6, q7, q8⟩ := rec_cells HKa_w16.out
 rw [Hw16.out] at q0 q1 q2 q3 q4 q5 q6 q7 q8
 obtain ⟨r0, r1, r2, r3, r4, r5, r6, r7, r8⟩ := rec_cells HKb_w16.out
 rw [Hw16.out] at r0 r1 r2 r3 r4 r5 r6 r7 r8
 have HCL : Aside0 (Calls Try.prog 23 #[.agg #[.int .i64 (ansV s k fr tw tx ts cd text l7 l8 me).f0, .int .i64 (ansV s k fr tw tx ts cd text l7 l8 me).f1, .int .i64 (ansV s k fr tw tx ts cd text l7 l8 me).f2, .int .i64 (ansV s k fr tw tx ts cd text l7 l8 me).f3, .int .i64 (ansV s k fr tw tx ts cd text l7 l8 me).f4, .int .i64 (ansV s k fr tw tx ts cd text l7 l8 me).f5, .string (ansV s k fr tw tx ts cd text l7 l8 me).f6, .slice Aa (ansV s k fr tw tx ts cd text l7 l8 me).ls.length ca, .slice none 0 0], .agg #[.int .i64 (ansV s k fr tw tx ts cd text l7 l8 me).f0, .int .i64 (ansV s k fr tw tx ts cd text l7 l8 me).f1, .int .i64 (ansV s k fr tw tx ts cd text l7 l8 me).f2, .int .i64 (ansV s k fr tw tx ts cd text l7 l8 me).f3, .int .i64 (ansV s k fr tw tx ts cd text l7 l8 me).f4, .int .i64 (ansV s k fr tw tx ts cd text l7 l8 me).f5, .string (ansV s k fr tw tx ts cd text l7 l8 me).f6, .slice Ab (ansV s k fr tw tx ts cd text l7 l8 me).ls.length cb, .slice none 0 0]] w16 fun e w' => e = .returned (.bool true) ∧ Below w16.heap.size w16 w') := ⟨sameLet_eq w16 _ _ _ _ _ _ _ Aa Ab ca cb _ none none 0 0 [] HLa_w16.out HLb_w16.out (Kd.C_nil _ _) (Kd.C_nil _ _)⟩
 go_wp2_with fail
 rw [← Hw16.out]
 refine HCL.out.mono ?_
 rintro e v1 ⟨rfl, hb⟩
 clear HCL q0 q1 q2 q3 q4 q5 q6 q7 q8 r0 r1 r2 r3 r4 r5 r6 r7 r8
 have HKx_v1 := Aside0.mk (blk_below HKx_w16.out hb)
 have HKo_v1 := Aside0.mk (blk_below HKo_w16.out hb)
 have HKa_v1 := Aside0.mk (blk_below HKa_w16.out hb)
 have HKb_v1 := Aside0.mk (blk_below HKb_w16.out hb)
 have HKc_v1 := Aside0.mk (blk_below HKc_w16.out hb)
 have HKd_v1 := Aside0.mk (blk_below HKd_w16.out hb)
 have HLx_v1 := Aside0.mk (Kd.C_below HLx_w16.out hb)
 have HLy_v1 := Aside0.mk (Kd.C_below HLy_w16.out hb)
 have HLo_v1 := Aside0.mk (Kd.C_below HLo_w16.out hb)
 have HLp_v1 := Aside0.mk (Kd.C_below HLp_w16.out hb)
 have HLa_v1 := Aside0.mk (Kd.C_below HLa_w16.out hb)
 have HLb_v1 := Aside0.mk (Kd.C_below HLb_w16.out hb)
 have HLc_v1 := Aside0.mk (Kd.C_below HLc_w16.out hb)
 have HLd_v1 := Aside0.mk (Kd.C_below HLd_w16.out hb)
 have HD_v1 := Aside0.mk (HD_w16.out.below hb)
 have HB_v1 : Aside0 (Below w.heap.size w v1) := ⟨HB_w16.out.trans (hb.mono HB_w16.out.size)⟩
 clear HKx_w16 HKo_w16 HKa_w16 HKb_w16 HKc_w16 HKd_w16 HLx_w16 HLy_w16 HLo_w16 HLp_w16 HLa_w16 HLb_w16 HLc_w16 HLd_w16 HD_w16 HB_w16
 clear hb
 obtain ⟨q0, q1, q2, q3, q4, q5, q6, q7, q8⟩ := rec_cells HKc_v1.out
 obtain ⟨r0, r1, r2, r3, r4, r5, r6, r7, r8⟩ := rec_cells HKd_v1.out
 have HCL : Aside0 (Calls Try.prog 23 #[.agg #[.int .i64 (telV s k fr tw tx ts cd text l7 l8 me).f0, .int .i64 (telV s k fr tw tx ts cd text l7 l8 me).f1, .int .i64 (telV s k fr tw tx ts cd text l7 l8 me).f2, .int .i64 (telV s k fr tw tx ts cd text l7 l8 me).f3, .int .i64 (telV s k fr tw tx ts cd text l7 l8 me).f4, .int .i64 (telV s k fr tw tx ts cd text l7 l8 me).f5, .string (telV s k fr tw tx ts cd text l7 l8 me).f6, .slice Ac (telV s k fr tw tx ts cd text l7 l8 me).ls.length cc, .slice none 0 0], .agg #[.int .i64 (telV s k fr tw tx ts cd text l7 l8 me).f0, .int .i64 (telV s k fr tw tx ts cd text l7 l8 me).f1, .int .i64 (telV s k fr tw tx ts cd text l7 l8 me).f2, .int .i64 (telV s k fr tw tx ts cd text l7 l8 me).f3, .int .i64 (telV s k fr tw tx ts cd text l7 l8 me).f4, .int .i64 (telV s k fr tw tx ts cd text l7 l8 me).f5, .string (telV s k fr tw tx ts cd text l7 l8 me).f6, .slice Ad (telV s k fr tw tx ts cd text l7 l8 me).ls.length ce, .slice none 0 0]] v1 fun e w' => e = .returned (.bool true) ∧ Below v1.heap.size v1 w') := ⟨sameLet_eq v1 _ _ _ _ _ _ _ Ac Ad cc ce _ none none 0 0 [] HLc_v1.out HLd_v1.out (Kd.C_nil _ _) (Kd.C_nil _ _)⟩
 go_wp2_with fail

 refine HCL.out.mono ?_
 rintro e v2 ⟨rfl, hb⟩
 clear HCL q0 q1 q2 q3 q4 q5 q6 q7 q8 r0 r1 r2 r3 r4 r5 r6 r7 r8
 have HKx_v2 := Aside0.mk (blk_below HKx_v1.out hb)
 have HKo_v2 := Aside0.mk (blk_below HKo_v1.out hb)
 have HKa_v2 := Aside0.mk (blk_below HKa_v1.out hb)
 have HKb_v2 := Aside0.mk (blk_below HKb_v1.out hb)
 have HKc_v2 := Aside0.mk (blk_below HKc_v1.out hb)
 have HKd_v2 := Aside0.mk (blk_below HKd_v1.out hb)
 have HLx_v2 := Aside0.mk (Kd.C_below HLx_v1.out hb)
 have HLy_v2 := Aside0.mk (Kd.C_below HLy_v1.out hb)
 have HLo_v2 := Aside0.mk (Kd.C_below HLo_v1.out hb)
 have HLp_v2 := Aside0.mk (Kd.C_below HLp_v1.out hb)
 have HLa_v2 := Aside0.mk (Kd.C_below HLa_v1.out hb)
 have HLb_v2 := Aside0.mk (Kd.C_below HLb_v1.out hb)
 have HLc_v2 := Aside0.mk (Kd.C_below HLc_v1.out hb)
 have HLd_v2 := Aside0.mk (Kd.C_below HLd_v1.out hb)
 have HD_v2 := Aside0.mk (HD_v1.out.below hb)
 have HB_v2 : Aside0 (Below w.heap.size w v2) := ⟨HB_v1.out.trans (hb.mono HB_v1.out.size)⟩
 clear HKx_v1 HKo_v1 HKa_v1 HKb_v1 HKc_v1 HKd_v1 HLx_v1 HLy_v1 HLo_v1 HLp_v1 HLa_v1 HLb_v1 HLc_v1 HLd_v1 HD_v1 HB_v1
 clear hb
 obtain ⟨q0, q1, q2, q3, q4, q5, q6, q7, q8⟩ := rec_cells HKo_v2.out
 obtain ⟨r0, r1, r2, r3, r4, r5, r6, r7, r8⟩ := rec_cells HKx_v2.out
 have HCL : Aside0 (Calls Try.prog 23 #[.agg #[.int .i64 k, .int .i64 fr, .int .i64 tw, .int .i64 tx, .int .i64 ts, .int .i64 cd, .string text, .slice B7 l7.length d7, .slice B8 l8.length d8], .agg #[.int .i64 k, .int .i64 fr, .int .i64 tw, .int .i64 tx, .int .i64 ts, .int .i64 cd, .string text, .slice A7 l7.length c7, .slice A8 l8.length c8]] v2 fun e w' => e = .returned (.bool true) ∧ Below v2.heap.size v2 w') := ⟨sameLet_eq v2 k fr tw tx ts cd text B7 A7 d7 c7 l7 B8 A8 d8 c8 l8 HLo_v2.out HLx_v2.out HLp_v2.out HLy_v2.out⟩
 go_wp2_with fail

 refine HCL.out.mono ?_
 rintro e v3 ⟨rfl, hb⟩
 clear HCL q0 q1 q2 q3 q4 q5 q6 q7 q8 r0 r1 r2 r3 r4 r5 r6 r7 r8
 have HKx_v3 := Aside0.mk (blk_below HKx_v2.out hb)
 have HKo_v3 := Aside0.mk (blk_below HKo_v2.out hb)
 have HKa_v3 := Aside0.mk (blk_below HKa_v2.out hb)
 have HKb_v3 := Aside0.mk (blk_below HKb_v2.out hb)
 have HKc_v3 := Aside0.mk (blk_below HKc_v2.out hb)
 have HKd_v3 := Aside0.mk (blk_below HKd_v2.out hb)
 have HLx_v3 := Aside0.mk (Kd.C_below HLx_v2.out hb)
 have HLy_v3 := Aside0.mk (Kd.C_below HLy_v2.out hb)
 have HLo_v3 := Aside0.mk (Kd.C_below HLo_v2.out hb)
 have HLp_v3 := Aside0.mk (Kd.C_below HLp_v2.out hb)
 have HLa_v3 := Aside0.mk (Kd.C_below HLa_v2.out hb)
 have HLb_v3 := Aside0.mk (Kd.C_below HLb_v2.out hb)
 have HLc_v3 := Aside0.mk (Kd.C_below HLc_v2.out hb)
 have HLd_v3 := Aside0.mk (Kd.C_below HLd_v2.out hb)
 have HD_v3 := Aside0.mk (HD_v2.out.below hb)
 have HB_v3 : Aside0 (Below w.heap.size w v3) := ⟨HB_v2.out.trans (hb.mono HB_v2.out.size)⟩
 clear HKx_v2 HKo_v2 HKa_v2 HKb_v2 HKc_v2 HKd_v2 HLx_v2 HLy_v2 HLo_v2 HLp_v2 HLa_v2 HLb_v2 HLc_v2 HLd_v2 HD_v2 HB_v2
 clear hb
 go_wp2_with fail
 go_ret
 exact ⟨rfl, HB_v3.out⟩
theorem voteAnswers_walk (w : World) {l : List Rec} {A0 : Option Addr} {c0 : Nat} (hc0 : l.length ≤ c0) (hr0 : Kd.C k35 w A0 l.length l) (g0 : l.length * 120 ≤ 140737488351232 ∧ ∀ r, r ∈ l → okRec r) (me k fr tw tx ts cd : Int) (text : ByteArray) (A7 : Option Addr) (c7 : Nat) (l7 : List ByteArray) (A8 : Option Addr) (c8 : Nat) (l8 : List S56) (hr7 : Kd.C Kd.string w A7 l7.length l7) (hc7 : l7.length ≤ c7) (hr8 : Kd.C k56 w A8 l8.length l8) (hc8 : l8.length ≤ c8) (g : l7.length * 16 ≤ 140737488351232 ∧ l8.length * 40 ≤ 140737488351232) :
 Calls Try.prog 5 #[.slice A0 l.length c0, .int .i64 me, .agg #[.int .i64 k, .int .i64 fr, .int .i64 tw, .int .i64 tx, .int .i64 ts, .int .i64 cd, .string text, .slice A7 l7.length c7, .slice A8 l8.length c8]] w fun e w' => e = .returned (.bool true) ∧ Below w.heap.size w w' :=
 voteAnswers_core w hr0 (fun r hr => sizesOk_rec (g0.2 r hr)) me k fr tw tx ts cd text A7 c7 l7 A8 c8 l8 hr7 hc7 hr8 hc8 (by omega) (by omega)
end Go.Proofs.Ytaldfbmjmpkmmaa.PL
