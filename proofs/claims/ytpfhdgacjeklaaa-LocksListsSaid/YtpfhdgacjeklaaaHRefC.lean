/- The document's Check of a record, in one. -/
-- IMPORTS
import Derived.Test.YtpfhdgacjeklaaaPLocks0
-- END IMPORTS
import Derived.Test.YtpfhdgacjeklaaaHRefC1
import Derived.Test.YtpfhdgacjeklaaaHRefC3
import Derived.Test.YtpfhdgacjeklaaaHRefCR
namespace Go.Proofs.Ytpfhdgacjeklaaa.PLocks
open Go.RowKit Go.Proofs.YtpfhdgacjeklaaaW.PrintWords Go.Proofs.YtpfhdgacjeklaaaW.PrintLast Go.Proofs.YtpfhdgacjeklaaaW.PrintMore
attribute [local go_sem] Mk.str_leq Mk.str_gtr Mk.str_geq
set_option linter.unusedVariables false
set_option linter.unusedSimpArgs false
theorem refCheck_walk (w : World) (a0 a1 a2 a3 : Int) (a4 a5 : ByteArray) (a6 : Bool) (A7 : Option Addr) (c7 : Nat) (l7 : List ByteArray) (A8 : Option Addr) (c8 : Nat) (l8 : List S62) (hr7 : Kd.C Kd.string w A7 l7.length l7) (hc7 : l7.length ≤ c7) (hr8 : Kd.C k62 w A8 l8.length l8) (hc8 : l8.length ≤ c8) (h8 : l8.length < 8796093022208) :
    Calls Try.prog 62 #[.agg #[.int .i64 a0, .int .i64 a1, .int .i64 a2, .int .i64 a3, .string a4, .string a5, .bool a6, .slice A7 l7.length c7, .slice A8 l8.length c8]] w fun e w' => e = .returned (.int .i64 (recV a0 a1 a2 a3 a4 a5 a6 l7 l8)) ∧ Below w.heap.size w w' := by
  by_cases k1 : a0 = 1
  · exact refCheck_walk1 w a0 a1 a2 a3 a4 a5 a6 A7 c7 l7 A8 c8 l8 hr7 hc7 hr8 hc8 h8 k1
  · by_cases k3 : a0 = 3
    · exact refCheck_walk3 w a0 a1 a2 a3 a4 a5 a6 A7 c7 l7 A8 c8 l8 hr7 hc7 hr8 hc8 h8 k3
    · exact refCheck_walkR w a0 a1 a2 a3 a4 a5 a6 A7 c7 l7 A8 c8 l8 hr7 hc7 hr8 hc8 h8 k1 k3
def corncribref08_Check.f (a0_0 : Int) (a0_1 : Int) (a0_2 : Int) (a0_3 : Int) (a0_4 : ByteArray) (a0_5 : ByteArray) (a0_6 : Bool) (l0_7 : List ByteArray) (l0_8 : List (S62)) : Option (Int) :=
  if l0_7.length < 8796093022208 ∧ l0_8.length < 8796093022208 then some (recV a0_0 a0_1 a0_2 a0_3 a0_4 a0_5 a0_6 l0_7 l0_8) else none
theorem corncribref08_Check.calls (a0_0 : Int) (a0_1 : Int) (a0_2 : Int) (a0_3 : Int) (a0_4 : ByteArray) (a0_5 : ByteArray) (a0_6 : Bool) (A0_7 : Option Addr) (c0_7 : Nat) (l0_7 : List ByteArray) (A0_8 : Option Addr) (c0_8 : Nat) (l0_8 : List (S62)) (r : Int) (w : World) (hr0_7 : Kd.C Kd.string w A0_7 l0_7.length l0_7) (hc0_7 : l0_7.length ≤ c0_7) (hr0_8 : Kd.C k62 w A0_8 l0_8.length l0_8) (hc0_8 : l0_8.length ≤ c0_8) (h : corncribref08_Check.f a0_0 a0_1 a0_2 a0_3 a0_4 a0_5 a0_6 l0_7 l0_8 = some r) :
    Calls Try.prog 62 #[.agg #[.int .i64 a0_0, .int .i64 a0_1, .int .i64 a0_2, .int .i64 a0_3, .string a0_4, .string a0_5, .bool a0_6, .slice A0_7 l0_7.length c0_7, .slice A0_8 l0_8.length c0_8]] w fun e w' => e = .returned (.int .i64 r) ∧ Below w.heap.size w w' := by
  unfold corncribref08_Check.f at h
  split at h
  · rename_i hs
    obtain rfl := Option.some.inj h
    exact refCheck_walk w a0_0 a0_1 a0_2 a0_3 a0_4 a0_5 a0_6 A0_7 c0_7 l0_7 A0_8 c0_8 l0_8 hr0_7 hc0_7 hr0_8 hc0_8 hs.2
  · cases h
end Go.Proofs.Ytpfhdgacjeklaaa.PLocks
