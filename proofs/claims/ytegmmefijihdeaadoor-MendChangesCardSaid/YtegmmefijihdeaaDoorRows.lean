/-
  NARROWER THAN 'FOR EVERY INPUT', by the rows' own cells (each row's printed sentence says how): StripeSplits: laid · StripeJoins: laid · StripeCodes: laid · StripeParity: laid · StripeBack: laid · StripeLinear: laid · StripeSizes: laid · MendChecks: laid · MendMakes: laid · MendAny: laid · MendChanges: laid · MendOnes: laid.
  DERIVED. THE GIVEN ROWS OF THIS SEAT. 12 by the template 'for every input the law returns true; each argument reads behind the call as it read before'; 0 by the template 'total and deterministic' (their statements: YtegmmefijihdeaaDoorTotals.lean).
  GIVEN WITH THE SEED: the statements are not yours to turn. If you find one false, say at which input.
  Laid BY PROGRAM, IN A SANDBOX (cutbox-rows.mjs): the forced cells as the released guide's own fill.sh prints them over the translation 717abed4fa13f428… (all of the seat's roots in one cut). By AI agents, Wed Nov 11 2026. No macro, syntax, notation, axiom, sorry.
-/
import Derived.Test.YtegmmefijihdeaaDoorChecked
import GoSem.PinnedTables
import GoSem.Claim
import GoSem.ClaimJoined
import GoSem.ClaimMapViews
import Derived.JoinedTies
import Derived.KernelRfl
namespace Go.Proofs.YtegmmefijihdeaaDoor
/- THE CELL 'sum', in the pinned program and in every row, IS THE sha256 OF THE DUMP (.gsa) THAT YtegmmefijihdeaaDoorProg.lean LOADS. Nothing in Lean hashes anything: it is a label: what it is worth is what the hold of that sum in a sandbox is worth. -/
noncomputable def Tryd.pinned : Pinned := { name := "ytegmmefijihdeaadoor", sum := "717abed4fa13f4285e2bf3b03b93683e4fa2e65f77e95964bd380783b6182322", checked := Tryd.checked }
namespace Rows
def none {H : Type} : Left H := { results := [], args := [] }

/- WHAT THE LISTED PACKAGE-LEVEL VARIABLES READ AS WHEN THE CALL BEGINS. Each datum BY PROGRAM (the guide's laid-datum.mjs) off the statement by which the dump's own 'gosem.cut.vars' lays the variable. In a bare row this is a premise. The card (YtegmmefijihdeaaDoorCards.lean) ties it to the program's text. -/
def laid_unicode_utf8_acceptRanges {H : Type} : DataW H := .agg [.agg [.lit (.int .u8 128), .lit (.int .u8 191)], .agg [.lit (.int .u8 160), .lit (.int .u8 191)], .agg [.lit (.int .u8 128), .lit (.int .u8 159)], .agg [.lit (.int .u8 144), .lit (.int .u8 191)], .agg [.lit (.int .u8 128), .lit (.int .u8 143)], .agg [.lit (.int .u8 0), .lit (.int .u8 0)], .agg [.lit (.int .u8 0), .lit (.int .u8 0)], .agg [.lit (.int .u8 0), .lit (.int .u8 0)], .agg [.lit (.int .u8 0), .lit (.int .u8 0)], .agg [.lit (.int .u8 0), .lit (.int .u8 0)], .agg [.lit (.int .u8 0), .lit (.int .u8 0)], .agg [.lit (.int .u8 0), .lit (.int .u8 0)], .agg [.lit (.int .u8 0), .lit (.int .u8 0)], .agg [.lit (.int .u8 0), .lit (.int .u8 0)], .agg [.lit (.int .u8 0), .lit (.int .u8 0)], .agg [.lit (.int .u8 0), .lit (.int .u8 0)]]
/-- One of Go's own tables, pinned by name: the form's constant. -/
def laid_unicode_utf8_first : DataW Unit := Go.Pinned.utf8First

/-- 'corncriblaw03.StripeSplits': WHATEVER THE INPUT: true; the input reads as it did. -/
def stripeSplitsSpec : ChangeSpec := { name := "stripeSplits", fn := fun _ => fun
  | [d1, d2, d3] => { results := [.lit (.bool true)], args := [d1, d2, d3] }
  | _ => none }
def stripeSplitsRow : OpenClaim := { program := "ytegmmefijihdeaadoor", sum := "717abed4fa13f4285e2bf3b03b93683e4fa2e65f77e95964bd380783b6182322", func := "corncrib/corncriblaw03.StripeSplits", spec := "stripeSplits", inPlace := ["internal/abi.NoEscape", "internal/bytealg.MakeNoZero", "internal/bytealg.IndexByteString", "internal/bytealg.IndexString"], named := ["unicode/utf8.first", "unicode/utf8.acceptRanges", "internal/bytealg.MaxLen"], apart := false, laid := [("unicode/utf8.acceptRanges", laid_unicode_utf8_acceptRanges), ("unicode/utf8.first", laid_unicode_utf8_first)] }
def StripeSplitsSaid : Prop := stripeSplitsRow.holds Tryd.pinned (OpenSpec.ofChange stripeSplitsSpec)

/-- ITS FALSE NEIGHBOUR: 'it returns false'. Refute it at one input. -/
def stripeSplitsWrong : ChangeSpec := { name := "stripeSplits", fn := fun _ => fun
  | [d1, d2, d3] => { results := [.lit (.bool false)], args := [d1, d2, d3] }
  | _ => none }
def StripeSplitsWrongFalsely : Prop := stripeSplitsRow.holds Tryd.pinned (OpenSpec.ofChange stripeSplitsWrong)

/-- 'corncriblaw03.StripeJoins': WHATEVER THE INPUT: true; the input reads as it did. -/
def stripeJoinsSpec : ChangeSpec := { name := "stripeJoins", fn := fun _ => fun
  | [d] => { results := [.lit (.bool true)], args := [d] }
  | _ => none }
def stripeJoinsRow : OpenClaim := { program := "ytegmmefijihdeaadoor", sum := "717abed4fa13f4285e2bf3b03b93683e4fa2e65f77e95964bd380783b6182322", func := "corncrib/corncriblaw03.StripeJoins", spec := "stripeJoins", inPlace := ["internal/abi.NoEscape", "internal/bytealg.MakeNoZero", "internal/bytealg.IndexByteString", "internal/bytealg.IndexString"], named := ["unicode/utf8.first", "unicode/utf8.acceptRanges", "internal/bytealg.MaxLen"], apart := false, laid := [("unicode/utf8.acceptRanges", laid_unicode_utf8_acceptRanges), ("unicode/utf8.first", laid_unicode_utf8_first)] }
def StripeJoinsSaid : Prop := stripeJoinsRow.holds Tryd.pinned (OpenSpec.ofChange stripeJoinsSpec)

/-- ITS FALSE NEIGHBOUR: 'it returns false'. Refute it at one input. -/
def stripeJoinsWrong : ChangeSpec := { name := "stripeJoins", fn := fun _ => fun
  | [d] => { results := [.lit (.bool false)], args := [d] }
  | _ => none }
def StripeJoinsWrongFalsely : Prop := stripeJoinsRow.holds Tryd.pinned (OpenSpec.ofChange stripeJoinsWrong)

/-- 'corncriblaw03.StripeCodes': WHATEVER THE INPUT: true; the input reads as it did. -/
def stripeCodesSpec : ChangeSpec := { name := "stripeCodes", fn := fun _ => fun
  | [d1, d2, d3] => { results := [.lit (.bool true)], args := [d1, d2, d3] }
  | _ => none }
def stripeCodesRow : OpenClaim := { program := "ytegmmefijihdeaadoor", sum := "717abed4fa13f4285e2bf3b03b93683e4fa2e65f77e95964bd380783b6182322", func := "corncrib/corncriblaw03.StripeCodes", spec := "stripeCodes", inPlace := ["internal/abi.NoEscape", "internal/bytealg.MakeNoZero", "internal/bytealg.IndexByteString", "internal/bytealg.IndexString"], named := ["unicode/utf8.first", "unicode/utf8.acceptRanges", "internal/bytealg.MaxLen"], apart := false, laid := [("unicode/utf8.acceptRanges", laid_unicode_utf8_acceptRanges), ("unicode/utf8.first", laid_unicode_utf8_first)] }
def StripeCodesSaid : Prop := stripeCodesRow.holds Tryd.pinned (OpenSpec.ofChange stripeCodesSpec)

/-- ITS FALSE NEIGHBOUR: 'it returns false'. Refute it at one input. -/
def stripeCodesWrong : ChangeSpec := { name := "stripeCodes", fn := fun _ => fun
  | [d1, d2, d3] => { results := [.lit (.bool false)], args := [d1, d2, d3] }
  | _ => none }
def StripeCodesWrongFalsely : Prop := stripeCodesRow.holds Tryd.pinned (OpenSpec.ofChange stripeCodesWrong)

/-- 'corncriblaw03.StripeParity': WHATEVER THE INPUT: true; the input reads as it did. -/
def stripeParitySpec : ChangeSpec := { name := "stripeParity", fn := fun _ => fun
  | [d1, d2, d3] => { results := [.lit (.bool true)], args := [d1, d2, d3] }
  | _ => none }
def stripeParityRow : OpenClaim := { program := "ytegmmefijihdeaadoor", sum := "717abed4fa13f4285e2bf3b03b93683e4fa2e65f77e95964bd380783b6182322", func := "corncrib/corncriblaw03.StripeParity", spec := "stripeParity", inPlace := ["internal/abi.NoEscape", "internal/bytealg.MakeNoZero", "internal/bytealg.IndexByteString", "internal/bytealg.IndexString"], named := ["unicode/utf8.first", "unicode/utf8.acceptRanges", "internal/bytealg.MaxLen"], apart := false, laid := [("unicode/utf8.acceptRanges", laid_unicode_utf8_acceptRanges), ("unicode/utf8.first", laid_unicode_utf8_first)] }
def StripeParitySaid : Prop := stripeParityRow.holds Tryd.pinned (OpenSpec.ofChange stripeParitySpec)

/-- ITS FALSE NEIGHBOUR: 'it returns false'. Refute it at one input. -/
def stripeParityWrong : ChangeSpec := { name := "stripeParity", fn := fun _ => fun
  | [d1, d2, d3] => { results := [.lit (.bool false)], args := [d1, d2, d3] }
  | _ => none }
def StripeParityWrongFalsely : Prop := stripeParityRow.holds Tryd.pinned (OpenSpec.ofChange stripeParityWrong)

/-- 'corncriblaw03.StripeBack': WHATEVER THE INPUT: true; the input reads as it did. -/
def stripeBackSpec : ChangeSpec := { name := "stripeBack", fn := fun _ => fun
  | [d1, d2] => { results := [.lit (.bool true)], args := [d1, d2] }
  | _ => none }
def stripeBackRow : OpenClaim := { program := "ytegmmefijihdeaadoor", sum := "717abed4fa13f4285e2bf3b03b93683e4fa2e65f77e95964bd380783b6182322", func := "corncrib/corncriblaw03.StripeBack", spec := "stripeBack", inPlace := ["internal/abi.NoEscape", "internal/bytealg.MakeNoZero", "internal/bytealg.IndexByteString", "internal/bytealg.IndexString"], named := ["unicode/utf8.first", "unicode/utf8.acceptRanges", "internal/bytealg.MaxLen"], apart := false, laid := [("unicode/utf8.acceptRanges", laid_unicode_utf8_acceptRanges), ("unicode/utf8.first", laid_unicode_utf8_first)] }
def StripeBackSaid : Prop := stripeBackRow.holds Tryd.pinned (OpenSpec.ofChange stripeBackSpec)

/-- ITS FALSE NEIGHBOUR: 'it returns false'. Refute it at one input. -/
def stripeBackWrong : ChangeSpec := { name := "stripeBack", fn := fun _ => fun
  | [d1, d2] => { results := [.lit (.bool false)], args := [d1, d2] }
  | _ => none }
def StripeBackWrongFalsely : Prop := stripeBackRow.holds Tryd.pinned (OpenSpec.ofChange stripeBackWrong)

/-- 'corncriblaw03.StripeLinear': WHATEVER THE INPUT: true; the input reads as it did. -/
def stripeLinearSpec : ChangeSpec := { name := "stripeLinear", fn := fun _ => fun
  | [d1, d2, d3] => { results := [.lit (.bool true)], args := [d1, d2, d3] }
  | _ => none }
def stripeLinearRow : OpenClaim := { program := "ytegmmefijihdeaadoor", sum := "717abed4fa13f4285e2bf3b03b93683e4fa2e65f77e95964bd380783b6182322", func := "corncrib/corncriblaw03.StripeLinear", spec := "stripeLinear", inPlace := ["internal/abi.NoEscape", "internal/bytealg.MakeNoZero", "internal/bytealg.IndexByteString", "internal/bytealg.IndexString"], named := ["unicode/utf8.first", "unicode/utf8.acceptRanges", "internal/bytealg.MaxLen"], apart := false, laid := [("unicode/utf8.acceptRanges", laid_unicode_utf8_acceptRanges), ("unicode/utf8.first", laid_unicode_utf8_first)] }
def StripeLinearSaid : Prop := stripeLinearRow.holds Tryd.pinned (OpenSpec.ofChange stripeLinearSpec)

/-- ITS FALSE NEIGHBOUR: 'it returns false'. Refute it at one input. -/
def stripeLinearWrong : ChangeSpec := { name := "stripeLinear", fn := fun _ => fun
  | [d1, d2, d3] => { results := [.lit (.bool false)], args := [d1, d2, d3] }
  | _ => none }
def StripeLinearWrongFalsely : Prop := stripeLinearRow.holds Tryd.pinned (OpenSpec.ofChange stripeLinearWrong)

/-- 'corncriblaw03.StripeSizes': WHATEVER THE INPUT: true; the input reads as it did. -/
def stripeSizesSpec : ChangeSpec := { name := "stripeSizes", fn := fun _ => fun
  | [d1, d2] => { results := [.lit (.bool true)], args := [d1, d2] }
  | _ => none }
def stripeSizesRow : OpenClaim := { program := "ytegmmefijihdeaadoor", sum := "717abed4fa13f4285e2bf3b03b93683e4fa2e65f77e95964bd380783b6182322", func := "corncrib/corncriblaw03.StripeSizes", spec := "stripeSizes", inPlace := ["internal/abi.NoEscape", "internal/bytealg.MakeNoZero", "internal/bytealg.IndexByteString", "internal/bytealg.IndexString"], named := ["unicode/utf8.first", "unicode/utf8.acceptRanges", "internal/bytealg.MaxLen"], apart := false, laid := [("unicode/utf8.acceptRanges", laid_unicode_utf8_acceptRanges), ("unicode/utf8.first", laid_unicode_utf8_first)] }
def StripeSizesSaid : Prop := stripeSizesRow.holds Tryd.pinned (OpenSpec.ofChange stripeSizesSpec)

/-- ITS FALSE NEIGHBOUR: 'it returns false'. Refute it at one input. -/
def stripeSizesWrong : ChangeSpec := { name := "stripeSizes", fn := fun _ => fun
  | [d1, d2] => { results := [.lit (.bool false)], args := [d1, d2] }
  | _ => none }
def StripeSizesWrongFalsely : Prop := stripeSizesRow.holds Tryd.pinned (OpenSpec.ofChange stripeSizesWrong)

/-- 'corncriblaw04.MendChecks': WHATEVER THE INPUT: true; the input reads as it did. -/
def mendChecksSpec : ChangeSpec := { name := "mendChecks", fn := fun _ => fun
  | [d1, d2, d3] => { results := [.lit (.bool true)], args := [d1, d2, d3] }
  | _ => none }
def mendChecksRow : OpenClaim := { program := "ytegmmefijihdeaadoor", sum := "717abed4fa13f4285e2bf3b03b93683e4fa2e65f77e95964bd380783b6182322", func := "corncrib/corncriblaw04.MendChecks", spec := "mendChecks", inPlace := ["internal/abi.NoEscape", "internal/bytealg.MakeNoZero", "internal/bytealg.IndexByteString", "internal/bytealg.IndexString"], unfollowed := true, recurses := true, named := ["unicode/utf8.first", "unicode/utf8.acceptRanges", "internal/bytealg.MaxLen"], apart := false, laid := [("unicode/utf8.acceptRanges", laid_unicode_utf8_acceptRanges), ("unicode/utf8.first", laid_unicode_utf8_first)] }
def MendChecksSaid : Prop := mendChecksRow.holds Tryd.pinned (OpenSpec.ofChange mendChecksSpec)

/-- ITS FALSE NEIGHBOUR: 'it returns false'. Refute it at one input. -/
def mendChecksWrong : ChangeSpec := { name := "mendChecks", fn := fun _ => fun
  | [d1, d2, d3] => { results := [.lit (.bool false)], args := [d1, d2, d3] }
  | _ => none }
def MendChecksWrongFalsely : Prop := mendChecksRow.holds Tryd.pinned (OpenSpec.ofChange mendChecksWrong)

/-- 'corncriblaw04.MendMakes': WHATEVER THE INPUT: true; the input reads as it did. -/
def mendMakesSpec : ChangeSpec := { name := "mendMakes", fn := fun _ => fun
  | [d1, d2] => { results := [.lit (.bool true)], args := [d1, d2] }
  | _ => none }
def mendMakesRow : OpenClaim := { program := "ytegmmefijihdeaadoor", sum := "717abed4fa13f4285e2bf3b03b93683e4fa2e65f77e95964bd380783b6182322", func := "corncrib/corncriblaw04.MendMakes", spec := "mendMakes", inPlace := ["internal/abi.NoEscape", "internal/bytealg.MakeNoZero", "internal/bytealg.IndexByteString", "internal/bytealg.IndexString"], unfollowed := true, recurses := true, named := ["unicode/utf8.first", "unicode/utf8.acceptRanges", "internal/bytealg.MaxLen"], apart := false, laid := [("unicode/utf8.acceptRanges", laid_unicode_utf8_acceptRanges), ("unicode/utf8.first", laid_unicode_utf8_first)] }
def MendMakesSaid : Prop := mendMakesRow.holds Tryd.pinned (OpenSpec.ofChange mendMakesSpec)

/-- ITS FALSE NEIGHBOUR: 'it returns false'. Refute it at one input. -/
def mendMakesWrong : ChangeSpec := { name := "mendMakes", fn := fun _ => fun
  | [d1, d2] => { results := [.lit (.bool false)], args := [d1, d2] }
  | _ => none }
def MendMakesWrongFalsely : Prop := mendMakesRow.holds Tryd.pinned (OpenSpec.ofChange mendMakesWrong)

/-- 'corncriblaw04.MendAny': WHATEVER THE INPUT: true; the input reads as it did. -/
def mendAnySpec : ChangeSpec := { name := "mendAny", fn := fun _ => fun
  | [d1, d2, d3] => { results := [.lit (.bool true)], args := [d1, d2, d3] }
  | _ => none }
def mendAnyRow : OpenClaim := { program := "ytegmmefijihdeaadoor", sum := "717abed4fa13f4285e2bf3b03b93683e4fa2e65f77e95964bd380783b6182322", func := "corncrib/corncriblaw04.MendAny", spec := "mendAny", inPlace := ["internal/abi.NoEscape", "internal/bytealg.MakeNoZero", "internal/bytealg.IndexByteString", "internal/bytealg.IndexString"], unfollowed := true, recurses := true, named := ["unicode/utf8.first", "unicode/utf8.acceptRanges", "internal/bytealg.MaxLen"], apart := false, laid := [("unicode/utf8.acceptRanges", laid_unicode_utf8_acceptRanges), ("unicode/utf8.first", laid_unicode_utf8_first)] }
def MendAnySaid : Prop := mendAnyRow.holds Tryd.pinned (OpenSpec.ofChange mendAnySpec)

/-- ITS FALSE NEIGHBOUR: 'it returns false'. Refute it at one input. -/
def mendAnyWrong : ChangeSpec := { name := "mendAny", fn := fun _ => fun
  | [d1, d2, d3] => { results := [.lit (.bool false)], args := [d1, d2, d3] }
  | _ => none }
def MendAnyWrongFalsely : Prop := mendAnyRow.holds Tryd.pinned (OpenSpec.ofChange mendAnyWrong)

/-- 'corncriblaw04.MendChanges': WHATEVER THE INPUT: true; the input reads as it did. -/
def mendChangesSpec : ChangeSpec := { name := "mendChanges", fn := fun _ => fun
  | [d1, d2, d3] => { results := [.lit (.bool true)], args := [d1, d2, d3] }
  | _ => none }
def mendChangesRow : OpenClaim := { program := "ytegmmefijihdeaadoor", sum := "717abed4fa13f4285e2bf3b03b93683e4fa2e65f77e95964bd380783b6182322", func := "corncrib/corncriblaw04.MendChanges", spec := "mendChanges", inPlace := ["internal/abi.NoEscape", "internal/bytealg.MakeNoZero", "internal/bytealg.IndexByteString", "internal/bytealg.IndexString"], unfollowed := true, recurses := true, named := ["unicode/utf8.first", "unicode/utf8.acceptRanges", "internal/bytealg.MaxLen"], apart := false, laid := [("unicode/utf8.acceptRanges", laid_unicode_utf8_acceptRanges), ("unicode/utf8.first", laid_unicode_utf8_first)] }
def MendChangesSaid : Prop := mendChangesRow.holds Tryd.pinned (OpenSpec.ofChange mendChangesSpec)

/-- ITS FALSE NEIGHBOUR: 'it returns false'. Refute it at one input. -/
def mendChangesWrong : ChangeSpec := { name := "mendChanges", fn := fun _ => fun
  | [d1, d2, d3] => { results := [.lit (.bool false)], args := [d1, d2, d3] }
  | _ => none }
def MendChangesWrongFalsely : Prop := mendChangesRow.holds Tryd.pinned (OpenSpec.ofChange mendChangesWrong)

/-- 'corncriblaw04.MendOnes': WHATEVER THE INPUT: true; the input reads as it did. -/
def mendOnesSpec : ChangeSpec := { name := "mendOnes", fn := fun _ => fun
  | [d1, d2, d3] => { results := [.lit (.bool true)], args := [d1, d2, d3] }
  | _ => none }
def mendOnesRow : OpenClaim := { program := "ytegmmefijihdeaadoor", sum := "717abed4fa13f4285e2bf3b03b93683e4fa2e65f77e95964bd380783b6182322", func := "corncrib/corncriblaw04.MendOnes", spec := "mendOnes", inPlace := ["internal/abi.NoEscape", "internal/bytealg.MakeNoZero", "internal/bytealg.IndexByteString", "internal/bytealg.IndexString"], unfollowed := true, recurses := true, named := ["unicode/utf8.first", "unicode/utf8.acceptRanges", "internal/bytealg.MaxLen"], apart := false, laid := [("unicode/utf8.acceptRanges", laid_unicode_utf8_acceptRanges), ("unicode/utf8.first", laid_unicode_utf8_first)] }
def MendOnesSaid : Prop := mendOnesRow.holds Tryd.pinned (OpenSpec.ofChange mendOnesSpec)

/-- ITS FALSE NEIGHBOUR: 'it returns false'. Refute it at one input. -/
def mendOnesWrong : ChangeSpec := { name := "mendOnes", fn := fun _ => fun
  | [d1, d2, d3] => { results := [.lit (.bool false)], args := [d1, d2, d3] }
  | _ => none }
def MendOnesWrongFalsely : Prop := mendOnesRow.holds Tryd.pinned (OpenSpec.ofChange mendOnesWrong)

/- THE SECOND FORM. 'bulk': how many values and letters a reading holds, each counted each time it is reached (what is shared counts as often as it is met; a slice's spare places count too). A statement '..UptoSaid' is the law's where the arguments, and the package variables that the reading takes, are together of bulk at most 1048576: NARROWER than '..Said'. Prove '..Said' where nothing that the law and all that it calls make is longer than what came in: it says more and counts as full. Else prove '..UptoSaid'. A law counts once. -/
mutual
def uptoBulk {H : Type} : DataW H → Nat
  | .lit (.string bytes) => bytes.length + 1
  | .lit _ => 1
  | .nil => 1
  | .ptr d => uptoBulk d + 1
  | .slice elems spare => uptoBulkAll elems + uptoBulkAll spare + 1
  | .agg parts => uptoBulkAll parts + 1
  | .iface _ d => uptoBulk d + 1
  | .map entries => uptoBulkEntries entries + 1
  | .held _ => 1
def uptoBulkAll {H : Type} : List (DataW H) → Nat
  | [] => 0
  | d :: r => uptoBulk d + uptoBulkAll r
def uptoBulkEntries {H : Type} : List (Lit × DataW H) → Nat
  | [] => 0
  | x :: r => uptoBulkEntry x + uptoBulkEntries r
def uptoBulkEntry {H : Type} : Lit × DataW H → Nat
  | (.string bytes, d) => bytes.length + uptoBulk d + 1
  | (_, d) => uptoBulk d + 1
 end
def uptoSmall : (H : Type) → List (DataW H) → Bool := fun _ ds => decide (uptoBulkAll ds ≤ 1048576)
def OpenSpec.upto (s : _root_.Go.ChangeSpec) : _root_.Go.OpenSpec := { _root_.Go.OpenSpec.ofChange s with cond := some uptoSmall }

/-- 'corncriblaw03.StripeSplits', WHERE WHAT IT READS IS OF BULK AT MOST 1048576: true; the input reads as it did. -/
def stripeSplitsUptoRow : OpenClaim := { program := "ytegmmefijihdeaadoor", sum := "717abed4fa13f4285e2bf3b03b93683e4fa2e65f77e95964bd380783b6182322", func := "corncrib/corncriblaw03.StripeSplits", spec := "stripeSplits", inPlace := ["internal/abi.NoEscape", "internal/bytealg.MakeNoZero", "internal/bytealg.IndexByteString", "internal/bytealg.IndexString"], named := ["unicode/utf8.first", "unicode/utf8.acceptRanges", "internal/bytealg.MaxLen"], apart := false, laid := [("unicode/utf8.acceptRanges", laid_unicode_utf8_acceptRanges), ("unicode/utf8.first", laid_unicode_utf8_first)], narrowed := true }
def StripeSplitsUptoSaid : Prop := stripeSplitsUptoRow.holds Tryd.pinned (OpenSpec.upto stripeSplitsSpec)

/-- 'corncriblaw03.StripeJoins', WHERE WHAT IT READS IS OF BULK AT MOST 1048576: true; the input reads as it did. -/
def stripeJoinsUptoRow : OpenClaim := { program := "ytegmmefijihdeaadoor", sum := "717abed4fa13f4285e2bf3b03b93683e4fa2e65f77e95964bd380783b6182322", func := "corncrib/corncriblaw03.StripeJoins", spec := "stripeJoins", inPlace := ["internal/abi.NoEscape", "internal/bytealg.MakeNoZero", "internal/bytealg.IndexByteString", "internal/bytealg.IndexString"], named := ["unicode/utf8.first", "unicode/utf8.acceptRanges", "internal/bytealg.MaxLen"], apart := false, laid := [("unicode/utf8.acceptRanges", laid_unicode_utf8_acceptRanges), ("unicode/utf8.first", laid_unicode_utf8_first)], narrowed := true }
def StripeJoinsUptoSaid : Prop := stripeJoinsUptoRow.holds Tryd.pinned (OpenSpec.upto stripeJoinsSpec)

/-- 'corncriblaw03.StripeCodes', WHERE WHAT IT READS IS OF BULK AT MOST 1048576: true; the input reads as it did. -/
def stripeCodesUptoRow : OpenClaim := { program := "ytegmmefijihdeaadoor", sum := "717abed4fa13f4285e2bf3b03b93683e4fa2e65f77e95964bd380783b6182322", func := "corncrib/corncriblaw03.StripeCodes", spec := "stripeCodes", inPlace := ["internal/abi.NoEscape", "internal/bytealg.MakeNoZero", "internal/bytealg.IndexByteString", "internal/bytealg.IndexString"], named := ["unicode/utf8.first", "unicode/utf8.acceptRanges", "internal/bytealg.MaxLen"], apart := false, laid := [("unicode/utf8.acceptRanges", laid_unicode_utf8_acceptRanges), ("unicode/utf8.first", laid_unicode_utf8_first)], narrowed := true }
def StripeCodesUptoSaid : Prop := stripeCodesUptoRow.holds Tryd.pinned (OpenSpec.upto stripeCodesSpec)

/-- 'corncriblaw03.StripeParity', WHERE WHAT IT READS IS OF BULK AT MOST 1048576: true; the input reads as it did. -/
def stripeParityUptoRow : OpenClaim := { program := "ytegmmefijihdeaadoor", sum := "717abed4fa13f4285e2bf3b03b93683e4fa2e65f77e95964bd380783b6182322", func := "corncrib/corncriblaw03.StripeParity", spec := "stripeParity", inPlace := ["internal/abi.NoEscape", "internal/bytealg.MakeNoZero", "internal/bytealg.IndexByteString", "internal/bytealg.IndexString"], named := ["unicode/utf8.first", "unicode/utf8.acceptRanges", "internal/bytealg.MaxLen"], apart := false, laid := [("unicode/utf8.acceptRanges", laid_unicode_utf8_acceptRanges), ("unicode/utf8.first", laid_unicode_utf8_first)], narrowed := true }
def StripeParityUptoSaid : Prop := stripeParityUptoRow.holds Tryd.pinned (OpenSpec.upto stripeParitySpec)

/-- 'corncriblaw03.StripeBack', WHERE WHAT IT READS IS OF BULK AT MOST 1048576: true; the input reads as it did. -/
def stripeBackUptoRow : OpenClaim := { program := "ytegmmefijihdeaadoor", sum := "717abed4fa13f4285e2bf3b03b93683e4fa2e65f77e95964bd380783b6182322", func := "corncrib/corncriblaw03.StripeBack", spec := "stripeBack", inPlace := ["internal/abi.NoEscape", "internal/bytealg.MakeNoZero", "internal/bytealg.IndexByteString", "internal/bytealg.IndexString"], named := ["unicode/utf8.first", "unicode/utf8.acceptRanges", "internal/bytealg.MaxLen"], apart := false, laid := [("unicode/utf8.acceptRanges", laid_unicode_utf8_acceptRanges), ("unicode/utf8.first", laid_unicode_utf8_first)], narrowed := true }
def StripeBackUptoSaid : Prop := stripeBackUptoRow.holds Tryd.pinned (OpenSpec.upto stripeBackSpec)

/-- 'corncriblaw03.StripeLinear', WHERE WHAT IT READS IS OF BULK AT MOST 1048576: true; the input reads as it did. -/
def stripeLinearUptoRow : OpenClaim := { program := "ytegmmefijihdeaadoor", sum := "717abed4fa13f4285e2bf3b03b93683e4fa2e65f77e95964bd380783b6182322", func := "corncrib/corncriblaw03.StripeLinear", spec := "stripeLinear", inPlace := ["internal/abi.NoEscape", "internal/bytealg.MakeNoZero", "internal/bytealg.IndexByteString", "internal/bytealg.IndexString"], named := ["unicode/utf8.first", "unicode/utf8.acceptRanges", "internal/bytealg.MaxLen"], apart := false, laid := [("unicode/utf8.acceptRanges", laid_unicode_utf8_acceptRanges), ("unicode/utf8.first", laid_unicode_utf8_first)], narrowed := true }
def StripeLinearUptoSaid : Prop := stripeLinearUptoRow.holds Tryd.pinned (OpenSpec.upto stripeLinearSpec)

/-- 'corncriblaw03.StripeSizes', WHERE WHAT IT READS IS OF BULK AT MOST 1048576: true; the input reads as it did. -/
def stripeSizesUptoRow : OpenClaim := { program := "ytegmmefijihdeaadoor", sum := "717abed4fa13f4285e2bf3b03b93683e4fa2e65f77e95964bd380783b6182322", func := "corncrib/corncriblaw03.StripeSizes", spec := "stripeSizes", inPlace := ["internal/abi.NoEscape", "internal/bytealg.MakeNoZero", "internal/bytealg.IndexByteString", "internal/bytealg.IndexString"], named := ["unicode/utf8.first", "unicode/utf8.acceptRanges", "internal/bytealg.MaxLen"], apart := false, laid := [("unicode/utf8.acceptRanges", laid_unicode_utf8_acceptRanges), ("unicode/utf8.first", laid_unicode_utf8_first)], narrowed := true }
def StripeSizesUptoSaid : Prop := stripeSizesUptoRow.holds Tryd.pinned (OpenSpec.upto stripeSizesSpec)

/-- 'corncriblaw04.MendChecks', WHERE WHAT IT READS IS OF BULK AT MOST 1048576: true; the input reads as it did. -/
def mendChecksUptoRow : OpenClaim := { program := "ytegmmefijihdeaadoor", sum := "717abed4fa13f4285e2bf3b03b93683e4fa2e65f77e95964bd380783b6182322", func := "corncrib/corncriblaw04.MendChecks", spec := "mendChecks", inPlace := ["internal/abi.NoEscape", "internal/bytealg.MakeNoZero", "internal/bytealg.IndexByteString", "internal/bytealg.IndexString"], unfollowed := true, recurses := true, named := ["unicode/utf8.first", "unicode/utf8.acceptRanges", "internal/bytealg.MaxLen"], apart := false, laid := [("unicode/utf8.acceptRanges", laid_unicode_utf8_acceptRanges), ("unicode/utf8.first", laid_unicode_utf8_first)], narrowed := true }
def MendChecksUptoSaid : Prop := mendChecksUptoRow.holds Tryd.pinned (OpenSpec.upto mendChecksSpec)

/-- 'corncriblaw04.MendMakes', WHERE WHAT IT READS IS OF BULK AT MOST 1048576: true; the input reads as it did. -/
def mendMakesUptoRow : OpenClaim := { program := "ytegmmefijihdeaadoor", sum := "717abed4fa13f4285e2bf3b03b93683e4fa2e65f77e95964bd380783b6182322", func := "corncrib/corncriblaw04.MendMakes", spec := "mendMakes", inPlace := ["internal/abi.NoEscape", "internal/bytealg.MakeNoZero", "internal/bytealg.IndexByteString", "internal/bytealg.IndexString"], unfollowed := true, recurses := true, named := ["unicode/utf8.first", "unicode/utf8.acceptRanges", "internal/bytealg.MaxLen"], apart := false, laid := [("unicode/utf8.acceptRanges", laid_unicode_utf8_acceptRanges), ("unicode/utf8.first", laid_unicode_utf8_first)], narrowed := true }
def MendMakesUptoSaid : Prop := mendMakesUptoRow.holds Tryd.pinned (OpenSpec.upto mendMakesSpec)

/-- 'corncriblaw04.MendAny', WHERE WHAT IT READS IS OF BULK AT MOST 1048576: true; the input reads as it did. -/
def mendAnyUptoRow : OpenClaim := { program := "ytegmmefijihdeaadoor", sum := "717abed4fa13f4285e2bf3b03b93683e4fa2e65f77e95964bd380783b6182322", func := "corncrib/corncriblaw04.MendAny", spec := "mendAny", inPlace := ["internal/abi.NoEscape", "internal/bytealg.MakeNoZero", "internal/bytealg.IndexByteString", "internal/bytealg.IndexString"], unfollowed := true, recurses := true, named := ["unicode/utf8.first", "unicode/utf8.acceptRanges", "internal/bytealg.MaxLen"], apart := false, laid := [("unicode/utf8.acceptRanges", laid_unicode_utf8_acceptRanges), ("unicode/utf8.first", laid_unicode_utf8_first)], narrowed := true }
def MendAnyUptoSaid : Prop := mendAnyUptoRow.holds Tryd.pinned (OpenSpec.upto mendAnySpec)

/-- 'corncriblaw04.MendChanges', WHERE WHAT IT READS IS OF BULK AT MOST 1048576: true; the input reads as it did. -/
def mendChangesUptoRow : OpenClaim := { program := "ytegmmefijihdeaadoor", sum := "717abed4fa13f4285e2bf3b03b93683e4fa2e65f77e95964bd380783b6182322", func := "corncrib/corncriblaw04.MendChanges", spec := "mendChanges", inPlace := ["internal/abi.NoEscape", "internal/bytealg.MakeNoZero", "internal/bytealg.IndexByteString", "internal/bytealg.IndexString"], unfollowed := true, recurses := true, named := ["unicode/utf8.first", "unicode/utf8.acceptRanges", "internal/bytealg.MaxLen"], apart := false, laid := [("unicode/utf8.acceptRanges", laid_unicode_utf8_acceptRanges), ("unicode/utf8.first", laid_unicode_utf8_first)], narrowed := true }
def MendChangesUptoSaid : Prop := mendChangesUptoRow.holds Tryd.pinned (OpenSpec.upto mendChangesSpec)

/-- 'corncriblaw04.MendOnes', WHERE WHAT IT READS IS OF BULK AT MOST 1048576: true; the input reads as it did. -/
def mendOnesUptoRow : OpenClaim := { program := "ytegmmefijihdeaadoor", sum := "717abed4fa13f4285e2bf3b03b93683e4fa2e65f77e95964bd380783b6182322", func := "corncrib/corncriblaw04.MendOnes", spec := "mendOnes", inPlace := ["internal/abi.NoEscape", "internal/bytealg.MakeNoZero", "internal/bytealg.IndexByteString", "internal/bytealg.IndexString"], unfollowed := true, recurses := true, named := ["unicode/utf8.first", "unicode/utf8.acceptRanges", "internal/bytealg.MaxLen"], apart := false, laid := [("unicode/utf8.acceptRanges", laid_unicode_utf8_acceptRanges), ("unicode/utf8.first", laid_unicode_utf8_first)], narrowed := true }
def MendOnesUptoSaid : Prop := mendOnesUptoRow.holds Tryd.pinned (OpenSpec.upto mendOnesSpec)

end Rows
end Go.Proofs.YtegmmefijihdeaaDoor
