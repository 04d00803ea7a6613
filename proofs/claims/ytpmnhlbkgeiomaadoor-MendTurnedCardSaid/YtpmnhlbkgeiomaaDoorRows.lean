/-
  NARROWER THAN 'FOR EVERY INPUT', by the rows' own cells (each row's printed sentence says how): MendTurned: laid · GatherAny: laid · GatherNone: laid · GatherGone: laid · GatherTurned: laid · GatherAsks: laid.
  DERIVED. THE GIVEN ROWS OF THIS SEAT. 6 by the template 'for every input the law returns true; each argument reads behind the call as it read before'; 0 by the template 'total and deterministic' (their statements: YtpmnhlbkgeiomaaDoorTotals.lean).
  GIVEN WITH THE SEED: the statements are not yours to turn. If you find one false, say at which input.
  Laid BY PROGRAM, IN A SANDBOX (cutbox-rows.mjs): the forced cells as the released guide's own fill.sh prints them over the translation d85b3d047d6cc1db… (all of the seat's roots in one cut). By AI agents, Wed Nov 11 2026. No macro, syntax, notation, axiom, sorry.
-/
import Derived.Test.YtpmnhlbkgeiomaaDoorChecked
import GoSem.PinnedTables
import GoSem.Claim
import GoSem.ClaimJoined
import GoSem.ClaimMapViews
import Derived.JoinedTies
import Derived.KernelRfl
namespace Go.Proofs.YtpmnhlbkgeiomaaDoor
/- THE CELL 'sum', in the pinned program and in every row, IS THE sha256 OF THE DUMP (.gsa) THAT YtpmnhlbkgeiomaaDoorProg.lean LOADS. Nothing in Lean hashes anything: it is a label: what it is worth is what the hold of that sum in a sandbox is worth. -/
noncomputable def Tryd.pinned : Pinned := { name := "ytpmnhlbkgeiomaadoor", sum := "d85b3d047d6cc1dbe39f587f8efc635249e0314c227d857c2401feb064ab0360", checked := Tryd.checked }
namespace Rows
def none {H : Type} : Left H := { results := [], args := [] }

/- WHAT THE LISTED PACKAGE-LEVEL VARIABLES READ AS WHEN THE CALL BEGINS. Each datum BY PROGRAM (the guide's laid-datum.mjs) off the statement by which the dump's own 'gosem.cut.vars' lays the variable. In a bare row this is a premise. The card (YtpmnhlbkgeiomaaDoorCards.lean) ties it to the program's text. -/
def laid_unicode_utf8_acceptRanges {H : Type} : DataW H := .agg [.agg [.lit (.int .u8 128), .lit (.int .u8 191)], .agg [.lit (.int .u8 160), .lit (.int .u8 191)], .agg [.lit (.int .u8 128), .lit (.int .u8 159)], .agg [.lit (.int .u8 144), .lit (.int .u8 191)], .agg [.lit (.int .u8 128), .lit (.int .u8 143)], .agg [.lit (.int .u8 0), .lit (.int .u8 0)], .agg [.lit (.int .u8 0), .lit (.int .u8 0)], .agg [.lit (.int .u8 0), .lit (.int .u8 0)], .agg [.lit (.int .u8 0), .lit (.int .u8 0)], .agg [.lit (.int .u8 0), .lit (.int .u8 0)], .agg [.lit (.int .u8 0), .lit (.int .u8 0)], .agg [.lit (.int .u8 0), .lit (.int .u8 0)], .agg [.lit (.int .u8 0), .lit (.int .u8 0)], .agg [.lit (.int .u8 0), .lit (.int .u8 0)], .agg [.lit (.int .u8 0), .lit (.int .u8 0)], .agg [.lit (.int .u8 0), .lit (.int .u8 0)]]
/-- One of Go's own tables, pinned by name: the form's constant. -/
def laid_unicode_utf8_first : DataW Unit := Go.Pinned.utf8First

/-- 'corncriblaw04.MendTurned': WHATEVER THE INPUT: true; the input reads as it did. -/
def mendTurnedSpec : ChangeSpec := { name := "mendTurned", fn := fun _ => fun
  | [d1, d2, d3] => { results := [.lit (.bool true)], args := [d1, d2, d3] }
  | _ => none }
def mendTurnedRow : OpenClaim := { program := "ytpmnhlbkgeiomaadoor", sum := "d85b3d047d6cc1dbe39f587f8efc635249e0314c227d857c2401feb064ab0360", func := "corncrib/corncriblaw04.MendTurned", spec := "mendTurned", inPlace := ["internal/abi.NoEscape", "internal/bytealg.MakeNoZero", "internal/bytealg.IndexByteString", "internal/bytealg.IndexString"], unfollowed := true, recurses := true, named := ["unicode/utf8.first", "unicode/utf8.acceptRanges", "internal/bytealg.MaxLen"], apart := false, laid := [("unicode/utf8.acceptRanges", laid_unicode_utf8_acceptRanges), ("unicode/utf8.first", laid_unicode_utf8_first)] }
def MendTurnedSaid : Prop := mendTurnedRow.holds Tryd.pinned (OpenSpec.ofChange mendTurnedSpec)

/-- ITS FALSE NEIGHBOUR: 'it returns false'. Refute it at one input. -/
def mendTurnedWrong : ChangeSpec := { name := "mendTurned", fn := fun _ => fun
  | [d1, d2, d3] => { results := [.lit (.bool false)], args := [d1, d2, d3] }
  | _ => none }
def MendTurnedWrongFalsely : Prop := mendTurnedRow.holds Tryd.pinned (OpenSpec.ofChange mendTurnedWrong)

/-- 'corncriblaw22.GatherAny': WHATEVER THE INPUT: true; the input reads as it did. -/
def gatherAnySpec : ChangeSpec := { name := "gatherAny", fn := fun _ => fun
  | [d1, d2, d3] => { results := [.lit (.bool true)], args := [d1, d2, d3] }
  | _ => none }
def gatherAnyRow : OpenClaim := { program := "ytpmnhlbkgeiomaadoor", sum := "d85b3d047d6cc1dbe39f587f8efc635249e0314c227d857c2401feb064ab0360", func := "corncrib/corncriblaw22.GatherAny", spec := "gatherAny", inPlace := ["internal/abi.NoEscape", "internal/bytealg.MakeNoZero", "internal/bytealg.IndexByteString", "internal/bytealg.IndexString"], unfollowed := true, recurses := true, named := ["unicode/utf8.first", "unicode/utf8.acceptRanges", "internal/bytealg.MaxLen"], apart := false, laid := [("unicode/utf8.acceptRanges", laid_unicode_utf8_acceptRanges), ("unicode/utf8.first", laid_unicode_utf8_first)] }
def GatherAnySaid : Prop := gatherAnyRow.holds Tryd.pinned (OpenSpec.ofChange gatherAnySpec)

/-- ITS FALSE NEIGHBOUR: 'it returns false'. Refute it at one input. -/
def gatherAnyWrong : ChangeSpec := { name := "gatherAny", fn := fun _ => fun
  | [d1, d2, d3] => { results := [.lit (.bool false)], args := [d1, d2, d3] }
  | _ => none }
def GatherAnyWrongFalsely : Prop := gatherAnyRow.holds Tryd.pinned (OpenSpec.ofChange gatherAnyWrong)

/-- 'corncriblaw22.GatherNone': WHATEVER THE INPUT: true; the input reads as it did. -/
def gatherNoneSpec : ChangeSpec := { name := "gatherNone", fn := fun _ => fun
  | [d1, d2, d3] => { results := [.lit (.bool true)], args := [d1, d2, d3] }
  | _ => none }
def gatherNoneRow : OpenClaim := { program := "ytpmnhlbkgeiomaadoor", sum := "d85b3d047d6cc1dbe39f587f8efc635249e0314c227d857c2401feb064ab0360", func := "corncrib/corncriblaw22.GatherNone", spec := "gatherNone", inPlace := ["internal/abi.NoEscape", "internal/bytealg.MakeNoZero", "internal/bytealg.IndexByteString", "internal/bytealg.IndexString"], unfollowed := true, recurses := true, named := ["unicode/utf8.first", "unicode/utf8.acceptRanges", "internal/bytealg.MaxLen"], apart := false, laid := [("unicode/utf8.acceptRanges", laid_unicode_utf8_acceptRanges), ("unicode/utf8.first", laid_unicode_utf8_first)] }
def GatherNoneSaid : Prop := gatherNoneRow.holds Tryd.pinned (OpenSpec.ofChange gatherNoneSpec)

/-- ITS FALSE NEIGHBOUR: 'it returns false'. Refute it at one input. -/
def gatherNoneWrong : ChangeSpec := { name := "gatherNone", fn := fun _ => fun
  | [d1, d2, d3] => { results := [.lit (.bool false)], args := [d1, d2, d3] }
  | _ => none }
def GatherNoneWrongFalsely : Prop := gatherNoneRow.holds Tryd.pinned (OpenSpec.ofChange gatherNoneWrong)

/-- 'corncriblaw22.GatherGone': WHATEVER THE INPUT: true; the input reads as it did. -/
def gatherGoneSpec : ChangeSpec := { name := "gatherGone", fn := fun _ => fun
  | [d1, d2, d3] => { results := [.lit (.bool true)], args := [d1, d2, d3] }
  | _ => none }
def gatherGoneRow : OpenClaim := { program := "ytpmnhlbkgeiomaadoor", sum := "d85b3d047d6cc1dbe39f587f8efc635249e0314c227d857c2401feb064ab0360", func := "corncrib/corncriblaw22.GatherGone", spec := "gatherGone", inPlace := ["internal/abi.NoEscape", "internal/bytealg.MakeNoZero", "internal/bytealg.IndexByteString", "internal/bytealg.IndexString"], unfollowed := true, recurses := true, named := ["unicode/utf8.first", "unicode/utf8.acceptRanges", "internal/bytealg.MaxLen"], apart := false, laid := [("unicode/utf8.acceptRanges", laid_unicode_utf8_acceptRanges), ("unicode/utf8.first", laid_unicode_utf8_first)] }
def GatherGoneSaid : Prop := gatherGoneRow.holds Tryd.pinned (OpenSpec.ofChange gatherGoneSpec)

/-- ITS FALSE NEIGHBOUR: 'it returns false'. Refute it at one input. -/
def gatherGoneWrong : ChangeSpec := { name := "gatherGone", fn := fun _ => fun
  | [d1, d2, d3] => { results := [.lit (.bool false)], args := [d1, d2, d3] }
  | _ => none }
def GatherGoneWrongFalsely : Prop := gatherGoneRow.holds Tryd.pinned (OpenSpec.ofChange gatherGoneWrong)

/-- 'corncriblaw22.GatherTurned': WHATEVER THE INPUT: true; the input reads as it did. -/
def gatherTurnedSpec : ChangeSpec := { name := "gatherTurned", fn := fun _ => fun
  | [d1, d2, d3] => { results := [.lit (.bool true)], args := [d1, d2, d3] }
  | _ => none }
def gatherTurnedRow : OpenClaim := { program := "ytpmnhlbkgeiomaadoor", sum := "d85b3d047d6cc1dbe39f587f8efc635249e0314c227d857c2401feb064ab0360", func := "corncrib/corncriblaw22.GatherTurned", spec := "gatherTurned", inPlace := ["internal/abi.NoEscape", "internal/bytealg.MakeNoZero", "internal/bytealg.IndexByteString", "internal/bytealg.IndexString"], unfollowed := true, recurses := true, named := ["unicode/utf8.first", "unicode/utf8.acceptRanges", "internal/bytealg.MaxLen"], apart := false, laid := [("unicode/utf8.acceptRanges", laid_unicode_utf8_acceptRanges), ("unicode/utf8.first", laid_unicode_utf8_first)] }
def GatherTurnedSaid : Prop := gatherTurnedRow.holds Tryd.pinned (OpenSpec.ofChange gatherTurnedSpec)

/-- ITS FALSE NEIGHBOUR: 'it returns false'. Refute it at one input. -/
def gatherTurnedWrong : ChangeSpec := { name := "gatherTurned", fn := fun _ => fun
  | [d1, d2, d3] => { results := [.lit (.bool false)], args := [d1, d2, d3] }
  | _ => none }
def GatherTurnedWrongFalsely : Prop := gatherTurnedRow.holds Tryd.pinned (OpenSpec.ofChange gatherTurnedWrong)

/-- 'corncriblaw22.GatherAsks': WHATEVER THE INPUT: true; the input reads as it did. -/
def gatherAsksSpec : ChangeSpec := { name := "gatherAsks", fn := fun _ => fun
  | [d1, d2, d3] => { results := [.lit (.bool true)], args := [d1, d2, d3] }
  | _ => none }
def gatherAsksRow : OpenClaim := { program := "ytpmnhlbkgeiomaadoor", sum := "d85b3d047d6cc1dbe39f587f8efc635249e0314c227d857c2401feb064ab0360", func := "corncrib/corncriblaw22.GatherAsks", spec := "gatherAsks", inPlace := ["internal/abi.NoEscape", "internal/bytealg.MakeNoZero", "internal/bytealg.IndexByteString", "internal/bytealg.IndexString"], unfollowed := true, recurses := true, named := ["unicode/utf8.first", "unicode/utf8.acceptRanges", "internal/bytealg.MaxLen"], apart := false, laid := [("unicode/utf8.acceptRanges", laid_unicode_utf8_acceptRanges), ("unicode/utf8.first", laid_unicode_utf8_first)] }
def GatherAsksSaid : Prop := gatherAsksRow.holds Tryd.pinned (OpenSpec.ofChange gatherAsksSpec)

/-- ITS FALSE NEIGHBOUR: 'it returns false'. Refute it at one input. -/
def gatherAsksWrong : ChangeSpec := { name := "gatherAsks", fn := fun _ => fun
  | [d1, d2, d3] => { results := [.lit (.bool false)], args := [d1, d2, d3] }
  | _ => none }
def GatherAsksWrongFalsely : Prop := gatherAsksRow.holds Tryd.pinned (OpenSpec.ofChange gatherAsksWrong)

/- THE SECOND FORM. 'bulk': how many values and letters a reading holds, each counted each time it is reached (what is shared counts as often as it is met; a slice's spare places count too). A statement '..UptoSaid' is the law's where the arguments, and the package variables that the reading takes, are together of bulk at most 1048576: NARROWER than '..Said'. Prove '..Said' where nothing that the law and all that it calls make is longer than what came in: it says more and counts as full. Else prove '..UptoSaid'. A law counts once. -/
mutual
def uptoBulk {H : Type} : DataW H → Nat
  | .lit (.string bytes) => bytes.length + 1
  | .lit _ => 1
  | .nil => 1
  | .ptr d => uptoBulk d + 1
  | .slice elems spare => uptoBulkAll elems + uptoBulkAll spare + 1
  | .agg parts => uptoBulkAll parts + 1
  | .iface _ d => uptoBulk d + 1
  | .map entries => uptoBulkEntries entries + 1
  | .held _ => 1
def uptoBulkAll {H : Type} : List (DataW H) → Nat
  | [] => 0
  | d :: r => uptoBulk d + uptoBulkAll r
def uptoBulkEntries {H : Type} : List (Lit × DataW H) → Nat
  | [] => 0
  | x :: r => uptoBulkEntry x + uptoBulkEntries r
def uptoBulkEntry {H : Type} : Lit × DataW H → Nat
  | (.string bytes, d) => bytes.length + uptoBulk d + 1
  | (_, d) => uptoBulk d + 1
 end
def uptoSmall : (H : Type) → List (DataW H) → Bool := fun _ ds => decide (uptoBulkAll ds ≤ 1048576)
def OpenSpec.upto (s : _root_.Go.ChangeSpec) : _root_.Go.OpenSpec := { _root_.Go.OpenSpec.ofChange s with cond := some uptoSmall }

/-- 'corncriblaw04.MendTurned', WHERE WHAT IT READS IS OF BULK AT MOST 1048576: true; the input reads as it did. -/
def mendTurnedUptoRow : OpenClaim := { program := "ytpmnhlbkgeiomaadoor", sum := "d85b3d047d6cc1dbe39f587f8efc635249e0314c227d857c2401feb064ab0360", func := "corncrib/corncriblaw04.MendTurned", spec := "mendTurned", inPlace := ["internal/abi.NoEscape", "internal/bytealg.MakeNoZero", "internal/bytealg.IndexByteString", "internal/bytealg.IndexString"], unfollowed := true, recurses := true, named := ["unicode/utf8.first", "unicode/utf8.acceptRanges", "internal/bytealg.MaxLen"], apart := false, laid := [("unicode/utf8.acceptRanges", laid_unicode_utf8_acceptRanges), ("unicode/utf8.first", laid_unicode_utf8_first)], narrowed := true }
def MendTurnedUptoSaid : Prop := mendTurnedUptoRow.holds Tryd.pinned (OpenSpec.upto mendTurnedSpec)

/-- 'corncriblaw22.GatherAny', WHERE WHAT IT READS IS OF BULK AT MOST 1048576: true; the input reads as it did. -/
def gatherAnyUptoRow : OpenClaim := { program := "ytpmnhlbkgeiomaadoor", sum := "d85b3d047d6cc1dbe39f587f8efc635249e0314c227d857c2401feb064ab0360", func := "corncrib/corncriblaw22.GatherAny", spec := "gatherAny", inPlace := ["internal/abi.NoEscape", "internal/bytealg.MakeNoZero", "internal/bytealg.IndexByteString", "internal/bytealg.IndexString"], unfollowed := true, recurses := true, named := ["unicode/utf8.first", "unicode/utf8.acceptRanges", "internal/bytealg.MaxLen"], apart := false, laid := [("unicode/utf8.acceptRanges", laid_unicode_utf8_acceptRanges), ("unicode/utf8.first", laid_unicode_utf8_first)], narrowed := true }
def GatherAnyUptoSaid : Prop := gatherAnyUptoRow.holds Tryd.pinned (OpenSpec.upto gatherAnySpec)

/-- 'corncriblaw22.GatherNone', WHERE WHAT IT READS IS OF BULK AT MOST 1048576: true; the input reads as it did. -/
def gatherNoneUptoRow : OpenClaim := { program := "ytpmnhlbkgeiomaadoor", sum := "d85b3d047d6cc1dbe39f587f8efc635249e0314c227d857c2401feb064ab0360", func := "corncrib/corncriblaw22.GatherNone", spec := "gatherNone", inPlace := ["internal/abi.NoEscape", "internal/bytealg.MakeNoZero", "internal/bytealg.IndexByteString", "internal/bytealg.IndexString"], unfollowed := true, recurses := true, named := ["unicode/utf8.first", "unicode/utf8.acceptRanges", "internal/bytealg.MaxLen"], apart := false, laid := [("unicode/utf8.acceptRanges", laid_unicode_utf8_acceptRanges), ("unicode/utf8.first", laid_unicode_utf8_first)], narrowed := true }
def GatherNoneUptoSaid : Prop := gatherNoneUptoRow.holds Tryd.pinned (OpenSpec.upto gatherNoneSpec)

/-- 'corncriblaw22.GatherGone', WHERE WHAT IT READS IS OF BULK AT MOST 1048576: true; the input reads as it did. -/
def gatherGoneUptoRow : OpenClaim := { program := "ytpmnhlbkgeiomaadoor", sum := "d85b3d047d6cc1dbe39f587f8efc635249e0314c227d857c2401feb064ab0360", func := "corncrib/corncriblaw22.GatherGone", spec := "gatherGone", inPlace := ["internal/abi.NoEscape", "internal/bytealg.MakeNoZero", "internal/bytealg.IndexByteString", "internal/bytealg.IndexString"], unfollowed := true, recurses := true, named := ["unicode/utf8.first", "unicode/utf8.acceptRanges", "internal/bytealg.MaxLen"], apart := false, laid := [("unicode/utf8.acceptRanges", laid_unicode_utf8_acceptRanges), ("unicode/utf8.first", laid_unicode_utf8_first)], narrowed := true }
def GatherGoneUptoSaid : Prop := gatherGoneUptoRow.holds Tryd.pinned (OpenSpec.upto gatherGoneSpec)

/-- 'corncriblaw22.GatherTurned', WHERE WHAT IT READS IS OF BULK AT MOST 1048576: true; the input reads as it did. -/
def gatherTurnedUptoRow : OpenClaim := { program := "ytpmnhlbkgeiomaadoor", sum := "d85b3d047d6cc1dbe39f587f8efc635249e0314c227d857c2401feb064ab0360", func := "corncrib/corncriblaw22.GatherTurned", spec := "gatherTurned", inPlace := ["internal/abi.NoEscape", "internal/bytealg.MakeNoZero", "internal/bytealg.IndexByteString", "internal/bytealg.IndexString"], unfollowed := true, recurses := true, named := ["unicode/utf8.first", "unicode/utf8.acceptRanges", "internal/bytealg.MaxLen"], apart := false, laid := [("unicode/utf8.acceptRanges", laid_unicode_utf8_acceptRanges), ("unicode/utf8.first", laid_unicode_utf8_first)], narrowed := true }
def GatherTurnedUptoSaid : Prop := gatherTurnedUptoRow.holds Tryd.pinned (OpenSpec.upto gatherTurnedSpec)

/-- 'corncriblaw22.GatherAsks', WHERE WHAT IT READS IS OF BULK AT MOST 1048576: true; the input reads as it did. -/
def gatherAsksUptoRow : OpenClaim := { program := "ytpmnhlbkgeiomaadoor", sum := "d85b3d047d6cc1dbe39f587f8efc635249e0314c227d857c2401feb064ab0360", func := "corncrib/corncriblaw22.GatherAsks", spec := "gatherAsks", inPlace := ["internal/abi.NoEscape", "internal/bytealg.MakeNoZero", "internal/bytealg.IndexByteString", "internal/bytealg.IndexString"], unfollowed := true, recurses := true, named := ["unicode/utf8.first", "unicode/utf8.acceptRanges", "internal/bytealg.MaxLen"], apart := false, laid := [("unicode/utf8.acceptRanges", laid_unicode_utf8_acceptRanges), ("unicode/utf8.first", laid_unicode_utf8_first)], narrowed := true }
def GatherAsksUptoSaid : Prop := gatherAsksUptoRow.holds Tryd.pinned (OpenSpec.upto gatherAsksSpec)

end Rows
end Go.Proofs.YtpmnhlbkgeiomaaDoor
