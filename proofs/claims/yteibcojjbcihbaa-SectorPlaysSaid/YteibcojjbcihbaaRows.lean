/-
  No cell of these rows narrows 'for every input' (looked for: loops, veiled, ifaces, maps, wideKeys, modest, calm, conditions, laid).
  DERIVED. THE GIVEN ROWS OF THIS SEAT. 6 by the template 'for every input the law returns true; each argument reads behind the call as it read before'; 0 by the template 'total and deterministic' (their statements: YteibcojjbcihbaaTotals.lean).
  GIVEN WITH THE SEED: the statements are not yours to turn. If you find one false, say at which input.
  Laid BY PROGRAM, IN A SANDBOX (cutbox-rows.mjs): the forced cells as the released guide's own fill.sh prints them over the translation 4d6a478bb62f1bf8… (all of the seat's roots in one cut). By AI agents, Wed Nov 11 2026. No macro, syntax, notation, axiom, sorry.
-/
import Derived.Test.YteibcojjbcihbaaChecked
import GoSem.Claim
import GoSem.ClaimJoined
import GoSem.ClaimMapViews
import Derived.JoinedTies
import Derived.KernelRfl
namespace Go.Proofs.Yteibcojjbcihbaa
/- THE CELL 'sum', in the pinned program and in every row, IS THE sha256 OF THE DUMP (.gsa) THAT YteibcojjbcihbaaProg.lean LOADS. Nothing in Lean hashes anything: it is a label: what it is worth is what the hold of that sum in a sandbox is worth. -/
noncomputable def Try.pinned : Pinned := { name := "yteibcojjbcihbaa", sum := "4d6a478bb62f1bf8743737ea73b6939ee2872a13bd422a54af447bef8add4f28", checked := Try.checked }
namespace Rows
def none {H : Type} : Left H := { results := [], args := [] }

/-- 'corncriblaw23.TxnReads': WHATEVER THE INPUT: true; the input reads as it did. -/
def txnReadsSpec : ChangeSpec := { name := "txnReads", fn := fun _ => fun
  | [d] => { results := [.lit (.bool true)], args := [d] }
  | _ => none }
def txnReadsRow : OpenClaim := { program := "yteibcojjbcihbaa", sum := "4d6a478bb62f1bf8743737ea73b6939ee2872a13bd422a54af447bef8add4f28", func := "corncrib/corncriblaw23.TxnReads", spec := "txnReads", unfollowed := true, recurses := true, apart := false }
def TxnReadsSaid : Prop := txnReadsRow.holds Try.pinned (OpenSpec.ofChange txnReadsSpec)

/-- ITS FALSE NEIGHBOUR: 'it returns false'. Refute it at one input. -/
def txnReadsWrong : ChangeSpec := { name := "txnReads", fn := fun _ => fun
  | [d] => { results := [.lit (.bool false)], args := [d] }
  | _ => none }
def TxnReadsWrongFalsely : Prop := txnReadsRow.holds Try.pinned (OpenSpec.ofChange txnReadsWrong)

/-- 'corncriblaw23.TxnPlays': WHATEVER THE INPUT: true; the input reads as it did. -/
def txnPlaysSpec : ChangeSpec := { name := "txnPlays", fn := fun _ => fun
  | [d1, d2] => { results := [.lit (.bool true)], args := [d1, d2] }
  | _ => none }
def txnPlaysRow : OpenClaim := { program := "yteibcojjbcihbaa", sum := "4d6a478bb62f1bf8743737ea73b6939ee2872a13bd422a54af447bef8add4f28", func := "corncrib/corncriblaw23.TxnPlays", spec := "txnPlays", unfollowed := true, recurses := true, apart := false }
def TxnPlaysSaid : Prop := txnPlaysRow.holds Try.pinned (OpenSpec.ofChange txnPlaysSpec)

/-- ITS FALSE NEIGHBOUR: 'it returns false'. Refute it at one input. -/
def txnPlaysWrong : ChangeSpec := { name := "txnPlays", fn := fun _ => fun
  | [d1, d2] => { results := [.lit (.bool false)], args := [d1, d2] }
  | _ => none }
def TxnPlaysWrongFalsely : Prop := txnPlaysRow.holds Try.pinned (OpenSpec.ofChange txnPlaysWrong)

/-- 'corncriblaw09.SectorFlushed': WHATEVER THE INPUT: true; the input reads as it did. -/
def sectorFlushedSpec : ChangeSpec := { name := "sectorFlushed", fn := fun _ => fun
  | [d1, d2] => { results := [.lit (.bool true)], args := [d1, d2] }
  | _ => none }
def sectorFlushedRow : OpenClaim := { program := "yteibcojjbcihbaa", sum := "4d6a478bb62f1bf8743737ea73b6939ee2872a13bd422a54af447bef8add4f28", func := "corncrib/corncriblaw09.SectorFlushed", spec := "sectorFlushed", inPlace := ["internal/abi.NoEscape", "internal/bytealg.MakeNoZero"], unfollowed := true, recurses := true, apart := false }
def SectorFlushedSaid : Prop := sectorFlushedRow.holds Try.pinned (OpenSpec.ofChange sectorFlushedSpec)

/-- ITS FALSE NEIGHBOUR: 'it returns false'. Refute it at one input. -/
def sectorFlushedWrong : ChangeSpec := { name := "sectorFlushed", fn := fun _ => fun
  | [d1, d2] => { results := [.lit (.bool false)], args := [d1, d2] }
  | _ => none }
def SectorFlushedWrongFalsely : Prop := sectorFlushedRow.holds Try.pinned (OpenSpec.ofChange sectorFlushedWrong)

/-- 'corncriblaw09.SectorTears': WHATEVER THE INPUT: true; the input reads as it did. -/
def sectorTearsSpec : ChangeSpec := { name := "sectorTears", fn := fun _ => fun
  | [d1, d2, d3] => { results := [.lit (.bool true)], args := [d1, d2, d3] }
  | _ => none }
def sectorTearsRow : OpenClaim := { program := "yteibcojjbcihbaa", sum := "4d6a478bb62f1bf8743737ea73b6939ee2872a13bd422a54af447bef8add4f28", func := "corncrib/corncriblaw09.SectorTears", spec := "sectorTears", inPlace := ["internal/abi.NoEscape", "internal/bytealg.MakeNoZero"], unfollowed := true, recurses := true, apart := false }
def SectorTearsSaid : Prop := sectorTearsRow.holds Try.pinned (OpenSpec.ofChange sectorTearsSpec)

/-- ITS FALSE NEIGHBOUR: 'it returns false'. Refute it at one input. -/
def sectorTearsWrong : ChangeSpec := { name := "sectorTears", fn := fun _ => fun
  | [d1, d2, d3] => { results := [.lit (.bool false)], args := [d1, d2, d3] }
  | _ => none }
def SectorTearsWrongFalsely : Prop := sectorTearsRow.holds Try.pinned (OpenSpec.ofChange sectorTearsWrong)

/-- 'corncriblaw09.SectorPlays': WHATEVER THE INPUT: true; the input reads as it did. -/
def sectorPlaysSpec : ChangeSpec := { name := "sectorPlays", fn := fun _ => fun
  | [d1, d2] => { results := [.lit (.bool true)], args := [d1, d2] }
  | _ => none }
def sectorPlaysRow : OpenClaim := { program := "yteibcojjbcihbaa", sum := "4d6a478bb62f1bf8743737ea73b6939ee2872a13bd422a54af447bef8add4f28", func := "corncrib/corncriblaw09.SectorPlays", spec := "sectorPlays", inPlace := ["internal/abi.NoEscape", "internal/bytealg.MakeNoZero"], unfollowed := true, recurses := true, apart := false }
def SectorPlaysSaid : Prop := sectorPlaysRow.holds Try.pinned (OpenSpec.ofChange sectorPlaysSpec)

/-- ITS FALSE NEIGHBOUR: 'it returns false'. Refute it at one input. -/
def sectorPlaysWrong : ChangeSpec := { name := "sectorPlays", fn := fun _ => fun
  | [d1, d2] => { results := [.lit (.bool false)], args := [d1, d2] }
  | _ => none }
def SectorPlaysWrongFalsely : Prop := sectorPlaysRow.holds Try.pinned (OpenSpec.ofChange sectorPlaysWrong)

/-- 'corncriblaw09.SectorFuses': WHATEVER THE INPUT: true; the input reads as it did. -/
def sectorFusesSpec : ChangeSpec := { name := "sectorFuses", fn := fun _ => fun
  | [d1, d2, d3] => { results := [.lit (.bool true)], args := [d1, d2, d3] }
  | _ => none }
def sectorFusesRow : OpenClaim := { program := "yteibcojjbcihbaa", sum := "4d6a478bb62f1bf8743737ea73b6939ee2872a13bd422a54af447bef8add4f28", func := "corncrib/corncriblaw09.SectorFuses", spec := "sectorFuses", inPlace := ["internal/abi.NoEscape", "internal/bytealg.MakeNoZero"], unfollowed := true, recurses := true, apart := false }
def SectorFusesSaid : Prop := sectorFusesRow.holds Try.pinned (OpenSpec.ofChange sectorFusesSpec)

/-- ITS FALSE NEIGHBOUR: 'it returns false'. Refute it at one input. -/
def sectorFusesWrong : ChangeSpec := { name := "sectorFuses", fn := fun _ => fun
  | [d1, d2, d3] => { results := [.lit (.bool false)], args := [d1, d2, d3] }
  | _ => none }
def SectorFusesWrongFalsely : Prop := sectorFusesRow.holds Try.pinned (OpenSpec.ofChange sectorFusesWrong)

/- THE SECOND FORM. 'bulk': how many values and letters a reading holds, each counted each time it is reached (what is shared counts as often as it is met; a slice's spare places count too). A statement '..UptoSaid' is the law's where the arguments, and the package variables that the reading takes, are together of bulk at most 1048576: NARROWER than '..Said'. Prove '..Said' where nothing that the law and all that it calls make is longer than what came in: it says more and counts as full. Else prove '..UptoSaid'. A law counts once. -/
mutual
def uptoBulk {H : Type} : DataW H → Nat
  | .lit (.string bytes) => bytes.length + 1
  | .lit _ => 1
  | .nil => 1
  | .ptr d => uptoBulk d + 1
  | .slice elems spare => uptoBulkAll elems + uptoBulkAll spare + 1
  | .agg parts => uptoBulkAll parts + 1
  | .iface _ d => uptoBulk d + 1
  | .map entries => uptoBulkEntries entries + 1
  | .held _ => 1
def uptoBulkAll {H : Type} : List (DataW H) → Nat
  | [] => 0
  | d :: r => uptoBulk d + uptoBulkAll r
def uptoBulkEntries {H : Type} : List (Lit × DataW H) → Nat
  | [] => 0
  | x :: r => uptoBulkEntry x + uptoBulkEntries r
def uptoBulkEntry {H : Type} : Lit × DataW H → Nat
  | (.string bytes, d) => bytes.length + uptoBulk d + 1
  | (_, d) => uptoBulk d + 1
 end
def uptoSmall : (H : Type) → List (DataW H) → Bool := fun _ ds => decide (uptoBulkAll ds ≤ 1048576)
def OpenSpec.upto (s : _root_.Go.ChangeSpec) : _root_.Go.OpenSpec := { _root_.Go.OpenSpec.ofChange s with cond := some uptoSmall }

/-- 'corncriblaw23.TxnReads', WHERE WHAT IT READS IS OF BULK AT MOST 1048576: true; the input reads as it did. -/
def txnReadsUptoRow : OpenClaim := { program := "yteibcojjbcihbaa", sum := "4d6a478bb62f1bf8743737ea73b6939ee2872a13bd422a54af447bef8add4f28", func := "corncrib/corncriblaw23.TxnReads", spec := "txnReads", unfollowed := true, recurses := true, apart := false, narrowed := true }
def TxnReadsUptoSaid : Prop := txnReadsUptoRow.holds Try.pinned (OpenSpec.upto txnReadsSpec)

/-- 'corncriblaw23.TxnPlays', WHERE WHAT IT READS IS OF BULK AT MOST 1048576: true; the input reads as it did. -/
def txnPlaysUptoRow : OpenClaim := { program := "yteibcojjbcihbaa", sum := "4d6a478bb62f1bf8743737ea73b6939ee2872a13bd422a54af447bef8add4f28", func := "corncrib/corncriblaw23.TxnPlays", spec := "txnPlays", unfollowed := true, recurses := true, apart := false, narrowed := true }
def TxnPlaysUptoSaid : Prop := txnPlaysUptoRow.holds Try.pinned (OpenSpec.upto txnPlaysSpec)

/-- 'corncriblaw09.SectorFlushed', WHERE WHAT IT READS IS OF BULK AT MOST 1048576: true; the input reads as it did. -/
def sectorFlushedUptoRow : OpenClaim := { program := "yteibcojjbcihbaa", sum := "4d6a478bb62f1bf8743737ea73b6939ee2872a13bd422a54af447bef8add4f28", func := "corncrib/corncriblaw09.SectorFlushed", spec := "sectorFlushed", inPlace := ["internal/abi.NoEscape", "internal/bytealg.MakeNoZero"], unfollowed := true, recurses := true, apart := false, narrowed := true }
def SectorFlushedUptoSaid : Prop := sectorFlushedUptoRow.holds Try.pinned (OpenSpec.upto sectorFlushedSpec)

/-- 'corncriblaw09.SectorTears', WHERE WHAT IT READS IS OF BULK AT MOST 1048576: true; the input reads as it did. -/
def sectorTearsUptoRow : OpenClaim := { program := "yteibcojjbcihbaa", sum := "4d6a478bb62f1bf8743737ea73b6939ee2872a13bd422a54af447bef8add4f28", func := "corncrib/corncriblaw09.SectorTears", spec := "sectorTears", inPlace := ["internal/abi.NoEscape", "internal/bytealg.MakeNoZero"], unfollowed := true, recurses := true, apart := false, narrowed := true }
def SectorTearsUptoSaid : Prop := sectorTearsUptoRow.holds Try.pinned (OpenSpec.upto sectorTearsSpec)

/-- 'corncriblaw09.SectorPlays', WHERE WHAT IT READS IS OF BULK AT MOST 1048576: true; the input reads as it did. -/
def sectorPlaysUptoRow : OpenClaim := { program := "yteibcojjbcihbaa", sum := "4d6a478bb62f1bf8743737ea73b6939ee2872a13bd422a54af447bef8add4f28", func := "corncrib/corncriblaw09.SectorPlays", spec := "sectorPlays", inPlace := ["internal/abi.NoEscape", "internal/bytealg.MakeNoZero"], unfollowed := true, recurses := true, apart := false, narrowed := true }
def SectorPlaysUptoSaid : Prop := sectorPlaysUptoRow.holds Try.pinned (OpenSpec.upto sectorPlaysSpec)

/-- 'corncriblaw09.SectorFuses', WHERE WHAT IT READS IS OF BULK AT MOST 1048576: true; the input reads as it did. -/
def sectorFusesUptoRow : OpenClaim := { program := "yteibcojjbcihbaa", sum := "4d6a478bb62f1bf8743737ea73b6939ee2872a13bd422a54af447bef8add4f28", func := "corncrib/corncriblaw09.SectorFuses", spec := "sectorFuses", inPlace := ["internal/abi.NoEscape", "internal/bytealg.MakeNoZero"], unfollowed := true, recurses := true, apart := false, narrowed := true }
def SectorFusesUptoSaid : Prop := sectorFusesUptoRow.holds Try.pinned (OpenSpec.upto sectorFusesSpec)

end Rows
end Go.Proofs.Yteibcojjbcihbaa
