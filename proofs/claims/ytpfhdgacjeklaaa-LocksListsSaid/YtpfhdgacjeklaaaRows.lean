/-
  No cell of these rows narrows 'for every input' (looked for: loops, veiled, ifaces, maps, wideKeys, modest, calm, conditions, laid).
  DERIVED. THE GIVEN ROWS OF THIS SEAT. 8 by the template 'for every input the law returns true; each argument reads behind the call as it read before'; 0 by the template 'total and deterministic' (their statements: YtpfhdgacjeklaaaTotals.lean).
  GIVEN WITH THE SEED: the statements are not yours to turn. If you find one false, say at which input.
  Laid BY PROGRAM, IN A SANDBOX (cutbox-rows.mjs): the forced cells as the released guide's own fill.sh prints them over the translation c255a5c04f9296cf… (all of the seat's roots in one cut). By AI agents, Wed Nov 11 2026. No macro, syntax, notation, axiom, sorry.
-/
import Derived.Test.YtpfhdgacjeklaaaChecked
import GoSem.Claim
import GoSem.ClaimJoined
import GoSem.ClaimMapViews
import Derived.JoinedTies
import Derived.KernelRfl
namespace Go.Proofs.Ytpfhdgacjeklaaa
/- THE CELL 'sum', in the pinned program and in every row, IS THE sha256 OF THE DUMP (.gsa) THAT YtpfhdgacjeklaaaProg.lean LOADS. Nothing in Lean hashes anything: it is a label: what it is worth is what the hold of that sum in a sandbox is worth. -/
noncomputable def Try.pinned : Pinned := { name := "ytpfhdgacjeklaaa", sum := "c255a5c04f9296cf9c0e3d9df4f82b392d9629c481e4a34f2b44f661c146587a", checked := Try.checked }
namespace Rows
def none {H : Type} : Left H := { results := [], args := [] }

/-- 'corncriblaw18.LocksTurns': WHATEVER THE INPUT: true; the input reads as it did. -/
def locksTurnsSpec : ChangeSpec := { name := "locksTurns", fn := fun _ => fun
  | [d1, d2] => { results := [.lit (.bool true)], args := [d1, d2] }
  | _ => none }
def locksTurnsRow : OpenClaim := { program := "ytpfhdgacjeklaaa", sum := "c255a5c04f9296cf9c0e3d9df4f82b392d9629c481e4a34f2b44f661c146587a", func := "corncrib/corncriblaw18.LocksTurns", spec := "locksTurns", unfollowed := true, recurses := true, apart := false }
def LocksTurnsSaid : Prop := locksTurnsRow.holds Try.pinned (OpenSpec.ofChange locksTurnsSpec)

/-- ITS FALSE NEIGHBOUR: 'it returns false'. Refute it at one input. -/
def locksTurnsWrong : ChangeSpec := { name := "locksTurns", fn := fun _ => fun
  | [d1, d2] => { results := [.lit (.bool false)], args := [d1, d2] }
  | _ => none }
def LocksTurnsWrongFalsely : Prop := locksTurnsRow.holds Try.pinned (OpenSpec.ofChange locksTurnsWrong)

/-- 'corncriblaw18.LocksClash': WHATEVER THE INPUT: true; the input reads as it did. -/
def locksClashSpec : ChangeSpec := { name := "locksClash", fn := fun _ => fun
  | [d1, d2, d3] => { results := [.lit (.bool true)], args := [d1, d2, d3] }
  | _ => none }
def locksClashRow : OpenClaim := { program := "ytpfhdgacjeklaaa", sum := "c255a5c04f9296cf9c0e3d9df4f82b392d9629c481e4a34f2b44f661c146587a", func := "corncrib/corncriblaw18.LocksClash", spec := "locksClash", unfollowed := true, recurses := true, apart := false }
def LocksClashSaid : Prop := locksClashRow.holds Try.pinned (OpenSpec.ofChange locksClashSpec)

/-- ITS FALSE NEIGHBOUR: 'it returns false'. Refute it at one input. -/
def locksClashWrong : ChangeSpec := { name := "locksClash", fn := fun _ => fun
  | [d1, d2, d3] => { results := [.lit (.bool false)], args := [d1, d2, d3] }
  | _ => none }
def LocksClashWrongFalsely : Prop := locksClashRow.holds Try.pinned (OpenSpec.ofChange locksClashWrong)

/-- 'corncriblaw18.LocksAdmits': WHATEVER THE INPUT: true; the input reads as it did. -/
def locksAdmitsSpec : ChangeSpec := { name := "locksAdmits", fn := fun _ => fun
  | [d] => { results := [.lit (.bool true)], args := [d] }
  | _ => none }
def locksAdmitsRow : OpenClaim := { program := "ytpfhdgacjeklaaa", sum := "c255a5c04f9296cf9c0e3d9df4f82b392d9629c481e4a34f2b44f661c146587a", func := "corncrib/corncriblaw18.LocksAdmits", spec := "locksAdmits", unfollowed := true, recurses := true, apart := false }
def LocksAdmitsSaid : Prop := locksAdmitsRow.holds Try.pinned (OpenSpec.ofChange locksAdmitsSpec)

/-- ITS FALSE NEIGHBOUR: 'it returns false'. Refute it at one input. -/
def locksAdmitsWrong : ChangeSpec := { name := "locksAdmits", fn := fun _ => fun
  | [d] => { results := [.lit (.bool false)], args := [d] }
  | _ => none }
def LocksAdmitsWrongFalsely : Prop := locksAdmitsRow.holds Try.pinned (OpenSpec.ofChange locksAdmitsWrong)

/-- 'corncriblaw12.ShelfStays': WHATEVER THE INPUT: true; the input reads as it did. -/
def shelfStaysSpec : ChangeSpec := { name := "shelfStays", fn := fun _ => fun
  | [d1, d2, d3] => { results := [.lit (.bool true)], args := [d1, d2, d3] }
  | _ => none }
def shelfStaysRow : OpenClaim := { program := "ytpfhdgacjeklaaa", sum := "c255a5c04f9296cf9c0e3d9df4f82b392d9629c481e4a34f2b44f661c146587a", func := "corncrib/corncriblaw12.ShelfStays", spec := "shelfStays", unfollowed := true, recurses := true, apart := false }
def ShelfStaysSaid : Prop := shelfStaysRow.holds Try.pinned (OpenSpec.ofChange shelfStaysSpec)

/-- ITS FALSE NEIGHBOUR: 'it returns false'. Refute it at one input. -/
def shelfStaysWrong : ChangeSpec := { name := "shelfStays", fn := fun _ => fun
  | [d1, d2, d3] => { results := [.lit (.bool false)], args := [d1, d2, d3] }
  | _ => none }
def ShelfStaysWrongFalsely : Prop := shelfStaysRow.holds Try.pinned (OpenSpec.ofChange shelfStaysWrong)

/-- 'corncriblaw18.LocksLists': WHATEVER THE INPUT: true; the input reads as it did. -/
def locksListsSpec : ChangeSpec := { name := "locksLists", fn := fun _ => fun
  | [d] => { results := [.lit (.bool true)], args := [d] }
  | _ => none }
def locksListsRow : OpenClaim := { program := "ytpfhdgacjeklaaa", sum := "c255a5c04f9296cf9c0e3d9df4f82b392d9629c481e4a34f2b44f661c146587a", func := "corncrib/corncriblaw18.LocksLists", spec := "locksLists", unfollowed := true, recurses := true, apart := false }
def LocksListsSaid : Prop := locksListsRow.holds Try.pinned (OpenSpec.ofChange locksListsSpec)

/-- ITS FALSE NEIGHBOUR: 'it returns false'. Refute it at one input. -/
def locksListsWrong : ChangeSpec := { name := "locksLists", fn := fun _ => fun
  | [d] => { results := [.lit (.bool false)], args := [d] }
  | _ => none }
def LocksListsWrongFalsely : Prop := locksListsRow.holds Try.pinned (OpenSpec.ofChange locksListsWrong)

/-- 'corncriblaw18.LocksGrow': WHATEVER THE INPUT: true; the input reads as it did. -/
def locksGrowSpec : ChangeSpec := { name := "locksGrow", fn := fun _ => fun
  | [d1, d2] => { results := [.lit (.bool true)], args := [d1, d2] }
  | _ => none }
def locksGrowRow : OpenClaim := { program := "ytpfhdgacjeklaaa", sum := "c255a5c04f9296cf9c0e3d9df4f82b392d9629c481e4a34f2b44f661c146587a", func := "corncrib/corncriblaw18.LocksGrow", spec := "locksGrow", unfollowed := true, recurses := true, apart := false }
def LocksGrowSaid : Prop := locksGrowRow.holds Try.pinned (OpenSpec.ofChange locksGrowSpec)

/-- ITS FALSE NEIGHBOUR: 'it returns false'. Refute it at one input. -/
def locksGrowWrong : ChangeSpec := { name := "locksGrow", fn := fun _ => fun
  | [d1, d2] => { results := [.lit (.bool false)], args := [d1, d2] }
  | _ => none }
def LocksGrowWrongFalsely : Prop := locksGrowRow.holds Try.pinned (OpenSpec.ofChange locksGrowWrong)

/-- 'corncriblaw12.ShelfApart': WHATEVER THE INPUT: true; the input reads as it did. -/
def shelfApartSpec : ChangeSpec := { name := "shelfApart", fn := fun _ => fun
  | [d] => { results := [.lit (.bool true)], args := [d] }
  | _ => none }
def shelfApartRow : OpenClaim := { program := "ytpfhdgacjeklaaa", sum := "c255a5c04f9296cf9c0e3d9df4f82b392d9629c481e4a34f2b44f661c146587a", func := "corncrib/corncriblaw12.ShelfApart", spec := "shelfApart", unfollowed := true, recurses := true, apart := false }
def ShelfApartSaid : Prop := shelfApartRow.holds Try.pinned (OpenSpec.ofChange shelfApartSpec)

/-- ITS FALSE NEIGHBOUR: 'it returns false'. Refute it at one input. -/
def shelfApartWrong : ChangeSpec := { name := "shelfApart", fn := fun _ => fun
  | [d] => { results := [.lit (.bool false)], args := [d] }
  | _ => none }
def ShelfApartWrongFalsely : Prop := shelfApartRow.holds Try.pinned (OpenSpec.ofChange shelfApartWrong)

/-- 'corncriblaw18.LocksShelf': WHATEVER THE INPUT: true; the input reads as it did. -/
def locksShelfSpec : ChangeSpec := { name := "locksShelf", fn := fun _ => fun
  | [d] => { results := [.lit (.bool true)], args := [d] }
  | _ => none }
def locksShelfRow : OpenClaim := { program := "ytpfhdgacjeklaaa", sum := "c255a5c04f9296cf9c0e3d9df4f82b392d9629c481e4a34f2b44f661c146587a", func := "corncrib/corncriblaw18.LocksShelf", spec := "locksShelf", unfollowed := true, recurses := true, apart := false }
def LocksShelfSaid : Prop := locksShelfRow.holds Try.pinned (OpenSpec.ofChange locksShelfSpec)

/-- ITS FALSE NEIGHBOUR: 'it returns false'. Refute it at one input. -/
def locksShelfWrong : ChangeSpec := { name := "locksShelf", fn := fun _ => fun
  | [d] => { results := [.lit (.bool false)], args := [d] }
  | _ => none }
def LocksShelfWrongFalsely : Prop := locksShelfRow.holds Try.pinned (OpenSpec.ofChange locksShelfWrong)

/- THE SECOND FORM. 'bulk': how many values and letters a reading holds, each counted each time it is reached (what is shared counts as often as it is met; a slice's spare places count too). A statement '..UptoSaid' is the law's where the arguments, and the package variables that the reading takes, are together of bulk at most 1048576: NARROWER than '..Said'. Prove '..Said' where nothing that the law and all that it calls make is longer than what came in: it says more and counts as full. Else prove '..UptoSaid'. A law counts once. -/
mutual
def uptoBulk {H : Type} : DataW H → Nat
  | .lit (.string bytes) => bytes.length + 1
  | .lit _ => 1
  | .nil => 1
  | .ptr d => uptoBulk d + 1
  | .slice elems spare => uptoBulkAll elems + uptoBulkAll spare + 1
  | .agg parts => uptoBulkAll parts + 1
  | .iface _ d => uptoBulk d + 1
  | .map entries => uptoBulkEntries entries + 1
  | .held _ => 1
def uptoBulkAll {H : Type} : List (DataW H) → Nat
  | [] => 0
  | d :: r => uptoBulk d + uptoBulkAll r
def uptoBulkEntries {H : Type} : List (Lit × DataW H) → Nat
  | [] => 0
  | x :: r => uptoBulkEntry x + uptoBulkEntries r
def uptoBulkEntry {H : Type} : Lit × DataW H → Nat
  | (.string bytes, d) => bytes.length + uptoBulk d + 1
  | (_, d) => uptoBulk d + 1
 end
def uptoSmall : (H : Type) → List (DataW H) → Bool := fun _ ds => decide (uptoBulkAll ds ≤ 1048576)
def OpenSpec.upto (s : _root_.Go.ChangeSpec) : _root_.Go.OpenSpec := { _root_.Go.OpenSpec.ofChange s with cond := some uptoSmall }

/-- 'corncriblaw18.LocksTurns', WHERE WHAT IT READS IS OF BULK AT MOST 1048576: true; the input reads as it did. -/
def locksTurnsUptoRow : OpenClaim := { program := "ytpfhdgacjeklaaa", sum := "c255a5c04f9296cf9c0e3d9df4f82b392d9629c481e4a34f2b44f661c146587a", func := "corncrib/corncriblaw18.LocksTurns", spec := "locksTurns", unfollowed := true, recurses := true, apart := false, narrowed := true }
def LocksTurnsUptoSaid : Prop := locksTurnsUptoRow.holds Try.pinned (OpenSpec.upto locksTurnsSpec)

/-- 'corncriblaw18.LocksClash', WHERE WHAT IT READS IS OF BULK AT MOST 1048576: true; the input reads as it did. -/
def locksClashUptoRow : OpenClaim := { program := "ytpfhdgacjeklaaa", sum := "c255a5c04f9296cf9c0e3d9df4f82b392d9629c481e4a34f2b44f661c146587a", func := "corncrib/corncriblaw18.LocksClash", spec := "locksClash", unfollowed := true, recurses := true, apart := false, narrowed := true }
def LocksClashUptoSaid : Prop := locksClashUptoRow.holds Try.pinned (OpenSpec.upto locksClashSpec)

/-- 'corncriblaw18.LocksAdmits', WHERE WHAT IT READS IS OF BULK AT MOST 1048576: true; the input reads as it did. -/
def locksAdmitsUptoRow : OpenClaim := { program := "ytpfhdgacjeklaaa", sum := "c255a5c04f9296cf9c0e3d9df4f82b392d9629c481e4a34f2b44f661c146587a", func := "corncrib/corncriblaw18.LocksAdmits", spec := "locksAdmits", unfollowed := true, recurses := true, apart := false, narrowed := true }
def LocksAdmitsUptoSaid : Prop := locksAdmitsUptoRow.holds Try.pinned (OpenSpec.upto locksAdmitsSpec)

/-- 'corncriblaw12.ShelfStays', WHERE WHAT IT READS IS OF BULK AT MOST 1048576: true; the input reads as it did. -/
def shelfStaysUptoRow : OpenClaim := { program := "ytpfhdgacjeklaaa", sum := "c255a5c04f9296cf9c0e3d9df4f82b392d9629c481e4a34f2b44f661c146587a", func := "corncrib/corncriblaw12.ShelfStays", spec := "shelfStays", unfollowed := true, recurses := true, apart := false, narrowed := true }
def ShelfStaysUptoSaid : Prop := shelfStaysUptoRow.holds Try.pinned (OpenSpec.upto shelfStaysSpec)

/-- 'corncriblaw18.LocksLists', WHERE WHAT IT READS IS OF BULK AT MOST 1048576: true; the input reads as it did. -/
def locksListsUptoRow : OpenClaim := { program := "ytpfhdgacjeklaaa", sum := "c255a5c04f9296cf9c0e3d9df4f82b392d9629c481e4a34f2b44f661c146587a", func := "corncrib/corncriblaw18.LocksLists", spec := "locksLists", unfollowed := true, recurses := true, apart := false, narrowed := true }
def LocksListsUptoSaid : Prop := locksListsUptoRow.holds Try.pinned (OpenSpec.upto locksListsSpec)

/-- 'corncriblaw18.LocksGrow', WHERE WHAT IT READS IS OF BULK AT MOST 1048576: true; the input reads as it did. -/
def locksGrowUptoRow : OpenClaim := { program := "ytpfhdgacjeklaaa", sum := "c255a5c04f9296cf9c0e3d9df4f82b392d9629c481e4a34f2b44f661c146587a", func := "corncrib/corncriblaw18.LocksGrow", spec := "locksGrow", unfollowed := true, recurses := true, apart := false, narrowed := true }
def LocksGrowUptoSaid : Prop := locksGrowUptoRow.holds Try.pinned (OpenSpec.upto locksGrowSpec)

/-- 'corncriblaw12.ShelfApart', WHERE WHAT IT READS IS OF BULK AT MOST 1048576: true; the input reads as it did. -/
def shelfApartUptoRow : OpenClaim := { program := "ytpfhdgacjeklaaa", sum := "c255a5c04f9296cf9c0e3d9df4f82b392d9629c481e4a34f2b44f661c146587a", func := "corncrib/corncriblaw12.ShelfApart", spec := "shelfApart", unfollowed := true, recurses := true, apart := false, narrowed := true }
def ShelfApartUptoSaid : Prop := shelfApartUptoRow.holds Try.pinned (OpenSpec.upto shelfApartSpec)

/-- 'corncriblaw18.LocksShelf', WHERE WHAT IT READS IS OF BULK AT MOST 1048576: true; the input reads as it did. -/
def locksShelfUptoRow : OpenClaim := { program := "ytpfhdgacjeklaaa", sum := "c255a5c04f9296cf9c0e3d9df4f82b392d9629c481e4a34f2b44f661c146587a", func := "corncrib/corncriblaw18.LocksShelf", spec := "locksShelf", unfollowed := true, recurses := true, apart := false, narrowed := true }
def LocksShelfUptoSaid : Prop := locksShelfUptoRow.holds Try.pinned (OpenSpec.upto locksShelfSpec)

end Rows
end Go.Proofs.Ytpfhdgacjeklaaa
