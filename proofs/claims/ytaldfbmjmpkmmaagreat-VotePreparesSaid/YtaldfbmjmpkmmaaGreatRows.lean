/-
  No cell of these rows narrows 'for every input' (looked for: loops, veiled, ifaces, maps, wideKeys, modest, calm, conditions, laid).
  DERIVED. THE GIVEN ROWS OF THIS SEAT. 4 by the template 'for every input the law returns true; each argument reads behind the call as it read before'; 0 by the template 'total and deterministic' (their statements: YtaldfbmjmpkmmaaGreatTotals.lean).
  GIVEN WITH THE SEED: the statements are not yours to turn. If you find one false, say at which input.
  Laid BY PROGRAM, IN A SANDBOX (cutbox-rows.mjs): the forced cells as the released guide's own fill.sh prints them over the translation d70306230045711a… (all of the seat's roots in one cut). By AI agents, Wed Nov 11 2026. No macro, syntax, notation, axiom, sorry.
-/
import Derived.Test.YtaldfbmjmpkmmaaGreatChecked
import GoSem.Claim
import GoSem.ClaimJoined
import GoSem.ClaimMapViews
import Derived.JoinedTies
import Derived.KernelRfl
namespace Go.Proofs.YtaldfbmjmpkmmaaGreat
/- THE CELL 'sum', in the pinned program and in every row, IS THE sha256 OF THE DUMP (.gsa) THAT YtaldfbmjmpkmmaaGreatProg.lean LOADS. Nothing in Lean hashes anything: it is a label: what it is worth is what the hold of that sum in a sandbox is worth. -/
noncomputable def Tryz.pinned : Pinned := { name := "ytaldfbmjmpkmmaagreat", sum := "d70306230045711aa317dbf45122064a7b631d3bbf460bd84a61b901dbcf889e", checked := Tryz.checked }
namespace Rows
def none {H : Type} : Left H := { results := [], args := [] }

/-- 'corncriblaw12.ShelfRefuses': WHATEVER THE INPUT: true; the input reads as it did. -/
def shelfRefusesSpec : ChangeSpec := { name := "shelfRefuses", fn := fun _ => fun
  | [d1, d2] => { results := [.lit (.bool true)], args := [d1, d2] }
  | _ => none }
def shelfRefusesRow : OpenClaim := { program := "ytaldfbmjmpkmmaagreat", sum := "d70306230045711aa317dbf45122064a7b631d3bbf460bd84a61b901dbcf889e", func := "corncrib/corncriblaw12.ShelfRefuses", spec := "shelfRefuses", unfollowed := true, recurses := true, apart := false }
def ShelfRefusesSaid : Prop := shelfRefusesRow.holds Tryz.pinned (OpenSpec.ofChange shelfRefusesSpec)

/-- ITS FALSE NEIGHBOUR: 'it returns false'. Refute it at one input. -/
def shelfRefusesWrong : ChangeSpec := { name := "shelfRefuses", fn := fun _ => fun
  | [d1, d2] => { results := [.lit (.bool false)], args := [d1, d2] }
  | _ => none }
def ShelfRefusesWrongFalsely : Prop := shelfRefusesRow.holds Tryz.pinned (OpenSpec.ofChange shelfRefusesWrong)

/-- 'corncriblaw12.ShelfAgain': WHATEVER THE INPUT: true; the input reads as it did. -/
def shelfAgainSpec : ChangeSpec := { name := "shelfAgain", fn := fun _ => fun
  | [d1, d2] => { results := [.lit (.bool true)], args := [d1, d2] }
  | _ => none }
def shelfAgainRow : OpenClaim := { program := "ytaldfbmjmpkmmaagreat", sum := "d70306230045711aa317dbf45122064a7b631d3bbf460bd84a61b901dbcf889e", func := "corncrib/corncriblaw12.ShelfAgain", spec := "shelfAgain", unfollowed := true, recurses := true, apart := false }
def ShelfAgainSaid : Prop := shelfAgainRow.holds Tryz.pinned (OpenSpec.ofChange shelfAgainSpec)

/-- ITS FALSE NEIGHBOUR: 'it returns false'. Refute it at one input. -/
def shelfAgainWrong : ChangeSpec := { name := "shelfAgain", fn := fun _ => fun
  | [d1, d2] => { results := [.lit (.bool false)], args := [d1, d2] }
  | _ => none }
def ShelfAgainWrongFalsely : Prop := shelfAgainRow.holds Tryz.pinned (OpenSpec.ofChange shelfAgainWrong)

/-- 'corncriblaw12.ShelfPlays': WHATEVER THE INPUT: true; the input reads as it did. -/
def shelfPlaysSpec : ChangeSpec := { name := "shelfPlays", fn := fun _ => fun
  | [d1, d2] => { results := [.lit (.bool true)], args := [d1, d2] }
  | _ => none }
def shelfPlaysRow : OpenClaim := { program := "ytaldfbmjmpkmmaagreat", sum := "d70306230045711aa317dbf45122064a7b631d3bbf460bd84a61b901dbcf889e", func := "corncrib/corncriblaw12.ShelfPlays", spec := "shelfPlays", inPlace := ["maps.clone"], unfollowed := true, recurses := true, apart := false }
def ShelfPlaysSaid : Prop := shelfPlaysRow.holds Tryz.pinned (OpenSpec.ofChange shelfPlaysSpec)

/-- ITS FALSE NEIGHBOUR: 'it returns false'. Refute it at one input. -/
def shelfPlaysWrong : ChangeSpec := { name := "shelfPlays", fn := fun _ => fun
  | [d1, d2] => { results := [.lit (.bool false)], args := [d1, d2] }
  | _ => none }
def ShelfPlaysWrongFalsely : Prop := shelfPlaysRow.holds Tryz.pinned (OpenSpec.ofChange shelfPlaysWrong)

/-- 'corncriblaw19.VotePrepares': WHATEVER THE INPUT: true; the input reads as it did. -/
def votePreparesSpec : ChangeSpec := { name := "votePrepares", fn := fun _ => fun
  | [d1, d2] => { results := [.lit (.bool true)], args := [d1, d2] }
  | _ => none }
def votePreparesRow : OpenClaim := { program := "ytaldfbmjmpkmmaagreat", sum := "d70306230045711aa317dbf45122064a7b631d3bbf460bd84a61b901dbcf889e", func := "corncrib/corncriblaw19.VotePrepares", spec := "votePrepares", unfollowed := true, recurses := true, apart := false }
def VotePreparesSaid : Prop := votePreparesRow.holds Tryz.pinned (OpenSpec.ofChange votePreparesSpec)

/-- ITS FALSE NEIGHBOUR: 'it returns false'. Refute it at one input. -/
def votePreparesWrong : ChangeSpec := { name := "votePrepares", fn := fun _ => fun
  | [d1, d2] => { results := [.lit (.bool false)], args := [d1, d2] }
  | _ => none }
def VotePreparesWrongFalsely : Prop := votePreparesRow.holds Tryz.pinned (OpenSpec.ofChange votePreparesWrong)

/- THE SECOND FORM. 'bulk': how many values and letters a reading holds, each counted each time it is reached (what is shared counts as often as it is met; a slice's spare places count too). A statement '..UptoSaid' is the law's where the arguments, and the package variables that the reading takes, are together of bulk at most 1048576: NARROWER than '..Said'. Prove '..Said' where nothing that the law and all that it calls make is longer than what came in: it says more and counts as full. Else prove '..UptoSaid'. A law counts once. -/
mutual
def uptoBulk {H : Type} : DataW H → Nat
  | .lit (.string bytes) => bytes.length + 1
  | .lit _ => 1
  | .nil => 1
  | .ptr d => uptoBulk d + 1
  | .slice elems spare => uptoBulkAll elems + uptoBulkAll spare + 1
  | .agg parts => uptoBulkAll parts + 1
  | .iface _ d => uptoBulk d + 1
  | .map entries => uptoBulkEntries entries + 1
  | .held _ => 1
def uptoBulkAll {H : Type} : List (DataW H) → Nat
  | [] => 0
  | d :: r => uptoBulk d + uptoBulkAll r
def uptoBulkEntries {H : Type} : List (Lit × DataW H) → Nat
  | [] => 0
  | x :: r => uptoBulkEntry x + uptoBulkEntries r
def uptoBulkEntry {H : Type} : Lit × DataW H → Nat
  | (.string bytes, d) => bytes.length + uptoBulk d + 1
  | (_, d) => uptoBulk d + 1
 end
def uptoSmall : (H : Type) → List (DataW H) → Bool := fun _ ds => decide (uptoBulkAll ds ≤ 1048576)
def OpenSpec.upto (s : _root_.Go.ChangeSpec) : _root_.Go.OpenSpec := { _root_.Go.OpenSpec.ofChange s with cond := some uptoSmall }

/-- 'corncriblaw12.ShelfRefuses', WHERE WHAT IT READS IS OF BULK AT MOST 1048576: true; the input reads as it did. -/
def shelfRefusesUptoRow : OpenClaim := { program := "ytaldfbmjmpkmmaagreat", sum := "d70306230045711aa317dbf45122064a7b631d3bbf460bd84a61b901dbcf889e", func := "corncrib/corncriblaw12.ShelfRefuses", spec := "shelfRefuses", unfollowed := true, recurses := true, apart := false, narrowed := true }
def ShelfRefusesUptoSaid : Prop := shelfRefusesUptoRow.holds Tryz.pinned (OpenSpec.upto shelfRefusesSpec)

/-- 'corncriblaw12.ShelfAgain', WHERE WHAT IT READS IS OF BULK AT MOST 1048576: true; the input reads as it did. -/
def shelfAgainUptoRow : OpenClaim := { program := "ytaldfbmjmpkmmaagreat", sum := "d70306230045711aa317dbf45122064a7b631d3bbf460bd84a61b901dbcf889e", func := "corncrib/corncriblaw12.ShelfAgain", spec := "shelfAgain", unfollowed := true, recurses := true, apart := false, narrowed := true }
def ShelfAgainUptoSaid : Prop := shelfAgainUptoRow.holds Tryz.pinned (OpenSpec.upto shelfAgainSpec)

/-- 'corncriblaw12.ShelfPlays', WHERE WHAT IT READS IS OF BULK AT MOST 1048576: true; the input reads as it did. -/
def shelfPlaysUptoRow : OpenClaim := { program := "ytaldfbmjmpkmmaagreat", sum := "d70306230045711aa317dbf45122064a7b631d3bbf460bd84a61b901dbcf889e", func := "corncrib/corncriblaw12.ShelfPlays", spec := "shelfPlays", inPlace := ["maps.clone"], unfollowed := true, recurses := true, apart := false, narrowed := true }
def ShelfPlaysUptoSaid : Prop := shelfPlaysUptoRow.holds Tryz.pinned (OpenSpec.upto shelfPlaysSpec)

/-- 'corncriblaw19.VotePrepares', WHERE WHAT IT READS IS OF BULK AT MOST 1048576: true; the input reads as it did. -/
def votePreparesUptoRow : OpenClaim := { program := "ytaldfbmjmpkmmaagreat", sum := "d70306230045711aa317dbf45122064a7b631d3bbf460bd84a61b901dbcf889e", func := "corncrib/corncriblaw19.VotePrepares", spec := "votePrepares", unfollowed := true, recurses := true, apart := false, narrowed := true }
def VotePreparesUptoSaid : Prop := votePreparesUptoRow.holds Tryz.pinned (OpenSpec.upto votePreparesSpec)

end Rows
end Go.Proofs.YtaldfbmjmpkmmaaGreat
