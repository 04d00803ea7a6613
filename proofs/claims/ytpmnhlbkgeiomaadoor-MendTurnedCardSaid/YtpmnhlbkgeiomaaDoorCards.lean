/-
  DERIVED. GIVEN WITH THE SEED: THE CARDS: each row of YtpmnhlbkgeiomaaDoorRows.lean that lists a variable, with what it lists TIED to the program's text (the seventh form; the later family's looks); each row that meets fmt, with fmt's text TOLD by the authors' own Lean function (tested against real Go, not proved from fmt's source: count such statements apart). THE CARD IS WHAT COUNTS. Prove the row's statement (the work); the ties are given (YtpmnhlbkgeiomaaDoorTie.lean); close each card by the builder's one call (the guide's Derived/Test/ToyasCard.lean, 'card_holds'). Laid BY PROGRAM, IN A SANDBOX (cutbox-door.mjs). By AI agents, Wed Nov 11 2026. No macro, syntax, notation, axiom, sorry.
-/
import Derived.Test.YtpmnhlbkgeiomaaDoorRows
import GoSem.ClaimSeven
namespace Go.Proofs.YtpmnhlbkgeiomaaDoor
namespace Rows

/-- THE TIED CARD OF 'corncriblaw04.MendTurned'. -/
def mendTurnedCard : Claim7 := { stood := { row := mendTurnedRow, standIns := [], harness := (true, "8c0b73cc858c2c14a3127d722ab13d4adb05225503e089b3821e0e24248bd862"), looks := false }, kinds := [], alts := [], laidByText := true, laidKinds := [.data, .pinned], laidTests := true, laidLooks := .later }
def MendTurnedCardSaid : Prop := Claim7.holds Tryd.pinned (.plain (OpenSpec.ofChange mendTurnedSpec)) mendTurnedCard

/-- THE TIED CARD OF 'corncriblaw22.GatherAny'. -/
def gatherAnyCard : Claim7 := { stood := { row := gatherAnyRow, standIns := [], harness := (true, "8c0b73cc858c2c14a3127d722ab13d4adb05225503e089b3821e0e24248bd862"), looks := false }, kinds := [], alts := [], laidByText := true, laidKinds := [.data, .pinned], laidTests := true, laidLooks := .later }
def GatherAnyCardSaid : Prop := Claim7.holds Tryd.pinned (.plain (OpenSpec.ofChange gatherAnySpec)) gatherAnyCard

/-- THE TIED CARD OF 'corncriblaw22.GatherNone'. -/
def gatherNoneCard : Claim7 := { stood := { row := gatherNoneRow, standIns := [], harness := (true, "8c0b73cc858c2c14a3127d722ab13d4adb05225503e089b3821e0e24248bd862"), looks := false }, kinds := [], alts := [], laidByText := true, laidKinds := [.data, .pinned], laidTests := true, laidLooks := .later }
def GatherNoneCardSaid : Prop := Claim7.holds Tryd.pinned (.plain (OpenSpec.ofChange gatherNoneSpec)) gatherNoneCard

/-- THE TIED CARD OF 'corncriblaw22.GatherGone'. -/
def gatherGoneCard : Claim7 := { stood := { row := gatherGoneRow, standIns := [], harness := (true, "8c0b73cc858c2c14a3127d722ab13d4adb05225503e089b3821e0e24248bd862"), looks := false }, kinds := [], alts := [], laidByText := true, laidKinds := [.data, .pinned], laidTests := true, laidLooks := .later }
def GatherGoneCardSaid : Prop := Claim7.holds Tryd.pinned (.plain (OpenSpec.ofChange gatherGoneSpec)) gatherGoneCard

/-- THE TIED CARD OF 'corncriblaw22.GatherTurned'. -/
def gatherTurnedCard : Claim7 := { stood := { row := gatherTurnedRow, standIns := [], harness := (true, "8c0b73cc858c2c14a3127d722ab13d4adb05225503e089b3821e0e24248bd862"), looks := false }, kinds := [], alts := [], laidByText := true, laidKinds := [.data, .pinned], laidTests := true, laidLooks := .later }
def GatherTurnedCardSaid : Prop := Claim7.holds Tryd.pinned (.plain (OpenSpec.ofChange gatherTurnedSpec)) gatherTurnedCard

/-- THE TIED CARD OF 'corncriblaw22.GatherAsks'. -/
def gatherAsksCard : Claim7 := { stood := { row := gatherAsksRow, standIns := [], harness := (true, "8c0b73cc858c2c14a3127d722ab13d4adb05225503e089b3821e0e24248bd862"), looks := false }, kinds := [], alts := [], laidByText := true, laidKinds := [.data, .pinned], laidTests := true, laidLooks := .later }
def GatherAsksCardSaid : Prop := Claim7.holds Tryd.pinned (.plain (OpenSpec.ofChange gatherAsksSpec)) gatherAsksCard

/-- THE SECOND FORM's CARD OF 'corncriblaw04.MendTurned'. -/
def mendTurnedUptoCard : Claim7 := { stood := { row := mendTurnedUptoRow, standIns := [], harness := (true, "8c0b73cc858c2c14a3127d722ab13d4adb05225503e089b3821e0e24248bd862"), looks := false }, kinds := [], alts := [], laidByText := true, laidKinds := [.data, .pinned], laidTests := true, laidLooks := .later }
def MendTurnedUptoCardSaid : Prop := Claim7.holds Tryd.pinned (.plain (OpenSpec.upto mendTurnedSpec)) mendTurnedUptoCard

/-- THE SECOND FORM's CARD OF 'corncriblaw22.GatherAny'. -/
def gatherAnyUptoCard : Claim7 := { stood := { row := gatherAnyUptoRow, standIns := [], harness := (true, "8c0b73cc858c2c14a3127d722ab13d4adb05225503e089b3821e0e24248bd862"), looks := false }, kinds := [], alts := [], laidByText := true, laidKinds := [.data, .pinned], laidTests := true, laidLooks := .later }
def GatherAnyUptoCardSaid : Prop := Claim7.holds Tryd.pinned (.plain (OpenSpec.upto gatherAnySpec)) gatherAnyUptoCard

/-- THE SECOND FORM's CARD OF 'corncriblaw22.GatherNone'. -/
def gatherNoneUptoCard : Claim7 := { stood := { row := gatherNoneUptoRow, standIns := [], harness := (true, "8c0b73cc858c2c14a3127d722ab13d4adb05225503e089b3821e0e24248bd862"), looks := false }, kinds := [], alts := [], laidByText := true, laidKinds := [.data, .pinned], laidTests := true, laidLooks := .later }
def GatherNoneUptoCardSaid : Prop := Claim7.holds Tryd.pinned (.plain (OpenSpec.upto gatherNoneSpec)) gatherNoneUptoCard

/-- THE SECOND FORM's CARD OF 'corncriblaw22.GatherGone'. -/
def gatherGoneUptoCard : Claim7 := { stood := { row := gatherGoneUptoRow, standIns := [], harness := (true, "8c0b73cc858c2c14a3127d722ab13d4adb05225503e089b3821e0e24248bd862"), looks := false }, kinds := [], alts := [], laidByText := true, laidKinds := [.data, .pinned], laidTests := true, laidLooks := .later }
def GatherGoneUptoCardSaid : Prop := Claim7.holds Tryd.pinned (.plain (OpenSpec.upto gatherGoneSpec)) gatherGoneUptoCard

/-- THE SECOND FORM's CARD OF 'corncriblaw22.GatherTurned'. -/
def gatherTurnedUptoCard : Claim7 := { stood := { row := gatherTurnedUptoRow, standIns := [], harness := (true, "8c0b73cc858c2c14a3127d722ab13d4adb05225503e089b3821e0e24248bd862"), looks := false }, kinds := [], alts := [], laidByText := true, laidKinds := [.data, .pinned], laidTests := true, laidLooks := .later }
def GatherTurnedUptoCardSaid : Prop := Claim7.holds Tryd.pinned (.plain (OpenSpec.upto gatherTurnedSpec)) gatherTurnedUptoCard

/-- THE SECOND FORM's CARD OF 'corncriblaw22.GatherAsks'. -/
def gatherAsksUptoCard : Claim7 := { stood := { row := gatherAsksUptoRow, standIns := [], harness := (true, "8c0b73cc858c2c14a3127d722ab13d4adb05225503e089b3821e0e24248bd862"), looks := false }, kinds := [], alts := [], laidByText := true, laidKinds := [.data, .pinned], laidTests := true, laidLooks := .later }
def GatherAsksUptoCardSaid : Prop := Claim7.holds Tryd.pinned (.plain (OpenSpec.upto gatherAsksSpec)) gatherAsksUptoCard
end Rows
end Go.Proofs.YtpmnhlbkgeiomaaDoor
