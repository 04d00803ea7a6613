/-
  DERIVED. GIVEN WITH THE SEED: THE CARDS: each row of YtegmmefijihdeaaDoorRows.lean that lists a variable, with what it lists TIED to the program's text (the seventh form; the later family's looks); each row that meets fmt, with fmt's text TOLD by the authors' own Lean function (tested against real Go, not proved from fmt's source: count such statements apart). THE CARD IS WHAT COUNTS. Prove the row's statement (the work); the ties are given (YtegmmefijihdeaaDoorTie.lean); close each card by the builder's one call (the guide's Derived/Test/ToyasCard.lean, 'card_holds'). Laid BY PROGRAM, IN A SANDBOX (cutbox-door.mjs). By AI agents, Wed Nov 11 2026. No macro, syntax, notation, axiom, sorry.
-/
import Derived.Test.YtegmmefijihdeaaDoorRows
import GoSem.ClaimSeven
namespace Go.Proofs.YtegmmefijihdeaaDoor
namespace Rows

/-- THE TIED CARD OF 'corncriblaw03.StripeSplits'. -/
def stripeSplitsCard : Claim7 := { stood := { row := stripeSplitsRow, standIns := [], harness := (true, "1a62597f3035997030b9dc1416f8f6aad7d32ead6a367aa5d1eb3da61347132f"), looks := false }, kinds := [], alts := [], laidByText := true, laidKinds := [.data, .pinned], laidTests := true, laidLooks := .later }
def StripeSplitsCardSaid : Prop := Claim7.holds Tryd.pinned (.plain (OpenSpec.ofChange stripeSplitsSpec)) stripeSplitsCard

/-- THE TIED CARD OF 'corncriblaw03.StripeJoins'. -/
def stripeJoinsCard : Claim7 := { stood := { row := stripeJoinsRow, standIns := [], harness := (true, "1a62597f3035997030b9dc1416f8f6aad7d32ead6a367aa5d1eb3da61347132f"), looks := false }, kinds := [], alts := [], laidByText := true, laidKinds := [.data, .pinned], laidTests := true, laidLooks := .later }
def StripeJoinsCardSaid : Prop := Claim7.holds Tryd.pinned (.plain (OpenSpec.ofChange stripeJoinsSpec)) stripeJoinsCard

/-- THE TIED CARD OF 'corncriblaw03.StripeCodes'. -/
def stripeCodesCard : Claim7 := { stood := { row := stripeCodesRow, standIns := [], harness := (true, "1a62597f3035997030b9dc1416f8f6aad7d32ead6a367aa5d1eb3da61347132f"), looks := false }, kinds := [], alts := [], laidByText := true, laidKinds := [.data, .pinned], laidTests := true, laidLooks := .later }
def StripeCodesCardSaid : Prop := Claim7.holds Tryd.pinned (.plain (OpenSpec.ofChange stripeCodesSpec)) stripeCodesCard

/-- THE TIED CARD OF 'corncriblaw03.StripeParity'. -/
def stripeParityCard : Claim7 := { stood := { row := stripeParityRow, standIns := [], harness := (true, "1a62597f3035997030b9dc1416f8f6aad7d32ead6a367aa5d1eb3da61347132f"), looks := false }, kinds := [], alts := [], laidByText := true, laidKinds := [.data, .pinned], laidTests := true, laidLooks := .later }
def StripeParityCardSaid : Prop := Claim7.holds Tryd.pinned (.plain (OpenSpec.ofChange stripeParitySpec)) stripeParityCard

/-- THE TIED CARD OF 'corncriblaw03.StripeBack'. -/
def stripeBackCard : Claim7 := { stood := { row := stripeBackRow, standIns := [], harness := (true, "1a62597f3035997030b9dc1416f8f6aad7d32ead6a367aa5d1eb3da61347132f"), looks := false }, kinds := [], alts := [], laidByText := true, laidKinds := [.data, .pinned], laidTests := true, laidLooks := .later }
def StripeBackCardSaid : Prop := Claim7.holds Tryd.pinned (.plain (OpenSpec.ofChange stripeBackSpec)) stripeBackCard

/-- THE TIED CARD OF 'corncriblaw03.StripeLinear'. -/
def stripeLinearCard : Claim7 := { stood := { row := stripeLinearRow, standIns := [], harness := (true, "1a62597f3035997030b9dc1416f8f6aad7d32ead6a367aa5d1eb3da61347132f"), looks := false }, kinds := [], alts := [], laidByText := true, laidKinds := [.data, .pinned], laidTests := true, laidLooks := .later }
def StripeLinearCardSaid : Prop := Claim7.holds Tryd.pinned (.plain (OpenSpec.ofChange stripeLinearSpec)) stripeLinearCard

/-- THE TIED CARD OF 'corncriblaw03.StripeSizes'. -/
def stripeSizesCard : Claim7 := { stood := { row := stripeSizesRow, standIns := [], harness := (true, "1a62597f3035997030b9dc1416f8f6aad7d32ead6a367aa5d1eb3da61347132f"), looks := false }, kinds := [], alts := [], laidByText := true, laidKinds := [.data, .pinned], laidTests := true, laidLooks := .later }
def StripeSizesCardSaid : Prop := Claim7.holds Tryd.pinned (.plain (OpenSpec.ofChange stripeSizesSpec)) stripeSizesCard

/-- THE TIED CARD OF 'corncriblaw04.MendChecks'. -/
def mendChecksCard : Claim7 := { stood := { row := mendChecksRow, standIns := [], harness := (true, "1a62597f3035997030b9dc1416f8f6aad7d32ead6a367aa5d1eb3da61347132f"), looks := false }, kinds := [], alts := [], laidByText := true, laidKinds := [.data, .pinned], laidTests := true, laidLooks := .later }
def MendChecksCardSaid : Prop := Claim7.holds Tryd.pinned (.plain (OpenSpec.ofChange mendChecksSpec)) mendChecksCard

/-- THE TIED CARD OF 'corncriblaw04.MendMakes'. -/
def mendMakesCard : Claim7 := { stood := { row := mendMakesRow, standIns := [], harness := (true, "1a62597f3035997030b9dc1416f8f6aad7d32ead6a367aa5d1eb3da61347132f"), looks := false }, kinds := [], alts := [], laidByText := true, laidKinds := [.data, .pinned], laidTests := true, laidLooks := .later }
def MendMakesCardSaid : Prop := Claim7.holds Tryd.pinned (.plain (OpenSpec.ofChange mendMakesSpec)) mendMakesCard

/-- THE TIED CARD OF 'corncriblaw04.MendAny'. -/
def mendAnyCard : Claim7 := { stood := { row := mendAnyRow, standIns := [], harness := (true, "1a62597f3035997030b9dc1416f8f6aad7d32ead6a367aa5d1eb3da61347132f"), looks := false }, kinds := [], alts := [], laidByText := true, laidKinds := [.data, .pinned], laidTests := true, laidLooks := .later }
def MendAnyCardSaid : Prop := Claim7.holds Tryd.pinned (.plain (OpenSpec.ofChange mendAnySpec)) mendAnyCard

/-- THE TIED CARD OF 'corncriblaw04.MendChanges'. -/
def mendChangesCard : Claim7 := { stood := { row := mendChangesRow, standIns := [], harness := (true, "1a62597f3035997030b9dc1416f8f6aad7d32ead6a367aa5d1eb3da61347132f"), looks := false }, kinds := [], alts := [], laidByText := true, laidKinds := [.data, .pinned], laidTests := true, laidLooks := .later }
def MendChangesCardSaid : Prop := Claim7.holds Tryd.pinned (.plain (OpenSpec.ofChange mendChangesSpec)) mendChangesCard

/-- THE TIED CARD OF 'corncriblaw04.MendOnes'. -/
def mendOnesCard : Claim7 := { stood := { row := mendOnesRow, standIns := [], harness := (true, "1a62597f3035997030b9dc1416f8f6aad7d32ead6a367aa5d1eb3da61347132f"), looks := false }, kinds := [], alts := [], laidByText := true, laidKinds := [.data, .pinned], laidTests := true, laidLooks := .later }
def MendOnesCardSaid : Prop := Claim7.holds Tryd.pinned (.plain (OpenSpec.ofChange mendOnesSpec)) mendOnesCard

/-- THE SECOND FORM's CARD OF 'corncriblaw03.StripeSplits'. -/
def stripeSplitsUptoCard : Claim7 := { stood := { row := stripeSplitsUptoRow, standIns := [], harness := (true, "1a62597f3035997030b9dc1416f8f6aad7d32ead6a367aa5d1eb3da61347132f"), looks := false }, kinds := [], alts := [], laidByText := true, laidKinds := [.data, .pinned], laidTests := true, laidLooks := .later }
def StripeSplitsUptoCardSaid : Prop := Claim7.holds Tryd.pinned (.plain (OpenSpec.upto stripeSplitsSpec)) stripeSplitsUptoCard

/-- THE SECOND FORM's CARD OF 'corncriblaw03.StripeJoins'. -/
def stripeJoinsUptoCard : Claim7 := { stood := { row := stripeJoinsUptoRow, standIns := [], harness := (true, "1a62597f3035997030b9dc1416f8f6aad7d32ead6a367aa5d1eb3da61347132f"), looks := false }, kinds := [], alts := [], laidByText := true, laidKinds := [.data, .pinned], laidTests := true, laidLooks := .later }
def StripeJoinsUptoCardSaid : Prop := Claim7.holds Tryd.pinned (.plain (OpenSpec.upto stripeJoinsSpec)) stripeJoinsUptoCard

/-- THE SECOND FORM's CARD OF 'corncriblaw03.StripeCodes'. -/
def stripeCodesUptoCard : Claim7 := { stood := { row := stripeCodesUptoRow, standIns := [], harness := (true, "1a62597f3035997030b9dc1416f8f6aad7d32ead6a367aa5d1eb3da61347132f"), looks := false }, kinds := [], alts := [], laidByText := true, laidKinds := [.data, .pinned], laidTests := true, laidLooks := .later }
def StripeCodesUptoCardSaid : Prop := Claim7.holds Tryd.pinned (.plain (OpenSpec.upto stripeCodesSpec)) stripeCodesUptoCard

/-- THE SECOND FORM's CARD OF 'corncriblaw03.StripeParity'. -/
def stripeParityUptoCard : Claim7 := { stood := { row := stripeParityUptoRow, standIns := [], harness := (true, "1a62597f3035997030b9dc1416f8f6aad7d32ead6a367aa5d1eb3da61347132f"), looks := false }, kinds := [], alts := [], laidByText := true, laidKinds := [.data, .pinned], laidTests := true, laidLooks := .later }
def StripeParityUptoCardSaid : Prop := Claim7.holds Tryd.pinned (.plain (OpenSpec.upto stripeParitySpec)) stripeParityUptoCard

/-- THE SECOND FORM's CARD OF 'corncriblaw03.StripeBack'. -/
def stripeBackUptoCard : Claim7 := { stood := { row := stripeBackUptoRow, standIns := [], harness := (true, "1a62597f3035997030b9dc1416f8f6aad7d32ead6a367aa5d1eb3da61347132f"), looks := false }, kinds := [], alts := [], laidByText := true, laidKinds := [.data, .pinned], laidTests := true, laidLooks := .later }
def StripeBackUptoCardSaid : Prop := Claim7.holds Tryd.pinned (.plain (OpenSpec.upto stripeBackSpec)) stripeBackUptoCard

/-- THE SECOND FORM's CARD OF 'corncriblaw03.StripeLinear'. -/
def stripeLinearUptoCard : Claim7 := { stood := { row := stripeLinearUptoRow, standIns := [], harness := (true, "1a62597f3035997030b9dc1416f8f6aad7d32ead6a367aa5d1eb3da61347132f"), looks := false }, kinds := [], alts := [], laidByText := true, laidKinds := [.data, .pinned], laidTests := true, laidLooks := .later }
def StripeLinearUptoCardSaid : Prop := Claim7.holds Tryd.pinned (.plain (OpenSpec.upto stripeLinearSpec)) stripeLinearUptoCard

/-- THE SECOND FORM's CARD OF 'corncriblaw03.StripeSizes'. -/
def stripeSizesUptoCard : Claim7 := { stood := { row := stripeSizesUptoRow, standIns := [], harness := (true, "1a62597f3035997030b9dc1416f8f6aad7d32ead6a367aa5d1eb3da61347132f"), looks := false }, kinds := [], alts := [], laidByText := true, laidKinds := [.data, .pinned], laidTests := true, laidLooks := .later }
def StripeSizesUptoCardSaid : Prop := Claim7.holds Tryd.pinned (.plain (OpenSpec.upto stripeSizesSpec)) stripeSizesUptoCard

/-- THE SECOND FORM's CARD OF 'corncriblaw04.MendChecks'. -/
def mendChecksUptoCard : Claim7 := { stood := { row := mendChecksUptoRow, standIns := [], harness := (true, "1a62597f3035997030b9dc1416f8f6aad7d32ead6a367aa5d1eb3da61347132f"), looks := false }, kinds := [], alts := [], laidByText := true, laidKinds := [.data, .pinned], laidTests := true, laidLooks := .later }
def MendChecksUptoCardSaid : Prop := Claim7.holds Tryd.pinned (.plain (OpenSpec.upto mendChecksSpec)) mendChecksUptoCard

/-- THE SECOND FORM's CARD OF 'corncriblaw04.MendMakes'. -/
def mendMakesUptoCard : Claim7 := { stood := { row := mendMakesUptoRow, standIns := [], harness := (true, "1a62597f3035997030b9dc1416f8f6aad7d32ead6a367aa5d1eb3da61347132f"), looks := false }, kinds := [], alts := [], laidByText := true, laidKinds := [.data, .pinned], laidTests := true, laidLooks := .later }
def MendMakesUptoCardSaid : Prop := Claim7.holds Tryd.pinned (.plain (OpenSpec.upto mendMakesSpec)) mendMakesUptoCard

/-- THE SECOND FORM's CARD OF 'corncriblaw04.MendAny'. -/
def mendAnyUptoCard : Claim7 := { stood := { row := mendAnyUptoRow, standIns := [], harness := (true, "1a62597f3035997030b9dc1416f8f6aad7d32ead6a367aa5d1eb3da61347132f"), looks := false }, kinds := [], alts := [], laidByText := true, laidKinds := [.data, .pinned], laidTests := true, laidLooks := .later }
def MendAnyUptoCardSaid : Prop := Claim7.holds Tryd.pinned (.plain (OpenSpec.upto mendAnySpec)) mendAnyUptoCard

/-- THE SECOND FORM's CARD OF 'corncriblaw04.MendChanges'. -/
def mendChangesUptoCard : Claim7 := { stood := { row := mendChangesUptoRow, standIns := [], harness := (true, "1a62597f3035997030b9dc1416f8f6aad7d32ead6a367aa5d1eb3da61347132f"), looks := false }, kinds := [], alts := [], laidByText := true, laidKinds := [.data, .pinned], laidTests := true, laidLooks := .later }
def MendChangesUptoCardSaid : Prop := Claim7.holds Tryd.pinned (.plain (OpenSpec.upto mendChangesSpec)) mendChangesUptoCard

/-- THE SECOND FORM's CARD OF 'corncriblaw04.MendOnes'. -/
def mendOnesUptoCard : Claim7 := { stood := { row := mendOnesUptoRow, standIns := [], harness := (true, "1a62597f3035997030b9dc1416f8f6aad7d32ead6a367aa5d1eb3da61347132f"), looks := false }, kinds := [], alts := [], laidByText := true, laidKinds := [.data, .pinned], laidTests := true, laidLooks := .later }
def MendOnesUptoCardSaid : Prop := Claim7.holds Tryd.pinned (.plain (OpenSpec.upto mendOnesSpec)) mendOnesUptoCard
end Rows
end Go.Proofs.YtegmmefijihdeaaDoor
