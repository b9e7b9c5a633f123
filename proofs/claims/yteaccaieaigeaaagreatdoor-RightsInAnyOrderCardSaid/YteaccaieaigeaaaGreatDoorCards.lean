/-
  DERIVED. GIVEN WITH THE SEED: THE CARDS: each row of YteaccaieaigeaaaGreatDoorRows.lean that lists a variable, with what it lists TIED to the program's text (the seventh form; the later family's looks); each row that meets fmt, with fmt's text TOLD by the authors' own Lean function (tested against real Go, not proved from fmt's source: count such statements apart). THE CARD IS WHAT COUNTS. Prove the row's statement (the work); the ties are given (YteaccaieaigeaaaGreatDoorTie.lean); close each card by the builder's one call (the guide's Derived/Test/ToyasCard.lean, 'card_holds'). Laid BY PROGRAM, IN A SANDBOX (cutbox-door.mjs). By AI agents, Wed Nov 11 2026. No macro, syntax, notation, axiom, sorry.
-/
import Derived.Test.YteaccaieaigeaaaGreatDoorRows
import GoSem.ClaimSeven
namespace Go.Proofs.YteaccaieaigeaaaGreatDoor
namespace Rows

/-- THE TIED CARD OF 'rivermarklaw39.RightsAllotAsSpecified'. -/
def rightsAllotAsSpecifiedCard : Claim7 := { stood := { row := rightsAllotAsSpecifiedRow, standIns := [], harness := (true, "d7a8993be00b473454610ecedcbc79001743675753c31cf4e67ecb5901ffe423"), looks := false }, kinds := [], alts := [], laidByText := true, laidKinds := [.data, .pinned], laidTests := true, laidLooks := .later }
def RightsAllotAsSpecifiedCardSaid : Prop := Claim7.holds Tryz.pinned (.plain (OpenSpec.ofChange rightsAllotAsSpecifiedSpec)) rightsAllotAsSpecifiedCard

/-- THE TIED CARD OF 'rivermarklaw39.RightsFairAsSpecified'. -/
def rightsFairAsSpecifiedCard : Claim7 := { stood := { row := rightsFairAsSpecifiedRow, standIns := [], harness := (true, "d7a8993be00b473454610ecedcbc79001743675753c31cf4e67ecb5901ffe423"), looks := false }, kinds := [], alts := [], laidByText := true, laidKinds := [.data, .pinned], laidTests := true, laidLooks := .later }
def RightsFairAsSpecifiedCardSaid : Prop := Claim7.holds Tryz.pinned (.plain (OpenSpec.ofChange rightsFairAsSpecifiedSpec)) rightsFairAsSpecifiedCard

/-- THE TIED CARD OF 'rivermarklaw39.RightsAreServed'. -/
def rightsAreServedCard : Claim7 := { stood := { row := rightsAreServedRow, standIns := [], harness := (true, "d7a8993be00b473454610ecedcbc79001743675753c31cf4e67ecb5901ffe423"), looks := false }, kinds := [], alts := [], laidByText := true, laidKinds := [.data, .pinned], laidTests := true, laidLooks := .later }
def RightsAreServedCardSaid : Prop := Claim7.holds Tryz.pinned (.plain (OpenSpec.ofChange rightsAreServedSpec)) rightsAreServedCard

/-- THE TIED CARD OF 'rivermarklaw39.RightsSeniorsFirst'. -/
def rightsSeniorsFirstCard : Claim7 := { stood := { row := rightsSeniorsFirstRow, standIns := [], harness := (true, "d7a8993be00b473454610ecedcbc79001743675753c31cf4e67ecb5901ffe423"), looks := false }, kinds := [], alts := [], laidByText := true, laidKinds := [.data, .pinned], laidTests := true, laidLooks := .later }
def RightsSeniorsFirstCardSaid : Prop := Claim7.holds Tryz.pinned (.plain (OpenSpec.ofChange rightsSeniorsFirstSpec)) rightsSeniorsFirstCard

/-- THE TIED CARD OF 'rivermarklaw39.RightsGrow'. -/
def rightsGrowCard : Claim7 := { stood := { row := rightsGrowRow, standIns := [], harness := (true, "d7a8993be00b473454610ecedcbc79001743675753c31cf4e67ecb5901ffe423"), looks := false }, kinds := [], alts := [], laidByText := true, laidKinds := [.data, .pinned], laidTests := true, laidLooks := .later }
def RightsGrowCardSaid : Prop := Claim7.holds Tryz.pinned (.plain (OpenSpec.ofChange rightsGrowSpec)) rightsGrowCard

/-- THE TIED CARD OF 'rivermarklaw39.RightsInAnyOrder'. -/
def rightsInAnyOrderCard : Claim7 := { stood := { row := rightsInAnyOrderRow, standIns := [], harness := (true, "d7a8993be00b473454610ecedcbc79001743675753c31cf4e67ecb5901ffe423"), looks := false }, kinds := [], alts := [], laidByText := true, laidKinds := [.data, .pinned], laidTests := true, laidLooks := .later }
def RightsInAnyOrderCardSaid : Prop := Claim7.holds Tryz.pinned (.plain (OpenSpec.ofChange rightsInAnyOrderSpec)) rightsInAnyOrderCard

/-- THE SECOND FORM's CARD OF 'rivermarklaw39.RightsAllotAsSpecified'. -/
def rightsAllotAsSpecifiedUptoCard : Claim7 := { stood := { row := rightsAllotAsSpecifiedUptoRow, standIns := [], harness := (true, "d7a8993be00b473454610ecedcbc79001743675753c31cf4e67ecb5901ffe423"), looks := false }, kinds := [], alts := [], laidByText := true, laidKinds := [.data, .pinned], laidTests := true, laidLooks := .later }
def RightsAllotAsSpecifiedUptoCardSaid : Prop := Claim7.holds Tryz.pinned (.plain (OpenSpec.upto rightsAllotAsSpecifiedSpec)) rightsAllotAsSpecifiedUptoCard

/-- THE SECOND FORM's CARD OF 'rivermarklaw39.RightsFairAsSpecified'. -/
def rightsFairAsSpecifiedUptoCard : Claim7 := { stood := { row := rightsFairAsSpecifiedUptoRow, standIns := [], harness := (true, "d7a8993be00b473454610ecedcbc79001743675753c31cf4e67ecb5901ffe423"), looks := false }, kinds := [], alts := [], laidByText := true, laidKinds := [.data, .pinned], laidTests := true, laidLooks := .later }
def RightsFairAsSpecifiedUptoCardSaid : Prop := Claim7.holds Tryz.pinned (.plain (OpenSpec.upto rightsFairAsSpecifiedSpec)) rightsFairAsSpecifiedUptoCard

/-- THE SECOND FORM's CARD OF 'rivermarklaw39.RightsAreServed'. -/
def rightsAreServedUptoCard : Claim7 := { stood := { row := rightsAreServedUptoRow, standIns := [], harness := (true, "d7a8993be00b473454610ecedcbc79001743675753c31cf4e67ecb5901ffe423"), looks := false }, kinds := [], alts := [], laidByText := true, laidKinds := [.data, .pinned], laidTests := true, laidLooks := .later }
def RightsAreServedUptoCardSaid : Prop := Claim7.holds Tryz.pinned (.plain (OpenSpec.upto rightsAreServedSpec)) rightsAreServedUptoCard

/-- THE SECOND FORM's CARD OF 'rivermarklaw39.RightsSeniorsFirst'. -/
def rightsSeniorsFirstUptoCard : Claim7 := { stood := { row := rightsSeniorsFirstUptoRow, standIns := [], harness := (true, "d7a8993be00b473454610ecedcbc79001743675753c31cf4e67ecb5901ffe423"), looks := false }, kinds := [], alts := [], laidByText := true, laidKinds := [.data, .pinned], laidTests := true, laidLooks := .later }
def RightsSeniorsFirstUptoCardSaid : Prop := Claim7.holds Tryz.pinned (.plain (OpenSpec.upto rightsSeniorsFirstSpec)) rightsSeniorsFirstUptoCard

/-- THE SECOND FORM's CARD OF 'rivermarklaw39.RightsGrow'. -/
def rightsGrowUptoCard : Claim7 := { stood := { row := rightsGrowUptoRow, standIns := [], harness := (true, "d7a8993be00b473454610ecedcbc79001743675753c31cf4e67ecb5901ffe423"), looks := false }, kinds := [], alts := [], laidByText := true, laidKinds := [.data, .pinned], laidTests := true, laidLooks := .later }
def RightsGrowUptoCardSaid : Prop := Claim7.holds Tryz.pinned (.plain (OpenSpec.upto rightsGrowSpec)) rightsGrowUptoCard

/-- THE SECOND FORM's CARD OF 'rivermarklaw39.RightsInAnyOrder'. -/
def rightsInAnyOrderUptoCard : Claim7 := { stood := { row := rightsInAnyOrderUptoRow, standIns := [], harness := (true, "d7a8993be00b473454610ecedcbc79001743675753c31cf4e67ecb5901ffe423"), looks := false }, kinds := [], alts := [], laidByText := true, laidKinds := [.data, .pinned], laidTests := true, laidLooks := .later }
def RightsInAnyOrderUptoCardSaid : Prop := Claim7.holds Tryz.pinned (.plain (OpenSpec.upto rightsInAnyOrderSpec)) rightsInAnyOrderUptoCard
end Rows
end Go.Proofs.YteaccaieaigeaaaGreatDoor
