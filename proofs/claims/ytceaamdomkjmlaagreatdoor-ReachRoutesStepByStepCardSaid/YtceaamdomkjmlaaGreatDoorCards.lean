/-
  DERIVED. GIVEN WITH THE SEED: THE CARDS: each row of YtceaamdomkjmlaaGreatDoorRows.lean that lists a variable, with what it lists TIED to the program's text (the seventh form; the later family's looks); each row that meets fmt, with fmt's text TOLD by the authors' own Lean function (tested against real Go, not proved from fmt's source: count such statements apart). THE CARD IS WHAT COUNTS. Prove the row's statement (the work); the ties are given (YtceaamdomkjmlaaGreatDoorTie.lean); close each card by the builder's one call (the guide's Derived/Test/ToyasCard.lean, 'card_holds'). Laid BY PROGRAM, IN A SANDBOX (cutbox-door.mjs). By AI agents, Wed Nov 11 2026. No macro, syntax, notation, axiom, sorry.
-/
import Derived.Test.YtceaamdomkjmlaaGreatDoorRows
import GoSem.ClaimSeven
namespace Go.Proofs.YtceaamdomkjmlaaGreatDoor
namespace Rows

/-- THE TIED CARD OF 'rivermarklaw32.ReachesAreAsSpecified'. -/
def reachesAreAsSpecifiedCard : Claim7 := { stood := { row := reachesAreAsSpecifiedRow, standIns := [], harness := (true, "cf6233d8dfc245fc1500cf1ab29437af4aa8ee589d0a1905e3e03d8cf5fdfaea"), looks := false }, kinds := [], alts := [], laidByText := true, laidKinds := [.data, .pinned], laidTests := true, laidLooks := .later }
def ReachesAreAsSpecifiedCardSaid : Prop := Claim7.holds Tryz.pinned (.plain (OpenSpec.ofChange reachesAreAsSpecifiedSpec)) reachesAreAsSpecifiedCard

/-- THE TIED CARD OF 'rivermarklaw32.ReachPathsCompose'. -/
def reachPathsComposeCard : Claim7 := { stood := { row := reachPathsComposeRow, standIns := [], harness := (true, "cf6233d8dfc245fc1500cf1ab29437af4aa8ee589d0a1905e3e03d8cf5fdfaea"), looks := false }, kinds := [], alts := [], laidByText := true, laidKinds := [.data, .pinned], laidTests := true, laidLooks := .later }
def ReachPathsComposeCardSaid : Prop := Claim7.holds Tryz.pinned (.plain (OpenSpec.ofChange reachPathsComposeSpec)) reachPathsComposeCard

/-- THE TIED CARD OF 'rivermarklaw32.ReachBasins'. -/
def reachBasinsCard : Claim7 := { stood := { row := reachBasinsRow, standIns := [], harness := (true, "cf6233d8dfc245fc1500cf1ab29437af4aa8ee589d0a1905e3e03d8cf5fdfaea"), looks := false }, kinds := [], alts := [], laidByText := true, laidKinds := [.data, .pinned], laidTests := true, laidLooks := .later }
def ReachBasinsCardSaid : Prop := Claim7.holds Tryz.pinned (.plain (OpenSpec.ofChange reachBasinsSpec)) reachBasinsCard

/-- THE TIED CARD OF 'rivermarklaw32.ReachLosesNothing'. -/
def reachLosesNothingCard : Claim7 := { stood := { row := reachLosesNothingRow, standIns := [], harness := (true, "cf6233d8dfc245fc1500cf1ab29437af4aa8ee589d0a1905e3e03d8cf5fdfaea"), looks := false }, kinds := [], alts := [], laidByText := true, laidKinds := [.data, .pinned], laidTests := true, laidLooks := .later }
def ReachLosesNothingCardSaid : Prop := Claim7.holds Tryz.pinned (.plain (OpenSpec.ofChange reachLosesNothingSpec)) reachLosesNothingCard

/-- THE TIED CARD OF 'rivermarklaw32.ReachRoutesStepByStep'. -/
def reachRoutesStepByStepCard : Claim7 := { stood := { row := reachRoutesStepByStepRow, standIns := [], harness := (true, "cf6233d8dfc245fc1500cf1ab29437af4aa8ee589d0a1905e3e03d8cf5fdfaea"), looks := false }, kinds := [], alts := [], laidByText := true, laidKinds := [.data, .pinned], laidTests := true, laidLooks := .later }
def ReachRoutesStepByStepCardSaid : Prop := Claim7.holds Tryz.pinned (.plain (OpenSpec.ofChange reachRoutesStepByStepSpec)) reachRoutesStepByStepCard

/-- THE SECOND FORM's CARD OF 'rivermarklaw32.ReachesAreAsSpecified'. -/
def reachesAreAsSpecifiedUptoCard : Claim7 := { stood := { row := reachesAreAsSpecifiedUptoRow, standIns := [], harness := (true, "cf6233d8dfc245fc1500cf1ab29437af4aa8ee589d0a1905e3e03d8cf5fdfaea"), looks := false }, kinds := [], alts := [], laidByText := true, laidKinds := [.data, .pinned], laidTests := true, laidLooks := .later }
def ReachesAreAsSpecifiedUptoCardSaid : Prop := Claim7.holds Tryz.pinned (.plain (OpenSpec.upto reachesAreAsSpecifiedSpec)) reachesAreAsSpecifiedUptoCard

/-- THE SECOND FORM's CARD OF 'rivermarklaw32.ReachPathsCompose'. -/
def reachPathsComposeUptoCard : Claim7 := { stood := { row := reachPathsComposeUptoRow, standIns := [], harness := (true, "cf6233d8dfc245fc1500cf1ab29437af4aa8ee589d0a1905e3e03d8cf5fdfaea"), looks := false }, kinds := [], alts := [], laidByText := true, laidKinds := [.data, .pinned], laidTests := true, laidLooks := .later }
def ReachPathsComposeUptoCardSaid : Prop := Claim7.holds Tryz.pinned (.plain (OpenSpec.upto reachPathsComposeSpec)) reachPathsComposeUptoCard

/-- THE SECOND FORM's CARD OF 'rivermarklaw32.ReachBasins'. -/
def reachBasinsUptoCard : Claim7 := { stood := { row := reachBasinsUptoRow, standIns := [], harness := (true, "cf6233d8dfc245fc1500cf1ab29437af4aa8ee589d0a1905e3e03d8cf5fdfaea"), looks := false }, kinds := [], alts := [], laidByText := true, laidKinds := [.data, .pinned], laidTests := true, laidLooks := .later }
def ReachBasinsUptoCardSaid : Prop := Claim7.holds Tryz.pinned (.plain (OpenSpec.upto reachBasinsSpec)) reachBasinsUptoCard

/-- THE SECOND FORM's CARD OF 'rivermarklaw32.ReachLosesNothing'. -/
def reachLosesNothingUptoCard : Claim7 := { stood := { row := reachLosesNothingUptoRow, standIns := [], harness := (true, "cf6233d8dfc245fc1500cf1ab29437af4aa8ee589d0a1905e3e03d8cf5fdfaea"), looks := false }, kinds := [], alts := [], laidByText := true, laidKinds := [.data, .pinned], laidTests := true, laidLooks := .later }
def ReachLosesNothingUptoCardSaid : Prop := Claim7.holds Tryz.pinned (.plain (OpenSpec.upto reachLosesNothingSpec)) reachLosesNothingUptoCard

/-- THE SECOND FORM's CARD OF 'rivermarklaw32.ReachRoutesStepByStep'. -/
def reachRoutesStepByStepUptoCard : Claim7 := { stood := { row := reachRoutesStepByStepUptoRow, standIns := [], harness := (true, "cf6233d8dfc245fc1500cf1ab29437af4aa8ee589d0a1905e3e03d8cf5fdfaea"), looks := false }, kinds := [], alts := [], laidByText := true, laidKinds := [.data, .pinned], laidTests := true, laidLooks := .later }
def ReachRoutesStepByStepUptoCardSaid : Prop := Claim7.holds Tryz.pinned (.plain (OpenSpec.upto reachRoutesStepByStepSpec)) reachRoutesStepByStepUptoCard
end Rows
end Go.Proofs.YtceaamdomkjmlaaGreatDoor
