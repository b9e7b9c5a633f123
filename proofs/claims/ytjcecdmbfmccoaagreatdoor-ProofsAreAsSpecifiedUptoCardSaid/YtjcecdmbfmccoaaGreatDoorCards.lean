/-
  DERIVED. GIVEN WITH THE SEED: THE CARDS: each row of YtjcecdmbfmccoaaGreatDoorRows.lean that lists a variable, with what it lists TIED to the program's text (the seventh form; the later family's looks); each row that meets fmt, with fmt's text TOLD by the authors' own Lean function (tested against real Go, not proved from fmt's source: count such statements apart). THE CARD IS WHAT COUNTS. Prove the row's statement (the work); the ties are given (YtjcecdmbfmccoaaGreatDoorTie.lean); close each card by the builder's one call (the guide's Derived/Test/ToyasCard.lean, 'card_holds'). Laid BY PROGRAM, IN A SANDBOX (cutbox-door.mjs). By AI agents, Wed Nov 11 2026. No macro, syntax, notation, axiom, sorry.
-/
import Derived.Test.YtjcecdmbfmccoaaGreatDoorRows
import GoSem.ClaimSeven
namespace Go.Proofs.YtjcecdmbfmccoaaGreatDoor
namespace Rows

/-- THE TIED CARD OF 'rivermarklaw22.ProofsAreAsSpecified'. -/
def proofsAreAsSpecifiedCard : Claim7 := { stood := { row := proofsAreAsSpecifiedRow, standIns := [], harness := (true, "0f995ed6265ad309ffbb61bd23bb41fd2b2b9e6ae9add80405d43d77db80ab73"), looks := false }, kinds := [], alts := [], laidByText := true, laidKinds := [.data, .pinned], laidTests := true, laidLooks := .later }
def ProofsAreAsSpecifiedCardSaid : Prop := Claim7.holds Tryz.pinned (.plain (OpenSpec.ofChange proofsAreAsSpecifiedSpec)) proofsAreAsSpecifiedCard

/-- THE TIED CARD OF 'rivermarklaw22.ProofsAreSound'. -/
def proofsAreSoundCard : Claim7 := { stood := { row := proofsAreSoundRow, standIns := [], harness := (true, "0f995ed6265ad309ffbb61bd23bb41fd2b2b9e6ae9add80405d43d77db80ab73"), looks := false }, kinds := [], alts := [], laidByText := true, laidKinds := [.data, .pinned], laidTests := true, laidLooks := .later }
def ProofsAreSoundCardSaid : Prop := Claim7.holds Tryz.pinned (.plain (OpenSpec.ofChange proofsAreSoundSpec)) proofsAreSoundCard

/-- THE TIED CARD OF 'rivermarklaw22.ProofsAreComplete'. -/
def proofsAreCompleteCard : Claim7 := { stood := { row := proofsAreCompleteRow, standIns := [], harness := (true, "0f995ed6265ad309ffbb61bd23bb41fd2b2b9e6ae9add80405d43d77db80ab73"), looks := false }, kinds := [], alts := [], laidByText := true, laidKinds := [.data, .pinned], laidTests := true, laidLooks := .later }
def ProofsAreCompleteCardSaid : Prop := Claim7.holds Tryz.pinned (.plain (OpenSpec.ofChange proofsAreCompleteSpec)) proofsAreCompleteCard

/-- THE TIED CARD OF 'rivermarklaw22.ProofsAreExact'. -/
def proofsAreExactCard : Claim7 := { stood := { row := proofsAreExactRow, standIns := [], harness := (true, "0f995ed6265ad309ffbb61bd23bb41fd2b2b9e6ae9add80405d43d77db80ab73"), looks := false }, kinds := [], alts := [], laidByText := true, laidKinds := [.data, .pinned], laidTests := true, laidLooks := .later }
def ProofsAreExactCardSaid : Prop := Claim7.holds Tryz.pinned (.plain (OpenSpec.ofChange proofsAreExactSpec)) proofsAreExactCard

/-- THE TIED CARD OF 'rivermarklaw22.ProofsMove'. -/
def proofsMoveCard : Claim7 := { stood := { row := proofsMoveRow, standIns := [], harness := (true, "0f995ed6265ad309ffbb61bd23bb41fd2b2b9e6ae9add80405d43d77db80ab73"), looks := false }, kinds := [], alts := [], laidByText := true, laidKinds := [.data, .pinned], laidTests := true, laidLooks := .later }
def ProofsMoveCardSaid : Prop := Claim7.holds Tryz.pinned (.plain (OpenSpec.ofChange proofsMoveSpec)) proofsMoveCard

/-- THE SECOND FORM's CARD OF 'rivermarklaw22.ProofsAreAsSpecified'. -/
def proofsAreAsSpecifiedUptoCard : Claim7 := { stood := { row := proofsAreAsSpecifiedUptoRow, standIns := [], harness := (true, "0f995ed6265ad309ffbb61bd23bb41fd2b2b9e6ae9add80405d43d77db80ab73"), looks := false }, kinds := [], alts := [], laidByText := true, laidKinds := [.data, .pinned], laidTests := true, laidLooks := .later }
def ProofsAreAsSpecifiedUptoCardSaid : Prop := Claim7.holds Tryz.pinned (.plain (OpenSpec.upto proofsAreAsSpecifiedSpec)) proofsAreAsSpecifiedUptoCard

/-- THE SECOND FORM's CARD OF 'rivermarklaw22.ProofsAreSound'. -/
def proofsAreSoundUptoCard : Claim7 := { stood := { row := proofsAreSoundUptoRow, standIns := [], harness := (true, "0f995ed6265ad309ffbb61bd23bb41fd2b2b9e6ae9add80405d43d77db80ab73"), looks := false }, kinds := [], alts := [], laidByText := true, laidKinds := [.data, .pinned], laidTests := true, laidLooks := .later }
def ProofsAreSoundUptoCardSaid : Prop := Claim7.holds Tryz.pinned (.plain (OpenSpec.upto proofsAreSoundSpec)) proofsAreSoundUptoCard

/-- THE SECOND FORM's CARD OF 'rivermarklaw22.ProofsAreComplete'. -/
def proofsAreCompleteUptoCard : Claim7 := { stood := { row := proofsAreCompleteUptoRow, standIns := [], harness := (true, "0f995ed6265ad309ffbb61bd23bb41fd2b2b9e6ae9add80405d43d77db80ab73"), looks := false }, kinds := [], alts := [], laidByText := true, laidKinds := [.data, .pinned], laidTests := true, laidLooks := .later }
def ProofsAreCompleteUptoCardSaid : Prop := Claim7.holds Tryz.pinned (.plain (OpenSpec.upto proofsAreCompleteSpec)) proofsAreCompleteUptoCard

/-- THE SECOND FORM's CARD OF 'rivermarklaw22.ProofsAreExact'. -/
def proofsAreExactUptoCard : Claim7 := { stood := { row := proofsAreExactUptoRow, standIns := [], harness := (true, "0f995ed6265ad309ffbb61bd23bb41fd2b2b9e6ae9add80405d43d77db80ab73"), looks := false }, kinds := [], alts := [], laidByText := true, laidKinds := [.data, .pinned], laidTests := true, laidLooks := .later }
def ProofsAreExactUptoCardSaid : Prop := Claim7.holds Tryz.pinned (.plain (OpenSpec.upto proofsAreExactSpec)) proofsAreExactUptoCard

/-- THE SECOND FORM's CARD OF 'rivermarklaw22.ProofsMove'. -/
def proofsMoveUptoCard : Claim7 := { stood := { row := proofsMoveUptoRow, standIns := [], harness := (true, "0f995ed6265ad309ffbb61bd23bb41fd2b2b9e6ae9add80405d43d77db80ab73"), looks := false }, kinds := [], alts := [], laidByText := true, laidKinds := [.data, .pinned], laidTests := true, laidLooks := .later }
def ProofsMoveUptoCardSaid : Prop := Claim7.holds Tryz.pinned (.plain (OpenSpec.upto proofsMoveSpec)) proofsMoveUptoCard
end Rows
end Go.Proofs.YtjcecdmbfmccoaaGreatDoor
