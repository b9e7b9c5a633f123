/-
  DERIVED. GIVEN WITH THE SEED: THE CARDS: each row of YthkdfpbjkpgckaaGreatDoorRows.lean that lists a variable, with what it lists TIED to the program's text (the seventh form; the later family's looks); each row that meets fmt, with fmt's text TOLD by the authors' own Lean function (tested against real Go, not proved from fmt's source: count such statements apart). THE CARD IS WHAT COUNTS. Prove the row's statement (the work); the ties are given (YthkdfpbjkpgckaaGreatDoorTie.lean); close each card by the builder's one call (the guide's Derived/Test/ToyasCard.lean, 'card_holds'). Laid BY PROGRAM, IN A SANDBOX (cutbox-door.mjs). By AI agents, Wed Nov 11 2026. No macro, syntax, notation, axiom, sorry.
-/
import Derived.Test.YthkdfpbjkpgckaaGreatDoorRows
import GoSem.ClaimSeven
namespace Go.Proofs.YthkdfpbjkpgckaaGreatDoor
namespace Rows

/-- THE TIED CARD OF 'rivermarklaw17.VolumesAreAsSpecified'. -/
def volumesAreAsSpecifiedCard : Claim7 := { stood := { row := volumesAreAsSpecifiedRow, standIns := [], harness := (true, "537da5c93c29752851510ac4d93c6f086eb4523b3c1c22b8c4cf580393308b42"), looks := false }, kinds := [], alts := [], laidByText := true, laidKinds := [.data, .pinned], laidTests := true, laidLooks := .later }
def VolumesAreAsSpecifiedCardSaid : Prop := Claim7.holds Tryz.pinned (.plain (OpenSpec.ofChange volumesAreAsSpecifiedSpec)) volumesAreAsSpecifiedCard

/-- THE TIED CARD OF 'rivermarklaw17.VolumeExactAsSpecified'. -/
def volumeExactAsSpecifiedCard : Claim7 := { stood := { row := volumeExactAsSpecifiedRow, standIns := [], harness := (true, "537da5c93c29752851510ac4d93c6f086eb4523b3c1c22b8c4cf580393308b42"), looks := false }, kinds := [], alts := [], laidByText := true, laidKinds := [.data, .pinned], laidTests := true, laidLooks := .later }
def VolumeExactAsSpecifiedCardSaid : Prop := Claim7.holds Tryz.pinned (.plain (OpenSpec.ofChange volumeExactAsSpecifiedSpec)) volumeExactAsSpecifiedCard

/-- THE TIED CARD OF 'rivermarklaw17.VolumeIsLinear'. -/
def volumeIsLinearCard : Claim7 := { stood := { row := volumeIsLinearRow, standIns := [], harness := (true, "537da5c93c29752851510ac4d93c6f086eb4523b3c1c22b8c4cf580393308b42"), looks := false }, kinds := [], alts := [], laidByText := true, laidKinds := [.data, .pinned], laidTests := true, laidLooks := .later }
def VolumeIsLinearCardSaid : Prop := Claim7.holds Tryz.pinned (.plain (OpenSpec.ofChange volumeIsLinearSpec)) volumeIsLinearCard

/-- THE TIED CARD OF 'rivermarklaw17.VolumeOfTables'. -/
def volumeOfTablesCard : Claim7 := { stood := { row := volumeOfTablesRow, standIns := [], harness := (true, "537da5c93c29752851510ac4d93c6f086eb4523b3c1c22b8c4cf580393308b42"), looks := false }, kinds := [], alts := [], laidByText := true, laidKinds := [.data, .pinned], laidTests := true, laidLooks := .later }
def VolumeOfTablesCardSaid : Prop := Claim7.holds Tryz.pinned (.plain (OpenSpec.ofChange volumeOfTablesSpec)) volumeOfTablesCard

/-- THE TIED CARD OF 'rivermarklaw17.VolumeIsDecided'. -/
def volumeIsDecidedCard : Claim7 := { stood := { row := volumeIsDecidedRow, standIns := [], harness := (true, "537da5c93c29752851510ac4d93c6f086eb4523b3c1c22b8c4cf580393308b42"), looks := false }, kinds := [], alts := [], laidByText := true, laidKinds := [.data, .pinned], laidTests := true, laidLooks := .later }
def VolumeIsDecidedCardSaid : Prop := Claim7.holds Tryz.pinned (.plain (OpenSpec.ofChange volumeIsDecidedSpec)) volumeIsDecidedCard

/-- THE SECOND FORM's CARD OF 'rivermarklaw17.VolumesAreAsSpecified'. -/
def volumesAreAsSpecifiedUptoCard : Claim7 := { stood := { row := volumesAreAsSpecifiedUptoRow, standIns := [], harness := (true, "537da5c93c29752851510ac4d93c6f086eb4523b3c1c22b8c4cf580393308b42"), looks := false }, kinds := [], alts := [], laidByText := true, laidKinds := [.data, .pinned], laidTests := true, laidLooks := .later }
def VolumesAreAsSpecifiedUptoCardSaid : Prop := Claim7.holds Tryz.pinned (.plain (OpenSpec.upto volumesAreAsSpecifiedSpec)) volumesAreAsSpecifiedUptoCard

/-- THE SECOND FORM's CARD OF 'rivermarklaw17.VolumeExactAsSpecified'. -/
def volumeExactAsSpecifiedUptoCard : Claim7 := { stood := { row := volumeExactAsSpecifiedUptoRow, standIns := [], harness := (true, "537da5c93c29752851510ac4d93c6f086eb4523b3c1c22b8c4cf580393308b42"), looks := false }, kinds := [], alts := [], laidByText := true, laidKinds := [.data, .pinned], laidTests := true, laidLooks := .later }
def VolumeExactAsSpecifiedUptoCardSaid : Prop := Claim7.holds Tryz.pinned (.plain (OpenSpec.upto volumeExactAsSpecifiedSpec)) volumeExactAsSpecifiedUptoCard

/-- THE SECOND FORM's CARD OF 'rivermarklaw17.VolumeIsLinear'. -/
def volumeIsLinearUptoCard : Claim7 := { stood := { row := volumeIsLinearUptoRow, standIns := [], harness := (true, "537da5c93c29752851510ac4d93c6f086eb4523b3c1c22b8c4cf580393308b42"), looks := false }, kinds := [], alts := [], laidByText := true, laidKinds := [.data, .pinned], laidTests := true, laidLooks := .later }
def VolumeIsLinearUptoCardSaid : Prop := Claim7.holds Tryz.pinned (.plain (OpenSpec.upto volumeIsLinearSpec)) volumeIsLinearUptoCard

/-- THE SECOND FORM's CARD OF 'rivermarklaw17.VolumeOfTables'. -/
def volumeOfTablesUptoCard : Claim7 := { stood := { row := volumeOfTablesUptoRow, standIns := [], harness := (true, "537da5c93c29752851510ac4d93c6f086eb4523b3c1c22b8c4cf580393308b42"), looks := false }, kinds := [], alts := [], laidByText := true, laidKinds := [.data, .pinned], laidTests := true, laidLooks := .later }
def VolumeOfTablesUptoCardSaid : Prop := Claim7.holds Tryz.pinned (.plain (OpenSpec.upto volumeOfTablesSpec)) volumeOfTablesUptoCard

/-- THE SECOND FORM's CARD OF 'rivermarklaw17.VolumeIsDecided'. -/
def volumeIsDecidedUptoCard : Claim7 := { stood := { row := volumeIsDecidedUptoRow, standIns := [], harness := (true, "537da5c93c29752851510ac4d93c6f086eb4523b3c1c22b8c4cf580393308b42"), looks := false }, kinds := [], alts := [], laidByText := true, laidKinds := [.data, .pinned], laidTests := true, laidLooks := .later }
def VolumeIsDecidedUptoCardSaid : Prop := Claim7.holds Tryz.pinned (.plain (OpenSpec.upto volumeIsDecidedSpec)) volumeIsDecidedUptoCard
end Rows
end Go.Proofs.YthkdfpbjkpgckaaGreatDoor
