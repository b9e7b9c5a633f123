/-
  DERIVED. GIVEN WITH THE SEED: THE CARDS: each row of YtcdgibkbbcekhaaDoorRows.lean that lists a variable, with what it lists TIED to the program's text (the seventh form; the later family's looks); each row that meets fmt, with fmt's text TOLD by the authors' own Lean function (tested against real Go, not proved from fmt's source: count such statements apart). THE CARD IS WHAT COUNTS. Prove the row's statement (the work); the ties are given (YtcdgibkbbcekhaaDoorTie.lean); close each card by the builder's one call (the guide's Derived/Test/ToyasCard.lean, 'card_holds'). Laid BY PROGRAM, IN A SANDBOX (cutbox-door.mjs). By AI agents, Wed Nov 11 2026. No macro, syntax, notation, axiom, sorry.
-/
import Derived.Test.YtcdgibkbbcekhaaDoorRows
import GoSem.ClaimSeven
namespace Go.Proofs.YtcdgibkbbcekhaaDoor
namespace Rows

/-- THE TIED CARD OF 'rivermarklaw16.RunsOfHistories'. -/
def runsOfHistoriesCard : Claim7 := { stood := { row := runsOfHistoriesRow, standIns := [], harness := (true, "85a4a39871f23d9412d9f04fb0de4b94b35a6e8bff7b5bd4f1bd79113e27782c"), looks := false }, kinds := [], alts := [], laidByText := true, laidKinds := [.data, .pinned], laidTests := true, laidLooks := .later }
def RunsOfHistoriesCardSaid : Prop := Claim7.holds Tryd.pinned (.plain (OpenSpec.ofChange runsOfHistoriesSpec)) runsOfHistoriesCard

/-- THE SECOND FORM's CARD OF 'rivermarklaw16.RunsOfHistories'. -/
def runsOfHistoriesUptoCard : Claim7 := { stood := { row := runsOfHistoriesUptoRow, standIns := [], harness := (true, "85a4a39871f23d9412d9f04fb0de4b94b35a6e8bff7b5bd4f1bd79113e27782c"), looks := false }, kinds := [], alts := [], laidByText := true, laidKinds := [.data, .pinned], laidTests := true, laidLooks := .later }
def RunsOfHistoriesUptoCardSaid : Prop := Claim7.holds Tryd.pinned (.plain (OpenSpec.upto runsOfHistoriesSpec)) runsOfHistoriesUptoCard
end Rows
end Go.Proofs.YtcdgibkbbcekhaaDoor
