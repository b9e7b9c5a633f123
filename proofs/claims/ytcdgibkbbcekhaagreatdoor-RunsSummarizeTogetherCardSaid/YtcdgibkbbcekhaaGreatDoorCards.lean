/-
  DERIVED. GIVEN WITH THE SEED: THE CARDS: each row of YtcdgibkbbcekhaaGreatDoorRows.lean that lists a variable, with what it lists TIED to the program's text (the seventh form; the later family's looks); each row that meets fmt, with fmt's text TOLD by the authors' own Lean function (tested against real Go, not proved from fmt's source: count such statements apart). THE CARD IS WHAT COUNTS. Prove the row's statement (the work); the ties are given (YtcdgibkbbcekhaaGreatDoorTie.lean); close each card by the builder's one call (the guide's Derived/Test/ToyasCard.lean, 'card_holds'). Laid BY PROGRAM, IN A SANDBOX (cutbox-door.mjs). By AI agents, Wed Nov 11 2026. No macro, syntax, notation, axiom, sorry.
-/
import Derived.Test.YtcdgibkbbcekhaaGreatDoorRows
import GoSem.ClaimSeven
namespace Go.Proofs.YtcdgibkbbcekhaaGreatDoor
namespace Rows

/-- THE TIED CARD OF 'rivermarklaw39.RightsGrow'. -/
def rightsGrowCard : Claim7 := { stood := { row := rightsGrowRow, standIns := [], harness := (true, "3901c5b8a4853387eace064f7960cbcb512eceb44dabd10b061f6c169b50ef85"), looks := false }, kinds := [], alts := [], laidByText := true, laidKinds := [.data, .pinned], laidTests := true, laidLooks := .later }
def RightsGrowCardSaid : Prop := Claim7.holds Tryz.pinned (.plain (OpenSpec.ofChange rightsGrowSpec)) rightsGrowCard

/-- THE TIED CARD OF 'rivermarklaw16.RunsAreAsSpecified'. -/
def runsAreAsSpecifiedCard : Claim7 := { stood := { row := runsAreAsSpecifiedRow, standIns := [], harness := (true, "3901c5b8a4853387eace064f7960cbcb512eceb44dabd10b061f6c169b50ef85"), looks := false }, kinds := [], alts := [], laidByText := true, laidKinds := [.data, .pinned], laidTests := true, laidLooks := .later }
def RunsAreAsSpecifiedCardSaid : Prop := Claim7.holds Tryz.pinned (.plain (OpenSpec.ofChange runsAreAsSpecifiedSpec)) runsAreAsSpecifiedCard

/-- THE TIED CARD OF 'rivermarklaw16.RunsCutAsSpecified'. -/
def runsCutAsSpecifiedCard : Claim7 := { stood := { row := runsCutAsSpecifiedRow, standIns := [], harness := (true, "3901c5b8a4853387eace064f7960cbcb512eceb44dabd10b061f6c169b50ef85"), looks := false }, kinds := [], alts := [], laidByText := true, laidKinds := [.data, .pinned], laidTests := true, laidLooks := .later }
def RunsCutAsSpecifiedCardSaid : Prop := Claim7.holds Tryz.pinned (.plain (OpenSpec.ofChange runsCutAsSpecifiedSpec)) runsCutAsSpecifiedCard

/-- THE TIED CARD OF 'rivermarklaw16.RunsSummarizeTogether'. -/
def runsSummarizeTogetherCard : Claim7 := { stood := { row := runsSummarizeTogetherRow, standIns := [], harness := (true, "3901c5b8a4853387eace064f7960cbcb512eceb44dabd10b061f6c169b50ef85"), looks := false }, kinds := [], alts := [], laidByText := true, laidKinds := [.data, .pinned], laidTests := true, laidLooks := .later }
def RunsSummarizeTogetherCardSaid : Prop := Claim7.holds Tryz.pinned (.plain (OpenSpec.ofChange runsSummarizeTogetherSpec)) runsSummarizeTogetherCard

/-- THE TIED CARD OF 'rivermarklaw16.RunsCutAndJoin'. -/
def runsCutAndJoinCard : Claim7 := { stood := { row := runsCutAndJoinRow, standIns := [], harness := (true, "3901c5b8a4853387eace064f7960cbcb512eceb44dabd10b061f6c169b50ef85"), looks := false }, kinds := [], alts := [], laidByText := true, laidKinds := [.data, .pinned], laidTests := true, laidLooks := .later }
def RunsCutAndJoinCardSaid : Prop := Claim7.holds Tryz.pinned (.plain (OpenSpec.ofChange runsCutAndJoinSpec)) runsCutAndJoinCard

/-- THE TIED CARD OF 'rivermarklaw16.RunsFinerIsExact'. -/
def runsFinerIsExactCard : Claim7 := { stood := { row := runsFinerIsExactRow, standIns := [], harness := (true, "3901c5b8a4853387eace064f7960cbcb512eceb44dabd10b061f6c169b50ef85"), looks := false }, kinds := [], alts := [], laidByText := true, laidKinds := [.data, .pinned], laidTests := true, laidLooks := .later }
def RunsFinerIsExactCardSaid : Prop := Claim7.holds Tryz.pinned (.plain (OpenSpec.ofChange runsFinerIsExactSpec)) runsFinerIsExactCard

/-- THE TIED CARD OF 'rivermarklaw16.RunsCountHistories'. -/
def runsCountHistoriesCard : Claim7 := { stood := { row := runsCountHistoriesRow, standIns := [], harness := (true, "3901c5b8a4853387eace064f7960cbcb512eceb44dabd10b061f6c169b50ef85"), looks := false }, kinds := [], alts := [], laidByText := true, laidKinds := [.data, .pinned], laidTests := true, laidLooks := .later }
def RunsCountHistoriesCardSaid : Prop := Claim7.holds Tryz.pinned (.plain (OpenSpec.ofChange runsCountHistoriesSpec)) runsCountHistoriesCard

/-- THE SECOND FORM's CARD OF 'rivermarklaw39.RightsGrow'. -/
def rightsGrowUptoCard : Claim7 := { stood := { row := rightsGrowUptoRow, standIns := [], harness := (true, "3901c5b8a4853387eace064f7960cbcb512eceb44dabd10b061f6c169b50ef85"), looks := false }, kinds := [], alts := [], laidByText := true, laidKinds := [.data, .pinned], laidTests := true, laidLooks := .later }
def RightsGrowUptoCardSaid : Prop := Claim7.holds Tryz.pinned (.plain (OpenSpec.upto rightsGrowSpec)) rightsGrowUptoCard

/-- THE SECOND FORM's CARD OF 'rivermarklaw16.RunsAreAsSpecified'. -/
def runsAreAsSpecifiedUptoCard : Claim7 := { stood := { row := runsAreAsSpecifiedUptoRow, standIns := [], harness := (true, "3901c5b8a4853387eace064f7960cbcb512eceb44dabd10b061f6c169b50ef85"), looks := false }, kinds := [], alts := [], laidByText := true, laidKinds := [.data, .pinned], laidTests := true, laidLooks := .later }
def RunsAreAsSpecifiedUptoCardSaid : Prop := Claim7.holds Tryz.pinned (.plain (OpenSpec.upto runsAreAsSpecifiedSpec)) runsAreAsSpecifiedUptoCard

/-- THE SECOND FORM's CARD OF 'rivermarklaw16.RunsCutAsSpecified'. -/
def runsCutAsSpecifiedUptoCard : Claim7 := { stood := { row := runsCutAsSpecifiedUptoRow, standIns := [], harness := (true, "3901c5b8a4853387eace064f7960cbcb512eceb44dabd10b061f6c169b50ef85"), looks := false }, kinds := [], alts := [], laidByText := true, laidKinds := [.data, .pinned], laidTests := true, laidLooks := .later }
def RunsCutAsSpecifiedUptoCardSaid : Prop := Claim7.holds Tryz.pinned (.plain (OpenSpec.upto runsCutAsSpecifiedSpec)) runsCutAsSpecifiedUptoCard

/-- THE SECOND FORM's CARD OF 'rivermarklaw16.RunsSummarizeTogether'. -/
def runsSummarizeTogetherUptoCard : Claim7 := { stood := { row := runsSummarizeTogetherUptoRow, standIns := [], harness := (true, "3901c5b8a4853387eace064f7960cbcb512eceb44dabd10b061f6c169b50ef85"), looks := false }, kinds := [], alts := [], laidByText := true, laidKinds := [.data, .pinned], laidTests := true, laidLooks := .later }
def RunsSummarizeTogetherUptoCardSaid : Prop := Claim7.holds Tryz.pinned (.plain (OpenSpec.upto runsSummarizeTogetherSpec)) runsSummarizeTogetherUptoCard

/-- THE SECOND FORM's CARD OF 'rivermarklaw16.RunsCutAndJoin'. -/
def runsCutAndJoinUptoCard : Claim7 := { stood := { row := runsCutAndJoinUptoRow, standIns := [], harness := (true, "3901c5b8a4853387eace064f7960cbcb512eceb44dabd10b061f6c169b50ef85"), looks := false }, kinds := [], alts := [], laidByText := true, laidKinds := [.data, .pinned], laidTests := true, laidLooks := .later }
def RunsCutAndJoinUptoCardSaid : Prop := Claim7.holds Tryz.pinned (.plain (OpenSpec.upto runsCutAndJoinSpec)) runsCutAndJoinUptoCard

/-- THE SECOND FORM's CARD OF 'rivermarklaw16.RunsFinerIsExact'. -/
def runsFinerIsExactUptoCard : Claim7 := { stood := { row := runsFinerIsExactUptoRow, standIns := [], harness := (true, "3901c5b8a4853387eace064f7960cbcb512eceb44dabd10b061f6c169b50ef85"), looks := false }, kinds := [], alts := [], laidByText := true, laidKinds := [.data, .pinned], laidTests := true, laidLooks := .later }
def RunsFinerIsExactUptoCardSaid : Prop := Claim7.holds Tryz.pinned (.plain (OpenSpec.upto runsFinerIsExactSpec)) runsFinerIsExactUptoCard

/-- THE SECOND FORM's CARD OF 'rivermarklaw16.RunsCountHistories'. -/
def runsCountHistoriesUptoCard : Claim7 := { stood := { row := runsCountHistoriesUptoRow, standIns := [], harness := (true, "3901c5b8a4853387eace064f7960cbcb512eceb44dabd10b061f6c169b50ef85"), looks := false }, kinds := [], alts := [], laidByText := true, laidKinds := [.data, .pinned], laidTests := true, laidLooks := .later }
def RunsCountHistoriesUptoCardSaid : Prop := Claim7.holds Tryz.pinned (.plain (OpenSpec.upto runsCountHistoriesSpec)) runsCountHistoriesUptoCard
end Rows
end Go.Proofs.YtcdgibkbbcekhaaGreatDoor
