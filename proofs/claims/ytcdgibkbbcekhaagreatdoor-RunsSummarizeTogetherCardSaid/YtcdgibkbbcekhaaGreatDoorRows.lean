/-
  NARROWER THAN 'FOR EVERY INPUT', by the rows' own cells (each row's printed sentence says how): RightsGrow: laid · RunsAreAsSpecified: laid · RunsCutAsSpecified: laid · RunsSummarizeTogether: laid · RunsCutAndJoin: laid · RunsFinerIsExact: laid · RunsCountHistories: laid.
  DERIVED. THE GIVEN ROWS OF THIS SEAT. 7 by the template 'for every input the law returns true; each argument reads behind the call as it read before'; 0 by the template 'total and deterministic' (their statements: YtcdgibkbbcekhaaGreatDoorTotals.lean).
  GIVEN WITH THE SEED: the statements are not yours to turn. If you find one false, say at which input.
  Laid BY PROGRAM, IN A SANDBOX (cutbox-rows.mjs): the forced cells as the released guide's own fill.sh prints them over the translation 03727d1c6cf6c713… (all of the seat's roots in one cut). By AI agents, Wed Nov 11 2026. No macro, syntax, notation, axiom, sorry.
-/
import Derived.Test.YtcdgibkbbcekhaaGreatDoorChecked
import GoSem.PinnedTables
import GoSem.Claim
import GoSem.ClaimJoined
import GoSem.ClaimMapViews
import Derived.JoinedTies
import Derived.KernelRfl
namespace Go.Proofs.YtcdgibkbbcekhaaGreatDoor
/- THE CELL 'sum', in the pinned program and in every row, IS THE sha256 OF THE DUMP (.gsa) THAT YtcdgibkbbcekhaaGreatDoorProg.lean LOADS. Nothing in Lean hashes anything: it is a label: what it is worth is what the hold of that sum in a sandbox is worth. -/
noncomputable def Tryz.pinned : Pinned := { name := "ytcdgibkbbcekhaagreatdoor", sum := "03727d1c6cf6c713c0d374ec7f1fe3bba241b2da5fed162b29a5e218d9ea322f", checked := Tryz.checked }
namespace Rows
def none {H : Type} : Left H := { results := [], args := [] }

/- WHAT THE LISTED PACKAGE-LEVEL VARIABLES READ AS WHEN THE CALL BEGINS. Each datum BY PROGRAM (the guide's laid-datum.mjs) off the statement by which the dump's own 'gosem.cut.vars' lays the variable. In a bare row this is a premise. The card (YtcdgibkbbcekhaaGreatDoorCards.lean) ties it to the program's text. -/
def laid_unicode_utf8_acceptRanges {H : Type} : DataW H := .agg [.agg [.lit (.int .u8 128), .lit (.int .u8 191)], .agg [.lit (.int .u8 160), .lit (.int .u8 191)], .agg [.lit (.int .u8 128), .lit (.int .u8 159)], .agg [.lit (.int .u8 144), .lit (.int .u8 191)], .agg [.lit (.int .u8 128), .lit (.int .u8 143)], .agg [.lit (.int .u8 0), .lit (.int .u8 0)], .agg [.lit (.int .u8 0), .lit (.int .u8 0)], .agg [.lit (.int .u8 0), .lit (.int .u8 0)], .agg [.lit (.int .u8 0), .lit (.int .u8 0)], .agg [.lit (.int .u8 0), .lit (.int .u8 0)], .agg [.lit (.int .u8 0), .lit (.int .u8 0)], .agg [.lit (.int .u8 0), .lit (.int .u8 0)], .agg [.lit (.int .u8 0), .lit (.int .u8 0)], .agg [.lit (.int .u8 0), .lit (.int .u8 0)], .agg [.lit (.int .u8 0), .lit (.int .u8 0)], .agg [.lit (.int .u8 0), .lit (.int .u8 0)]]
/-- One of Go's own tables, pinned by name: the form's constant. -/
def laid_unicode_utf8_first : DataW Unit := Go.Pinned.utf8First

/-- 'rivermarklaw39.RightsGrow': WHATEVER THE INPUT: true; the input reads as it did. -/
def rightsGrowSpec : ChangeSpec := { name := "rightsGrow", fn := fun _ => fun
  | [d1, d2, d3, d4] => { results := [.lit (.bool true)], args := [d1, d2, d3, d4] }
  | _ => none }
def rightsGrowRow : OpenClaim := { program := "ytcdgibkbbcekhaagreatdoor", sum := "03727d1c6cf6c713c0d374ec7f1fe3bba241b2da5fed162b29a5e218d9ea322f", func := "rivermark/rivermarklaw39.RightsGrow", spec := "rightsGrow", inPlace := ["internal/bytealg.IndexByteString", "internal/bytealg.IndexString"], unfollowed := true, recurses := true, named := ["unicode/utf8.first", "unicode/utf8.acceptRanges", "internal/bytealg.MaxLen"], apart := false, laid := [("unicode/utf8.acceptRanges", laid_unicode_utf8_acceptRanges), ("unicode/utf8.first", laid_unicode_utf8_first)] }
def RightsGrowSaid : Prop := rightsGrowRow.holds Tryz.pinned (OpenSpec.ofChange rightsGrowSpec)

/-- ITS FALSE NEIGHBOUR: 'it returns false'. Refute it at one input. -/
def rightsGrowWrong : ChangeSpec := { name := "rightsGrow", fn := fun _ => fun
  | [d1, d2, d3, d4] => { results := [.lit (.bool false)], args := [d1, d2, d3, d4] }
  | _ => none }
def RightsGrowWrongFalsely : Prop := rightsGrowRow.holds Tryz.pinned (OpenSpec.ofChange rightsGrowWrong)

/-- 'rivermarklaw16.RunsAreAsSpecified': WHATEVER THE INPUT: true; the input reads as it did. -/
def runsAreAsSpecifiedSpec : ChangeSpec := { name := "runsAreAsSpecified", fn := fun _ => fun
  | [d1, d2] => { results := [.lit (.bool true)], args := [d1, d2] }
  | _ => none }
def runsAreAsSpecifiedRow : OpenClaim := { program := "ytcdgibkbbcekhaagreatdoor", sum := "03727d1c6cf6c713c0d374ec7f1fe3bba241b2da5fed162b29a5e218d9ea322f", func := "rivermark/rivermarklaw16.RunsAreAsSpecified", spec := "runsAreAsSpecified", inPlace := ["internal/bytealg.IndexByteString", "internal/bytealg.IndexString"], unfollowed := true, recurses := true, named := ["unicode/utf8.first", "unicode/utf8.acceptRanges", "internal/bytealg.MaxLen"], apart := false, laid := [("unicode/utf8.acceptRanges", laid_unicode_utf8_acceptRanges), ("unicode/utf8.first", laid_unicode_utf8_first)] }
def RunsAreAsSpecifiedSaid : Prop := runsAreAsSpecifiedRow.holds Tryz.pinned (OpenSpec.ofChange runsAreAsSpecifiedSpec)

/-- ITS FALSE NEIGHBOUR: 'it returns false'. Refute it at one input. -/
def runsAreAsSpecifiedWrong : ChangeSpec := { name := "runsAreAsSpecified", fn := fun _ => fun
  | [d1, d2] => { results := [.lit (.bool false)], args := [d1, d2] }
  | _ => none }
def RunsAreAsSpecifiedWrongFalsely : Prop := runsAreAsSpecifiedRow.holds Tryz.pinned (OpenSpec.ofChange runsAreAsSpecifiedWrong)

/-- 'rivermarklaw16.RunsCutAsSpecified': WHATEVER THE INPUT: true; the input reads as it did. -/
def runsCutAsSpecifiedSpec : ChangeSpec := { name := "runsCutAsSpecified", fn := fun _ => fun
  | [d1, d2, d3] => { results := [.lit (.bool true)], args := [d1, d2, d3] }
  | _ => none }
def runsCutAsSpecifiedRow : OpenClaim := { program := "ytcdgibkbbcekhaagreatdoor", sum := "03727d1c6cf6c713c0d374ec7f1fe3bba241b2da5fed162b29a5e218d9ea322f", func := "rivermark/rivermarklaw16.RunsCutAsSpecified", spec := "runsCutAsSpecified", inPlace := ["internal/bytealg.IndexByteString", "internal/bytealg.IndexString"], unfollowed := true, recurses := true, named := ["unicode/utf8.first", "unicode/utf8.acceptRanges", "internal/bytealg.MaxLen"], apart := false, laid := [("unicode/utf8.acceptRanges", laid_unicode_utf8_acceptRanges), ("unicode/utf8.first", laid_unicode_utf8_first)] }
def RunsCutAsSpecifiedSaid : Prop := runsCutAsSpecifiedRow.holds Tryz.pinned (OpenSpec.ofChange runsCutAsSpecifiedSpec)

/-- ITS FALSE NEIGHBOUR: 'it returns false'. Refute it at one input. -/
def runsCutAsSpecifiedWrong : ChangeSpec := { name := "runsCutAsSpecified", fn := fun _ => fun
  | [d1, d2, d3] => { results := [.lit (.bool false)], args := [d1, d2, d3] }
  | _ => none }
def RunsCutAsSpecifiedWrongFalsely : Prop := runsCutAsSpecifiedRow.holds Tryz.pinned (OpenSpec.ofChange runsCutAsSpecifiedWrong)

/-- 'rivermarklaw16.RunsSummarizeTogether': WHATEVER THE INPUT: true; the input reads as it did. -/
def runsSummarizeTogetherSpec : ChangeSpec := { name := "runsSummarizeTogether", fn := fun _ => fun
  | [d1, d2] => { results := [.lit (.bool true)], args := [d1, d2] }
  | _ => none }
def runsSummarizeTogetherRow : OpenClaim := { program := "ytcdgibkbbcekhaagreatdoor", sum := "03727d1c6cf6c713c0d374ec7f1fe3bba241b2da5fed162b29a5e218d9ea322f", func := "rivermark/rivermarklaw16.RunsSummarizeTogether", spec := "runsSummarizeTogether", inPlace := ["internal/bytealg.IndexByteString", "internal/bytealg.IndexString"], unfollowed := true, recurses := true, named := ["unicode/utf8.first", "unicode/utf8.acceptRanges", "internal/bytealg.MaxLen"], apart := false, laid := [("unicode/utf8.acceptRanges", laid_unicode_utf8_acceptRanges), ("unicode/utf8.first", laid_unicode_utf8_first)] }
def RunsSummarizeTogetherSaid : Prop := runsSummarizeTogetherRow.holds Tryz.pinned (OpenSpec.ofChange runsSummarizeTogetherSpec)

/-- ITS FALSE NEIGHBOUR: 'it returns false'. Refute it at one input. -/
def runsSummarizeTogetherWrong : ChangeSpec := { name := "runsSummarizeTogether", fn := fun _ => fun
  | [d1, d2] => { results := [.lit (.bool false)], args := [d1, d2] }
  | _ => none }
def RunsSummarizeTogetherWrongFalsely : Prop := runsSummarizeTogetherRow.holds Tryz.pinned (OpenSpec.ofChange runsSummarizeTogetherWrong)

/-- 'rivermarklaw16.RunsCutAndJoin': WHATEVER THE INPUT: true; the input reads as it did. -/
def runsCutAndJoinSpec : ChangeSpec := { name := "runsCutAndJoin", fn := fun _ => fun
  | [d1, d2] => { results := [.lit (.bool true)], args := [d1, d2] }
  | _ => none }
def runsCutAndJoinRow : OpenClaim := { program := "ytcdgibkbbcekhaagreatdoor", sum := "03727d1c6cf6c713c0d374ec7f1fe3bba241b2da5fed162b29a5e218d9ea322f", func := "rivermark/rivermarklaw16.RunsCutAndJoin", spec := "runsCutAndJoin", inPlace := ["internal/bytealg.IndexByteString", "internal/bytealg.IndexString"], unfollowed := true, recurses := true, named := ["unicode/utf8.first", "unicode/utf8.acceptRanges", "internal/bytealg.MaxLen"], apart := false, laid := [("unicode/utf8.acceptRanges", laid_unicode_utf8_acceptRanges), ("unicode/utf8.first", laid_unicode_utf8_first)] }
def RunsCutAndJoinSaid : Prop := runsCutAndJoinRow.holds Tryz.pinned (OpenSpec.ofChange runsCutAndJoinSpec)

/-- ITS FALSE NEIGHBOUR: 'it returns false'. Refute it at one input. -/
def runsCutAndJoinWrong : ChangeSpec := { name := "runsCutAndJoin", fn := fun _ => fun
  | [d1, d2] => { results := [.lit (.bool false)], args := [d1, d2] }
  | _ => none }
def RunsCutAndJoinWrongFalsely : Prop := runsCutAndJoinRow.holds Tryz.pinned (OpenSpec.ofChange runsCutAndJoinWrong)

/-- 'rivermarklaw16.RunsFinerIsExact': WHATEVER THE INPUT: true; the input reads as it did. -/
def runsFinerIsExactSpec : ChangeSpec := { name := "runsFinerIsExact", fn := fun _ => fun
  | [d1, d2] => { results := [.lit (.bool true)], args := [d1, d2] }
  | _ => none }
def runsFinerIsExactRow : OpenClaim := { program := "ytcdgibkbbcekhaagreatdoor", sum := "03727d1c6cf6c713c0d374ec7f1fe3bba241b2da5fed162b29a5e218d9ea322f", func := "rivermark/rivermarklaw16.RunsFinerIsExact", spec := "runsFinerIsExact", inPlace := ["internal/bytealg.IndexByteString", "internal/bytealg.IndexString"], unfollowed := true, recurses := true, named := ["unicode/utf8.first", "unicode/utf8.acceptRanges", "internal/bytealg.MaxLen"], apart := false, laid := [("unicode/utf8.acceptRanges", laid_unicode_utf8_acceptRanges), ("unicode/utf8.first", laid_unicode_utf8_first)] }
def RunsFinerIsExactSaid : Prop := runsFinerIsExactRow.holds Tryz.pinned (OpenSpec.ofChange runsFinerIsExactSpec)

/-- ITS FALSE NEIGHBOUR: 'it returns false'. Refute it at one input. -/
def runsFinerIsExactWrong : ChangeSpec := { name := "runsFinerIsExact", fn := fun _ => fun
  | [d1, d2] => { results := [.lit (.bool false)], args := [d1, d2] }
  | _ => none }
def RunsFinerIsExactWrongFalsely : Prop := runsFinerIsExactRow.holds Tryz.pinned (OpenSpec.ofChange runsFinerIsExactWrong)

/-- 'rivermarklaw16.RunsCountHistories': WHATEVER THE INPUT: true; the input reads as it did. -/
def runsCountHistoriesSpec : ChangeSpec := { name := "runsCountHistories", fn := fun _ => fun
  | [d] => { results := [.lit (.bool true)], args := [d] }
  | _ => none }
def runsCountHistoriesRow : OpenClaim := { program := "ytcdgibkbbcekhaagreatdoor", sum := "03727d1c6cf6c713c0d374ec7f1fe3bba241b2da5fed162b29a5e218d9ea322f", func := "rivermark/rivermarklaw16.RunsCountHistories", spec := "runsCountHistories", inPlace := ["internal/bytealg.IndexByteString", "internal/bytealg.IndexString"], unfollowed := true, recurses := true, named := ["unicode/utf8.first", "unicode/utf8.acceptRanges", "internal/bytealg.MaxLen"], apart := false, laid := [("unicode/utf8.acceptRanges", laid_unicode_utf8_acceptRanges), ("unicode/utf8.first", laid_unicode_utf8_first)] }
def RunsCountHistoriesSaid : Prop := runsCountHistoriesRow.holds Tryz.pinned (OpenSpec.ofChange runsCountHistoriesSpec)

/-- ITS FALSE NEIGHBOUR: 'it returns false'. Refute it at one input. -/
def runsCountHistoriesWrong : ChangeSpec := { name := "runsCountHistories", fn := fun _ => fun
  | [d] => { results := [.lit (.bool false)], args := [d] }
  | _ => none }
def RunsCountHistoriesWrongFalsely : Prop := runsCountHistoriesRow.holds Tryz.pinned (OpenSpec.ofChange runsCountHistoriesWrong)

/- THE SECOND FORM. 'bulk': how many values and letters a reading holds, each counted each time it is reached (what is shared counts as often as it is met; a slice's spare places count too). A statement '..UptoSaid' is the law's where the arguments, and the package variables that the reading takes, are together of bulk at most 1048576: NARROWER than '..Said'. Prove '..Said' where nothing that the law and all that it calls make is longer than what came in: it says more and counts as full. Else prove '..UptoSaid'. A law counts once. -/
mutual
def uptoBulk {H : Type} : DataW H → Nat
  | .lit (.string bytes) => bytes.length + 1
  | .lit _ => 1
  | .nil => 1
  | .ptr d => uptoBulk d + 1
  | .slice elems spare => uptoBulkAll elems + uptoBulkAll spare + 1
  | .agg parts => uptoBulkAll parts + 1
  | .iface _ d => uptoBulk d + 1
  | .map entries => uptoBulkEntries entries + 1
  | .held _ => 1
def uptoBulkAll {H : Type} : List (DataW H) → Nat
  | [] => 0
  | d :: r => uptoBulk d + uptoBulkAll r
def uptoBulkEntries {H : Type} : List (Lit × DataW H) → Nat
  | [] => 0
  | x :: r => uptoBulkEntry x + uptoBulkEntries r
def uptoBulkEntry {H : Type} : Lit × DataW H → Nat
  | (.string bytes, d) => bytes.length + uptoBulk d + 1
  | (_, d) => uptoBulk d + 1
 end
def uptoSmall : (H : Type) → List (DataW H) → Bool := fun _ ds => decide (uptoBulkAll ds ≤ 1048576)
def OpenSpec.upto (s : _root_.Go.ChangeSpec) : _root_.Go.OpenSpec := { _root_.Go.OpenSpec.ofChange s with cond := some uptoSmall }

/-- 'rivermarklaw39.RightsGrow', WHERE WHAT IT READS IS OF BULK AT MOST 1048576: true; the input reads as it did. -/
def rightsGrowUptoRow : OpenClaim := { program := "ytcdgibkbbcekhaagreatdoor", sum := "03727d1c6cf6c713c0d374ec7f1fe3bba241b2da5fed162b29a5e218d9ea322f", func := "rivermark/rivermarklaw39.RightsGrow", spec := "rightsGrow", inPlace := ["internal/bytealg.IndexByteString", "internal/bytealg.IndexString"], unfollowed := true, recurses := true, named := ["unicode/utf8.first", "unicode/utf8.acceptRanges", "internal/bytealg.MaxLen"], apart := false, laid := [("unicode/utf8.acceptRanges", laid_unicode_utf8_acceptRanges), ("unicode/utf8.first", laid_unicode_utf8_first)], narrowed := true }
def RightsGrowUptoSaid : Prop := rightsGrowUptoRow.holds Tryz.pinned (OpenSpec.upto rightsGrowSpec)

/-- 'rivermarklaw16.RunsAreAsSpecified', WHERE WHAT IT READS IS OF BULK AT MOST 1048576: true; the input reads as it did. -/
def runsAreAsSpecifiedUptoRow : OpenClaim := { program := "ytcdgibkbbcekhaagreatdoor", sum := "03727d1c6cf6c713c0d374ec7f1fe3bba241b2da5fed162b29a5e218d9ea322f", func := "rivermark/rivermarklaw16.RunsAreAsSpecified", spec := "runsAreAsSpecified", inPlace := ["internal/bytealg.IndexByteString", "internal/bytealg.IndexString"], unfollowed := true, recurses := true, named := ["unicode/utf8.first", "unicode/utf8.acceptRanges", "internal/bytealg.MaxLen"], apart := false, laid := [("unicode/utf8.acceptRanges", laid_unicode_utf8_acceptRanges), ("unicode/utf8.first", laid_unicode_utf8_first)], narrowed := true }
def RunsAreAsSpecifiedUptoSaid : Prop := runsAreAsSpecifiedUptoRow.holds Tryz.pinned (OpenSpec.upto runsAreAsSpecifiedSpec)

/-- 'rivermarklaw16.RunsCutAsSpecified', WHERE WHAT IT READS IS OF BULK AT MOST 1048576: true; the input reads as it did. -/
def runsCutAsSpecifiedUptoRow : OpenClaim := { program := "ytcdgibkbbcekhaagreatdoor", sum := "03727d1c6cf6c713c0d374ec7f1fe3bba241b2da5fed162b29a5e218d9ea322f", func := "rivermark/rivermarklaw16.RunsCutAsSpecified", spec := "runsCutAsSpecified", inPlace := ["internal/bytealg.IndexByteString", "internal/bytealg.IndexString"], unfollowed := true, recurses := true, named := ["unicode/utf8.first", "unicode/utf8.acceptRanges", "internal/bytealg.MaxLen"], apart := false, laid := [("unicode/utf8.acceptRanges", laid_unicode_utf8_acceptRanges), ("unicode/utf8.first", laid_unicode_utf8_first)], narrowed := true }
def RunsCutAsSpecifiedUptoSaid : Prop := runsCutAsSpecifiedUptoRow.holds Tryz.pinned (OpenSpec.upto runsCutAsSpecifiedSpec)

/-- 'rivermarklaw16.RunsSummarizeTogether', WHERE WHAT IT READS IS OF BULK AT MOST 1048576: true; the input reads as it did. -/
def runsSummarizeTogetherUptoRow : OpenClaim := { program := "ytcdgibkbbcekhaagreatdoor", sum := "03727d1c6cf6c713c0d374ec7f1fe3bba241b2da5fed162b29a5e218d9ea322f", func := "rivermark/rivermarklaw16.RunsSummarizeTogether", spec := "runsSummarizeTogether", inPlace := ["internal/bytealg.IndexByteString", "internal/bytealg.IndexString"], unfollowed := true, recurses := true, named := ["unicode/utf8.first", "unicode/utf8.acceptRanges", "internal/bytealg.MaxLen"], apart := false, laid := [("unicode/utf8.acceptRanges", laid_unicode_utf8_acceptRanges), ("unicode/utf8.first", laid_unicode_utf8_first)], narrowed := true }
def RunsSummarizeTogetherUptoSaid : Prop := runsSummarizeTogetherUptoRow.holds Tryz.pinned (OpenSpec.upto runsSummarizeTogetherSpec)

/-- 'rivermarklaw16.RunsCutAndJoin', WHERE WHAT IT READS IS OF BULK AT MOST 1048576: true; the input reads as it did. -/
def runsCutAndJoinUptoRow : OpenClaim := { program := "ytcdgibkbbcekhaagreatdoor", sum := "03727d1c6cf6c713c0d374ec7f1fe3bba241b2da5fed162b29a5e218d9ea322f", func := "rivermark/rivermarklaw16.RunsCutAndJoin", spec := "runsCutAndJoin", inPlace := ["internal/bytealg.IndexByteString", "internal/bytealg.IndexString"], unfollowed := true, recurses := true, named := ["unicode/utf8.first", "unicode/utf8.acceptRanges", "internal/bytealg.MaxLen"], apart := false, laid := [("unicode/utf8.acceptRanges", laid_unicode_utf8_acceptRanges), ("unicode/utf8.first", laid_unicode_utf8_first)], narrowed := true }
def RunsCutAndJoinUptoSaid : Prop := runsCutAndJoinUptoRow.holds Tryz.pinned (OpenSpec.upto runsCutAndJoinSpec)

/-- 'rivermarklaw16.RunsFinerIsExact', WHERE WHAT IT READS IS OF BULK AT MOST 1048576: true; the input reads as it did. -/
def runsFinerIsExactUptoRow : OpenClaim := { program := "ytcdgibkbbcekhaagreatdoor", sum := "03727d1c6cf6c713c0d374ec7f1fe3bba241b2da5fed162b29a5e218d9ea322f", func := "rivermark/rivermarklaw16.RunsFinerIsExact", spec := "runsFinerIsExact", inPlace := ["internal/bytealg.IndexByteString", "internal/bytealg.IndexString"], unfollowed := true, recurses := true, named := ["unicode/utf8.first", "unicode/utf8.acceptRanges", "internal/bytealg.MaxLen"], apart := false, laid := [("unicode/utf8.acceptRanges", laid_unicode_utf8_acceptRanges), ("unicode/utf8.first", laid_unicode_utf8_first)], narrowed := true }
def RunsFinerIsExactUptoSaid : Prop := runsFinerIsExactUptoRow.holds Tryz.pinned (OpenSpec.upto runsFinerIsExactSpec)

/-- 'rivermarklaw16.RunsCountHistories', WHERE WHAT IT READS IS OF BULK AT MOST 1048576: true; the input reads as it did. -/
def runsCountHistoriesUptoRow : OpenClaim := { program := "ytcdgibkbbcekhaagreatdoor", sum := "03727d1c6cf6c713c0d374ec7f1fe3bba241b2da5fed162b29a5e218d9ea322f", func := "rivermark/rivermarklaw16.RunsCountHistories", spec := "runsCountHistories", inPlace := ["internal/bytealg.IndexByteString", "internal/bytealg.IndexString"], unfollowed := true, recurses := true, named := ["unicode/utf8.first", "unicode/utf8.acceptRanges", "internal/bytealg.MaxLen"], apart := false, laid := [("unicode/utf8.acceptRanges", laid_unicode_utf8_acceptRanges), ("unicode/utf8.first", laid_unicode_utf8_first)], narrowed := true }
def RunsCountHistoriesUptoSaid : Prop := runsCountHistoriesUptoRow.holds Tryz.pinned (OpenSpec.upto runsCountHistoriesSpec)

end Rows
end Go.Proofs.YtcdgibkbbcekhaaGreatDoor
