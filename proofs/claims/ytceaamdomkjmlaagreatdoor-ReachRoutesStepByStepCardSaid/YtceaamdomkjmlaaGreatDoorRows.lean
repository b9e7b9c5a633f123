/-
  NARROWER THAN 'FOR EVERY INPUT', by the rows' own cells (each row's printed sentence says how): ReachesAreAsSpecified: laid · ReachPathsCompose: laid · ReachBasins: laid · ReachLosesNothing: laid · ReachRoutesStepByStep: laid.
  DERIVED. THE GIVEN ROWS OF THIS SEAT. 5 by the template 'for every input the law returns true; each argument reads behind the call as it read before'; 0 by the template 'total and deterministic' (their statements: YtceaamdomkjmlaaGreatDoorTotals.lean).
  GIVEN WITH THE SEED: the statements are not yours to turn. If you find one false, say at which input.
  Laid BY PROGRAM, IN A SANDBOX (cutbox-rows.mjs): the forced cells as the released guide's own fill.sh prints them over the translation 56b8b3096f275019… (all of the seat's roots in one cut). By AI agents, Wed Nov 11 2026. No macro, syntax, notation, axiom, sorry.
-/
import Derived.Test.YtceaamdomkjmlaaGreatDoorChecked
import GoSem.PinnedTables
import GoSem.Claim
import GoSem.ClaimJoined
import GoSem.ClaimMapViews
import Derived.JoinedTies
import Derived.KernelRfl
namespace Go.Proofs.YtceaamdomkjmlaaGreatDoor
/- THE CELL 'sum', in the pinned program and in every row, IS THE sha256 OF THE DUMP (.gsa) THAT YtceaamdomkjmlaaGreatDoorProg.lean LOADS. Nothing in Lean hashes anything: it is a label: what it is worth is what the hold of that sum in a sandbox is worth. -/
noncomputable def Tryz.pinned : Pinned := { name := "ytceaamdomkjmlaagreatdoor", sum := "56b8b3096f2750190a47b0810182f619ecc766d7cbeeadb6a787c399f8f28b15", checked := Tryz.checked }
namespace Rows
def none {H : Type} : Left H := { results := [], args := [] }

/- WHAT THE LISTED PACKAGE-LEVEL VARIABLES READ AS WHEN THE CALL BEGINS. Each datum BY PROGRAM (the guide's laid-datum.mjs) off the statement by which the dump's own 'gosem.cut.vars' lays the variable. In a bare row this is a premise. The card (YtceaamdomkjmlaaGreatDoorCards.lean) ties it to the program's text. -/
def laid_unicode_utf8_acceptRanges {H : Type} : DataW H := .agg [.agg [.lit (.int .u8 128), .lit (.int .u8 191)], .agg [.lit (.int .u8 160), .lit (.int .u8 191)], .agg [.lit (.int .u8 128), .lit (.int .u8 159)], .agg [.lit (.int .u8 144), .lit (.int .u8 191)], .agg [.lit (.int .u8 128), .lit (.int .u8 143)], .agg [.lit (.int .u8 0), .lit (.int .u8 0)], .agg [.lit (.int .u8 0), .lit (.int .u8 0)], .agg [.lit (.int .u8 0), .lit (.int .u8 0)], .agg [.lit (.int .u8 0), .lit (.int .u8 0)], .agg [.lit (.int .u8 0), .lit (.int .u8 0)], .agg [.lit (.int .u8 0), .lit (.int .u8 0)], .agg [.lit (.int .u8 0), .lit (.int .u8 0)], .agg [.lit (.int .u8 0), .lit (.int .u8 0)], .agg [.lit (.int .u8 0), .lit (.int .u8 0)], .agg [.lit (.int .u8 0), .lit (.int .u8 0)], .agg [.lit (.int .u8 0), .lit (.int .u8 0)]]
/-- One of Go's own tables, pinned by name: the form's constant. -/
def laid_unicode_utf8_first : DataW Unit := Go.Pinned.utf8First

/-- 'rivermarklaw32.ReachesAreAsSpecified': WHATEVER THE INPUT: true; the input reads as it did. -/
def reachesAreAsSpecifiedSpec : ChangeSpec := { name := "reachesAreAsSpecified", fn := fun _ => fun
  | [d1, d2, d3] => { results := [.lit (.bool true)], args := [d1, d2, d3] }
  | _ => none }
def reachesAreAsSpecifiedRow : OpenClaim := { program := "ytceaamdomkjmlaagreatdoor", sum := "56b8b3096f2750190a47b0810182f619ecc766d7cbeeadb6a787c399f8f28b15", func := "rivermark/rivermarklaw32.ReachesAreAsSpecified", spec := "reachesAreAsSpecified", inPlace := ["internal/bytealg.IndexByteString", "internal/bytealg.IndexString"], unfollowed := true, recurses := true, named := ["unicode/utf8.first", "unicode/utf8.acceptRanges", "internal/bytealg.MaxLen"], apart := false, laid := [("unicode/utf8.acceptRanges", laid_unicode_utf8_acceptRanges), ("unicode/utf8.first", laid_unicode_utf8_first)] }
def ReachesAreAsSpecifiedSaid : Prop := reachesAreAsSpecifiedRow.holds Tryz.pinned (OpenSpec.ofChange reachesAreAsSpecifiedSpec)

/-- ITS FALSE NEIGHBOUR: 'it returns false'. Refute it at one input. -/
def reachesAreAsSpecifiedWrong : ChangeSpec := { name := "reachesAreAsSpecified", fn := fun _ => fun
  | [d1, d2, d3] => { results := [.lit (.bool false)], args := [d1, d2, d3] }
  | _ => none }
def ReachesAreAsSpecifiedWrongFalsely : Prop := reachesAreAsSpecifiedRow.holds Tryz.pinned (OpenSpec.ofChange reachesAreAsSpecifiedWrong)

/-- 'rivermarklaw32.ReachPathsCompose': WHATEVER THE INPUT: true; the input reads as it did. -/
def reachPathsComposeSpec : ChangeSpec := { name := "reachPathsCompose", fn := fun _ => fun
  | [d1, d2] => { results := [.lit (.bool true)], args := [d1, d2] }
  | _ => none }
def reachPathsComposeRow : OpenClaim := { program := "ytceaamdomkjmlaagreatdoor", sum := "56b8b3096f2750190a47b0810182f619ecc766d7cbeeadb6a787c399f8f28b15", func := "rivermark/rivermarklaw32.ReachPathsCompose", spec := "reachPathsCompose", inPlace := ["internal/bytealg.IndexByteString", "internal/bytealg.IndexString"], unfollowed := true, recurses := true, named := ["unicode/utf8.first", "unicode/utf8.acceptRanges", "internal/bytealg.MaxLen"], apart := false, laid := [("unicode/utf8.acceptRanges", laid_unicode_utf8_acceptRanges), ("unicode/utf8.first", laid_unicode_utf8_first)] }
def ReachPathsComposeSaid : Prop := reachPathsComposeRow.holds Tryz.pinned (OpenSpec.ofChange reachPathsComposeSpec)

/-- ITS FALSE NEIGHBOUR: 'it returns false'. Refute it at one input. -/
def reachPathsComposeWrong : ChangeSpec := { name := "reachPathsCompose", fn := fun _ => fun
  | [d1, d2] => { results := [.lit (.bool false)], args := [d1, d2] }
  | _ => none }
def ReachPathsComposeWrongFalsely : Prop := reachPathsComposeRow.holds Tryz.pinned (OpenSpec.ofChange reachPathsComposeWrong)

/-- 'rivermarklaw32.ReachBasins': WHATEVER THE INPUT: true; the input reads as it did. -/
def reachBasinsSpec : ChangeSpec := { name := "reachBasins", fn := fun _ => fun
  | [d] => { results := [.lit (.bool true)], args := [d] }
  | _ => none }
def reachBasinsRow : OpenClaim := { program := "ytceaamdomkjmlaagreatdoor", sum := "56b8b3096f2750190a47b0810182f619ecc766d7cbeeadb6a787c399f8f28b15", func := "rivermark/rivermarklaw32.ReachBasins", spec := "reachBasins", inPlace := ["internal/bytealg.IndexByteString", "internal/bytealg.IndexString"], unfollowed := true, recurses := true, named := ["unicode/utf8.first", "unicode/utf8.acceptRanges", "internal/bytealg.MaxLen"], apart := false, laid := [("unicode/utf8.acceptRanges", laid_unicode_utf8_acceptRanges), ("unicode/utf8.first", laid_unicode_utf8_first)] }
def ReachBasinsSaid : Prop := reachBasinsRow.holds Tryz.pinned (OpenSpec.ofChange reachBasinsSpec)

/-- ITS FALSE NEIGHBOUR: 'it returns false'. Refute it at one input. -/
def reachBasinsWrong : ChangeSpec := { name := "reachBasins", fn := fun _ => fun
  | [d] => { results := [.lit (.bool false)], args := [d] }
  | _ => none }
def ReachBasinsWrongFalsely : Prop := reachBasinsRow.holds Tryz.pinned (OpenSpec.ofChange reachBasinsWrong)

/-- 'rivermarklaw32.ReachLosesNothing': WHATEVER THE INPUT: true; the input reads as it did. -/
def reachLosesNothingSpec : ChangeSpec := { name := "reachLosesNothing", fn := fun _ => fun
  | [d1, d2, d3] => { results := [.lit (.bool true)], args := [d1, d2, d3] }
  | _ => none }
def reachLosesNothingRow : OpenClaim := { program := "ytceaamdomkjmlaagreatdoor", sum := "56b8b3096f2750190a47b0810182f619ecc766d7cbeeadb6a787c399f8f28b15", func := "rivermark/rivermarklaw32.ReachLosesNothing", spec := "reachLosesNothing", inPlace := ["internal/bytealg.IndexByteString", "internal/bytealg.IndexString"], unfollowed := true, recurses := true, named := ["unicode/utf8.first", "unicode/utf8.acceptRanges", "internal/bytealg.MaxLen"], apart := false, laid := [("unicode/utf8.acceptRanges", laid_unicode_utf8_acceptRanges), ("unicode/utf8.first", laid_unicode_utf8_first)] }
def ReachLosesNothingSaid : Prop := reachLosesNothingRow.holds Tryz.pinned (OpenSpec.ofChange reachLosesNothingSpec)

/-- ITS FALSE NEIGHBOUR: 'it returns false'. Refute it at one input. -/
def reachLosesNothingWrong : ChangeSpec := { name := "reachLosesNothing", fn := fun _ => fun
  | [d1, d2, d3] => { results := [.lit (.bool false)], args := [d1, d2, d3] }
  | _ => none }
def ReachLosesNothingWrongFalsely : Prop := reachLosesNothingRow.holds Tryz.pinned (OpenSpec.ofChange reachLosesNothingWrong)

/-- 'rivermarklaw32.ReachRoutesStepByStep': WHATEVER THE INPUT: true; the input reads as it did. -/
def reachRoutesStepByStepSpec : ChangeSpec := { name := "reachRoutesStepByStep", fn := fun _ => fun
  | [d1, d2, d3] => { results := [.lit (.bool true)], args := [d1, d2, d3] }
  | _ => none }
def reachRoutesStepByStepRow : OpenClaim := { program := "ytceaamdomkjmlaagreatdoor", sum := "56b8b3096f2750190a47b0810182f619ecc766d7cbeeadb6a787c399f8f28b15", func := "rivermark/rivermarklaw32.ReachRoutesStepByStep", spec := "reachRoutesStepByStep", inPlace := ["internal/bytealg.IndexByteString", "internal/bytealg.IndexString"], unfollowed := true, recurses := true, named := ["unicode/utf8.first", "unicode/utf8.acceptRanges", "internal/bytealg.MaxLen"], apart := false, laid := [("unicode/utf8.acceptRanges", laid_unicode_utf8_acceptRanges), ("unicode/utf8.first", laid_unicode_utf8_first)] }
def ReachRoutesStepByStepSaid : Prop := reachRoutesStepByStepRow.holds Tryz.pinned (OpenSpec.ofChange reachRoutesStepByStepSpec)

/-- ITS FALSE NEIGHBOUR: 'it returns false'. Refute it at one input. -/
def reachRoutesStepByStepWrong : ChangeSpec := { name := "reachRoutesStepByStep", fn := fun _ => fun
  | [d1, d2, d3] => { results := [.lit (.bool false)], args := [d1, d2, d3] }
  | _ => none }
def ReachRoutesStepByStepWrongFalsely : Prop := reachRoutesStepByStepRow.holds Tryz.pinned (OpenSpec.ofChange reachRoutesStepByStepWrong)

/- THE SECOND FORM. 'bulk': how many values and letters a reading holds, each counted each time it is reached (what is shared counts as often as it is met; a slice's spare places count too). A statement '..UptoSaid' is the law's where the arguments, and the package variables that the reading takes, are together of bulk at most 1048576: NARROWER than '..Said'. Prove '..Said' where nothing that the law and all that it calls make is longer than what came in: it says more and counts as full. Else prove '..UptoSaid'. A law counts once. -/
mutual
def uptoBulk {H : Type} : DataW H → Nat
  | .lit (.string bytes) => bytes.length + 1
  | .lit _ => 1
  | .nil => 1
  | .ptr d => uptoBulk d + 1
  | .slice elems spare => uptoBulkAll elems + uptoBulkAll spare + 1
  | .agg parts => uptoBulkAll parts + 1
  | .iface _ d => uptoBulk d + 1
  | .map entries => uptoBulkEntries entries + 1
  | .held _ => 1
def uptoBulkAll {H : Type} : List (DataW H) → Nat
  | [] => 0
  | d :: r => uptoBulk d + uptoBulkAll r
def uptoBulkEntries {H : Type} : List (Lit × DataW H) → Nat
  | [] => 0
  | x :: r => uptoBulkEntry x + uptoBulkEntries r
def uptoBulkEntry {H : Type} : Lit × DataW H → Nat
  | (.string bytes, d) => bytes.length + uptoBulk d + 1
  | (_, d) => uptoBulk d + 1
 end
def uptoSmall : (H : Type) → List (DataW H) → Bool := fun _ ds => decide (uptoBulkAll ds ≤ 1048576)
def OpenSpec.upto (s : _root_.Go.ChangeSpec) : _root_.Go.OpenSpec := { _root_.Go.OpenSpec.ofChange s with cond := some uptoSmall }

/-- 'rivermarklaw32.ReachesAreAsSpecified', WHERE WHAT IT READS IS OF BULK AT MOST 1048576: true; the input reads as it did. -/
def reachesAreAsSpecifiedUptoRow : OpenClaim := { program := "ytceaamdomkjmlaagreatdoor", sum := "56b8b3096f2750190a47b0810182f619ecc766d7cbeeadb6a787c399f8f28b15", func := "rivermark/rivermarklaw32.ReachesAreAsSpecified", spec := "reachesAreAsSpecified", inPlace := ["internal/bytealg.IndexByteString", "internal/bytealg.IndexString"], unfollowed := true, recurses := true, named := ["unicode/utf8.first", "unicode/utf8.acceptRanges", "internal/bytealg.MaxLen"], apart := false, laid := [("unicode/utf8.acceptRanges", laid_unicode_utf8_acceptRanges), ("unicode/utf8.first", laid_unicode_utf8_first)], narrowed := true }
def ReachesAreAsSpecifiedUptoSaid : Prop := reachesAreAsSpecifiedUptoRow.holds Tryz.pinned (OpenSpec.upto reachesAreAsSpecifiedSpec)

/-- 'rivermarklaw32.ReachPathsCompose', WHERE WHAT IT READS IS OF BULK AT MOST 1048576: true; the input reads as it did. -/
def reachPathsComposeUptoRow : OpenClaim := { program := "ytceaamdomkjmlaagreatdoor", sum := "56b8b3096f2750190a47b0810182f619ecc766d7cbeeadb6a787c399f8f28b15", func := "rivermark/rivermarklaw32.ReachPathsCompose", spec := "reachPathsCompose", inPlace := ["internal/bytealg.IndexByteString", "internal/bytealg.IndexString"], unfollowed := true, recurses := true, named := ["unicode/utf8.first", "unicode/utf8.acceptRanges", "internal/bytealg.MaxLen"], apart := false, laid := [("unicode/utf8.acceptRanges", laid_unicode_utf8_acceptRanges), ("unicode/utf8.first", laid_unicode_utf8_first)], narrowed := true }
def ReachPathsComposeUptoSaid : Prop := reachPathsComposeUptoRow.holds Tryz.pinned (OpenSpec.upto reachPathsComposeSpec)

/-- 'rivermarklaw32.ReachBasins', WHERE WHAT IT READS IS OF BULK AT MOST 1048576: true; the input reads as it did. -/
def reachBasinsUptoRow : OpenClaim := { program := "ytceaamdomkjmlaagreatdoor", sum := "56b8b3096f2750190a47b0810182f619ecc766d7cbeeadb6a787c399f8f28b15", func := "rivermark/rivermarklaw32.ReachBasins", spec := "reachBasins", inPlace := ["internal/bytealg.IndexByteString", "internal/bytealg.IndexString"], unfollowed := true, recurses := true, named := ["unicode/utf8.first", "unicode/utf8.acceptRanges", "internal/bytealg.MaxLen"], apart := false, laid := [("unicode/utf8.acceptRanges", laid_unicode_utf8_acceptRanges), ("unicode/utf8.first", laid_unicode_utf8_first)], narrowed := true }
def ReachBasinsUptoSaid : Prop := reachBasinsUptoRow.holds Tryz.pinned (OpenSpec.upto reachBasinsSpec)

/-- 'rivermarklaw32.ReachLosesNothing', WHERE WHAT IT READS IS OF BULK AT MOST 1048576: true; the input reads as it did. -/
def reachLosesNothingUptoRow : OpenClaim := { program := "ytceaamdomkjmlaagreatdoor", sum := "56b8b3096f2750190a47b0810182f619ecc766d7cbeeadb6a787c399f8f28b15", func := "rivermark/rivermarklaw32.ReachLosesNothing", spec := "reachLosesNothing", inPlace := ["internal/bytealg.IndexByteString", "internal/bytealg.IndexString"], unfollowed := true, recurses := true, named := ["unicode/utf8.first", "unicode/utf8.acceptRanges", "internal/bytealg.MaxLen"], apart := false, laid := [("unicode/utf8.acceptRanges", laid_unicode_utf8_acceptRanges), ("unicode/utf8.first", laid_unicode_utf8_first)], narrowed := true }
def ReachLosesNothingUptoSaid : Prop := reachLosesNothingUptoRow.holds Tryz.pinned (OpenSpec.upto reachLosesNothingSpec)

/-- 'rivermarklaw32.ReachRoutesStepByStep', WHERE WHAT IT READS IS OF BULK AT MOST 1048576: true; the input reads as it did. -/
def reachRoutesStepByStepUptoRow : OpenClaim := { program := "ytceaamdomkjmlaagreatdoor", sum := "56b8b3096f2750190a47b0810182f619ecc766d7cbeeadb6a787c399f8f28b15", func := "rivermark/rivermarklaw32.ReachRoutesStepByStep", spec := "reachRoutesStepByStep", inPlace := ["internal/bytealg.IndexByteString", "internal/bytealg.IndexString"], unfollowed := true, recurses := true, named := ["unicode/utf8.first", "unicode/utf8.acceptRanges", "internal/bytealg.MaxLen"], apart := false, laid := [("unicode/utf8.acceptRanges", laid_unicode_utf8_acceptRanges), ("unicode/utf8.first", laid_unicode_utf8_first)], narrowed := true }
def ReachRoutesStepByStepUptoSaid : Prop := reachRoutesStepByStepUptoRow.holds Tryz.pinned (OpenSpec.upto reachRoutesStepByStepSpec)

end Rows
end Go.Proofs.YtceaamdomkjmlaaGreatDoor
