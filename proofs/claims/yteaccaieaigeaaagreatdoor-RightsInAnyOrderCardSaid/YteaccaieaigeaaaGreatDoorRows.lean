/-
  NARROWER THAN 'FOR EVERY INPUT', by the rows' own cells (each row's printed sentence says how): RightsAllotAsSpecified: laid · RightsFairAsSpecified: laid · RightsAreServed: laid · RightsSeniorsFirst: laid · RightsGrow: laid · RightsInAnyOrder: laid.
  DERIVED. THE GIVEN ROWS OF THIS SEAT. 6 by the template 'for every input the law returns true; each argument reads behind the call as it read before'; 0 by the template 'total and deterministic' (their statements: YteaccaieaigeaaaGreatDoorTotals.lean).
  GIVEN WITH THE SEED: the statements are not yours to turn. If you find one false, say at which input.
  Laid BY PROGRAM, IN A SANDBOX (cutbox-rows.mjs): the forced cells as the released guide's own fill.sh prints them over the translation a41cc2644e3399aa… (all of the seat's roots in one cut). By AI agents, Wed Nov 11 2026. No macro, syntax, notation, axiom, sorry.
-/
import Derived.Test.YteaccaieaigeaaaGreatDoorChecked
import GoSem.PinnedTables
import GoSem.Claim
import GoSem.ClaimJoined
import GoSem.ClaimMapViews
import Derived.JoinedTies
import Derived.KernelRfl
namespace Go.Proofs.YteaccaieaigeaaaGreatDoor
/- THE CELL 'sum', in the pinned program and in every row, IS THE sha256 OF THE DUMP (.gsa) THAT YteaccaieaigeaaaGreatDoorProg.lean LOADS. Nothing in Lean hashes anything: it is a label: what it is worth is what the hold of that sum in a sandbox is worth. -/
noncomputable def Tryz.pinned : Pinned := { name := "yteaccaieaigeaaagreatdoor", sum := "a41cc2644e3399aa77ee35565f794d6e135c059c96df3c728e9f024e1bc12b5e", checked := Tryz.checked }
namespace Rows
def none {H : Type} : Left H := { results := [], args := [] }

/- WHAT THE LISTED PACKAGE-LEVEL VARIABLES READ AS WHEN THE CALL BEGINS. Each datum BY PROGRAM (the guide's laid-datum.mjs) off the statement by which the dump's own 'gosem.cut.vars' lays the variable. In a bare row this is a premise. The card (YteaccaieaigeaaaGreatDoorCards.lean) ties it to the program's text. -/
def laid_unicode_utf8_acceptRanges {H : Type} : DataW H := .agg [.agg [.lit (.int .u8 128), .lit (.int .u8 191)], .agg [.lit (.int .u8 160), .lit (.int .u8 191)], .agg [.lit (.int .u8 128), .lit (.int .u8 159)], .agg [.lit (.int .u8 144), .lit (.int .u8 191)], .agg [.lit (.int .u8 128), .lit (.int .u8 143)], .agg [.lit (.int .u8 0), .lit (.int .u8 0)], .agg [.lit (.int .u8 0), .lit (.int .u8 0)], .agg [.lit (.int .u8 0), .lit (.int .u8 0)], .agg [.lit (.int .u8 0), .lit (.int .u8 0)], .agg [.lit (.int .u8 0), .lit (.int .u8 0)], .agg [.lit (.int .u8 0), .lit (.int .u8 0)], .agg [.lit (.int .u8 0), .lit (.int .u8 0)], .agg [.lit (.int .u8 0), .lit (.int .u8 0)], .agg [.lit (.int .u8 0), .lit (.int .u8 0)], .agg [.lit (.int .u8 0), .lit (.int .u8 0)], .agg [.lit (.int .u8 0), .lit (.int .u8 0)]]
/-- One of Go's own tables, pinned by name: the form's constant. -/
def laid_unicode_utf8_first : DataW Unit := Go.Pinned.utf8First

/-- 'rivermarklaw39.RightsAllotAsSpecified': WHATEVER THE INPUT: true; the input reads as it did. -/
def rightsAllotAsSpecifiedSpec : ChangeSpec := { name := "rightsAllotAsSpecified", fn := fun _ => fun
  | [d1, d2] => { results := [.lit (.bool true)], args := [d1, d2] }
  | _ => none }
def rightsAllotAsSpecifiedRow : OpenClaim := { program := "yteaccaieaigeaaagreatdoor", sum := "a41cc2644e3399aa77ee35565f794d6e135c059c96df3c728e9f024e1bc12b5e", func := "rivermark/rivermarklaw39.RightsAllotAsSpecified", spec := "rightsAllotAsSpecified", inPlace := ["internal/bytealg.IndexByteString", "internal/bytealg.IndexString"], unfollowed := true, recurses := true, named := ["unicode/utf8.first", "unicode/utf8.acceptRanges", "internal/bytealg.MaxLen"], apart := false, laid := [("unicode/utf8.acceptRanges", laid_unicode_utf8_acceptRanges), ("unicode/utf8.first", laid_unicode_utf8_first)] }
def RightsAllotAsSpecifiedSaid : Prop := rightsAllotAsSpecifiedRow.holds Tryz.pinned (OpenSpec.ofChange rightsAllotAsSpecifiedSpec)

/-- ITS FALSE NEIGHBOUR: 'it returns false'. Refute it at one input. -/
def rightsAllotAsSpecifiedWrong : ChangeSpec := { name := "rightsAllotAsSpecified", fn := fun _ => fun
  | [d1, d2] => { results := [.lit (.bool false)], args := [d1, d2] }
  | _ => none }
def RightsAllotAsSpecifiedWrongFalsely : Prop := rightsAllotAsSpecifiedRow.holds Tryz.pinned (OpenSpec.ofChange rightsAllotAsSpecifiedWrong)

/-- 'rivermarklaw39.RightsFairAsSpecified': WHATEVER THE INPUT: true; the input reads as it did. -/
def rightsFairAsSpecifiedSpec : ChangeSpec := { name := "rightsFairAsSpecified", fn := fun _ => fun
  | [d1, d2, d3] => { results := [.lit (.bool true)], args := [d1, d2, d3] }
  | _ => none }
def rightsFairAsSpecifiedRow : OpenClaim := { program := "yteaccaieaigeaaagreatdoor", sum := "a41cc2644e3399aa77ee35565f794d6e135c059c96df3c728e9f024e1bc12b5e", func := "rivermark/rivermarklaw39.RightsFairAsSpecified", spec := "rightsFairAsSpecified", inPlace := ["internal/bytealg.IndexByteString", "internal/bytealg.IndexString"], unfollowed := true, recurses := true, named := ["unicode/utf8.first", "unicode/utf8.acceptRanges", "internal/bytealg.MaxLen"], apart := false, laid := [("unicode/utf8.acceptRanges", laid_unicode_utf8_acceptRanges), ("unicode/utf8.first", laid_unicode_utf8_first)] }
def RightsFairAsSpecifiedSaid : Prop := rightsFairAsSpecifiedRow.holds Tryz.pinned (OpenSpec.ofChange rightsFairAsSpecifiedSpec)

/-- ITS FALSE NEIGHBOUR: 'it returns false'. Refute it at one input. -/
def rightsFairAsSpecifiedWrong : ChangeSpec := { name := "rightsFairAsSpecified", fn := fun _ => fun
  | [d1, d2, d3] => { results := [.lit (.bool false)], args := [d1, d2, d3] }
  | _ => none }
def RightsFairAsSpecifiedWrongFalsely : Prop := rightsFairAsSpecifiedRow.holds Tryz.pinned (OpenSpec.ofChange rightsFairAsSpecifiedWrong)

/-- 'rivermarklaw39.RightsAreServed': WHATEVER THE INPUT: true; the input reads as it did. -/
def rightsAreServedSpec : ChangeSpec := { name := "rightsAreServed", fn := fun _ => fun
  | [d1, d2, d3] => { results := [.lit (.bool true)], args := [d1, d2, d3] }
  | _ => none }
def rightsAreServedRow : OpenClaim := { program := "yteaccaieaigeaaagreatdoor", sum := "a41cc2644e3399aa77ee35565f794d6e135c059c96df3c728e9f024e1bc12b5e", func := "rivermark/rivermarklaw39.RightsAreServed", spec := "rightsAreServed", inPlace := ["internal/bytealg.IndexByteString", "internal/bytealg.IndexString"], unfollowed := true, recurses := true, named := ["unicode/utf8.first", "unicode/utf8.acceptRanges", "internal/bytealg.MaxLen"], apart := false, laid := [("unicode/utf8.acceptRanges", laid_unicode_utf8_acceptRanges), ("unicode/utf8.first", laid_unicode_utf8_first)] }
def RightsAreServedSaid : Prop := rightsAreServedRow.holds Tryz.pinned (OpenSpec.ofChange rightsAreServedSpec)

/-- ITS FALSE NEIGHBOUR: 'it returns false'. Refute it at one input. -/
def rightsAreServedWrong : ChangeSpec := { name := "rightsAreServed", fn := fun _ => fun
  | [d1, d2, d3] => { results := [.lit (.bool false)], args := [d1, d2, d3] }
  | _ => none }
def RightsAreServedWrongFalsely : Prop := rightsAreServedRow.holds Tryz.pinned (OpenSpec.ofChange rightsAreServedWrong)

/-- 'rivermarklaw39.RightsSeniorsFirst': WHATEVER THE INPUT: true; the input reads as it did. -/
def rightsSeniorsFirstSpec : ChangeSpec := { name := "rightsSeniorsFirst", fn := fun _ => fun
  | [d1, d2, d3] => { results := [.lit (.bool true)], args := [d1, d2, d3] }
  | _ => none }
def rightsSeniorsFirstRow : OpenClaim := { program := "yteaccaieaigeaaagreatdoor", sum := "a41cc2644e3399aa77ee35565f794d6e135c059c96df3c728e9f024e1bc12b5e", func := "rivermark/rivermarklaw39.RightsSeniorsFirst", spec := "rightsSeniorsFirst", inPlace := ["internal/bytealg.IndexByteString", "internal/bytealg.IndexString"], unfollowed := true, recurses := true, named := ["unicode/utf8.first", "unicode/utf8.acceptRanges", "internal/bytealg.MaxLen"], apart := false, laid := [("unicode/utf8.acceptRanges", laid_unicode_utf8_acceptRanges), ("unicode/utf8.first", laid_unicode_utf8_first)] }
def RightsSeniorsFirstSaid : Prop := rightsSeniorsFirstRow.holds Tryz.pinned (OpenSpec.ofChange rightsSeniorsFirstSpec)

/-- ITS FALSE NEIGHBOUR: 'it returns false'. Refute it at one input. -/
def rightsSeniorsFirstWrong : ChangeSpec := { name := "rightsSeniorsFirst", fn := fun _ => fun
  | [d1, d2, d3] => { results := [.lit (.bool false)], args := [d1, d2, d3] }
  | _ => none }
def RightsSeniorsFirstWrongFalsely : Prop := rightsSeniorsFirstRow.holds Tryz.pinned (OpenSpec.ofChange rightsSeniorsFirstWrong)

/-- 'rivermarklaw39.RightsGrow': WHATEVER THE INPUT: true; the input reads as it did. -/
def rightsGrowSpec : ChangeSpec := { name := "rightsGrow", fn := fun _ => fun
  | [d1, d2, d3, d4] => { results := [.lit (.bool true)], args := [d1, d2, d3, d4] }
  | _ => none }
def rightsGrowRow : OpenClaim := { program := "yteaccaieaigeaaagreatdoor", sum := "a41cc2644e3399aa77ee35565f794d6e135c059c96df3c728e9f024e1bc12b5e", func := "rivermark/rivermarklaw39.RightsGrow", spec := "rightsGrow", inPlace := ["internal/bytealg.IndexByteString", "internal/bytealg.IndexString"], unfollowed := true, recurses := true, named := ["unicode/utf8.first", "unicode/utf8.acceptRanges", "internal/bytealg.MaxLen"], apart := false, laid := [("unicode/utf8.acceptRanges", laid_unicode_utf8_acceptRanges), ("unicode/utf8.first", laid_unicode_utf8_first)] }
def RightsGrowSaid : Prop := rightsGrowRow.holds Tryz.pinned (OpenSpec.ofChange rightsGrowSpec)

/-- ITS FALSE NEIGHBOUR: 'it returns false'. Refute it at one input. -/
def rightsGrowWrong : ChangeSpec := { name := "rightsGrow", fn := fun _ => fun
  | [d1, d2, d3, d4] => { results := [.lit (.bool false)], args := [d1, d2, d3, d4] }
  | _ => none }
def RightsGrowWrongFalsely : Prop := rightsGrowRow.holds Tryz.pinned (OpenSpec.ofChange rightsGrowWrong)

/-- 'rivermarklaw39.RightsInAnyOrder': WHATEVER THE INPUT: true; the input reads as it did. -/
def rightsInAnyOrderSpec : ChangeSpec := { name := "rightsInAnyOrder", fn := fun _ => fun
  | [d1, d2, d3] => { results := [.lit (.bool true)], args := [d1, d2, d3] }
  | _ => none }
def rightsInAnyOrderRow : OpenClaim := { program := "yteaccaieaigeaaagreatdoor", sum := "a41cc2644e3399aa77ee35565f794d6e135c059c96df3c728e9f024e1bc12b5e", func := "rivermark/rivermarklaw39.RightsInAnyOrder", spec := "rightsInAnyOrder", inPlace := ["internal/bytealg.IndexByteString", "internal/bytealg.IndexString"], unfollowed := true, recurses := true, named := ["unicode/utf8.first", "unicode/utf8.acceptRanges", "internal/bytealg.MaxLen"], apart := false, laid := [("unicode/utf8.acceptRanges", laid_unicode_utf8_acceptRanges), ("unicode/utf8.first", laid_unicode_utf8_first)] }
def RightsInAnyOrderSaid : Prop := rightsInAnyOrderRow.holds Tryz.pinned (OpenSpec.ofChange rightsInAnyOrderSpec)

/-- ITS FALSE NEIGHBOUR: 'it returns false'. Refute it at one input. -/
def rightsInAnyOrderWrong : ChangeSpec := { name := "rightsInAnyOrder", fn := fun _ => fun
  | [d1, d2, d3] => { results := [.lit (.bool false)], args := [d1, d2, d3] }
  | _ => none }
def RightsInAnyOrderWrongFalsely : Prop := rightsInAnyOrderRow.holds Tryz.pinned (OpenSpec.ofChange rightsInAnyOrderWrong)

/- THE SECOND FORM. 'bulk': how many values and letters a reading holds, each counted each time it is reached (what is shared counts as often as it is met; a slice's spare places count too). A statement '..UptoSaid' is the law's where the arguments, and the package variables that the reading takes, are together of bulk at most 1048576: NARROWER than '..Said'. Prove '..Said' where nothing that the law and all that it calls make is longer than what came in: it says more and counts as full. Else prove '..UptoSaid'. A law counts once. -/
mutual
def uptoBulk {H : Type} : DataW H → Nat
  | .lit (.string bytes) => bytes.length + 1
  | .lit _ => 1
  | .nil => 1
  | .ptr d => uptoBulk d + 1
  | .slice elems spare => uptoBulkAll elems + uptoBulkAll spare + 1
  | .agg parts => uptoBulkAll parts + 1
  | .iface _ d => uptoBulk d + 1
  | .map entries => uptoBulkEntries entries + 1
  | .held _ => 1
def uptoBulkAll {H : Type} : List (DataW H) → Nat
  | [] => 0
  | d :: r => uptoBulk d + uptoBulkAll r
def uptoBulkEntries {H : Type} : List (Lit × DataW H) → Nat
  | [] => 0
  | x :: r => uptoBulkEntry x + uptoBulkEntries r
def uptoBulkEntry {H : Type} : Lit × DataW H → Nat
  | (.string bytes, d) => bytes.length + uptoBulk d + 1
  | (_, d) => uptoBulk d + 1
 end
def uptoSmall : (H : Type) → List (DataW H) → Bool := fun _ ds => decide (uptoBulkAll ds ≤ 1048576)
def OpenSpec.upto (s : _root_.Go.ChangeSpec) : _root_.Go.OpenSpec := { _root_.Go.OpenSpec.ofChange s with cond := some uptoSmall }

/-- 'rivermarklaw39.RightsAllotAsSpecified', WHERE WHAT IT READS IS OF BULK AT MOST 1048576: true; the input reads as it did. -/
def rightsAllotAsSpecifiedUptoRow : OpenClaim := { program := "yteaccaieaigeaaagreatdoor", sum := "a41cc2644e3399aa77ee35565f794d6e135c059c96df3c728e9f024e1bc12b5e", func := "rivermark/rivermarklaw39.RightsAllotAsSpecified", spec := "rightsAllotAsSpecified", inPlace := ["internal/bytealg.IndexByteString", "internal/bytealg.IndexString"], unfollowed := true, recurses := true, named := ["unicode/utf8.first", "unicode/utf8.acceptRanges", "internal/bytealg.MaxLen"], apart := false, laid := [("unicode/utf8.acceptRanges", laid_unicode_utf8_acceptRanges), ("unicode/utf8.first", laid_unicode_utf8_first)], narrowed := true }
def RightsAllotAsSpecifiedUptoSaid : Prop := rightsAllotAsSpecifiedUptoRow.holds Tryz.pinned (OpenSpec.upto rightsAllotAsSpecifiedSpec)

/-- 'rivermarklaw39.RightsFairAsSpecified', WHERE WHAT IT READS IS OF BULK AT MOST 1048576: true; the input reads as it did. -/
def rightsFairAsSpecifiedUptoRow : OpenClaim := { program := "yteaccaieaigeaaagreatdoor", sum := "a41cc2644e3399aa77ee35565f794d6e135c059c96df3c728e9f024e1bc12b5e", func := "rivermark/rivermarklaw39.RightsFairAsSpecified", spec := "rightsFairAsSpecified", inPlace := ["internal/bytealg.IndexByteString", "internal/bytealg.IndexString"], unfollowed := true, recurses := true, named := ["unicode/utf8.first", "unicode/utf8.acceptRanges", "internal/bytealg.MaxLen"], apart := false, laid := [("unicode/utf8.acceptRanges", laid_unicode_utf8_acceptRanges), ("unicode/utf8.first", laid_unicode_utf8_first)], narrowed := true }
def RightsFairAsSpecifiedUptoSaid : Prop := rightsFairAsSpecifiedUptoRow.holds Tryz.pinned (OpenSpec.upto rightsFairAsSpecifiedSpec)

/-- 'rivermarklaw39.RightsAreServed', WHERE WHAT IT READS IS OF BULK AT MOST 1048576: true; the input reads as it did. -/
def rightsAreServedUptoRow : OpenClaim := { program := "yteaccaieaigeaaagreatdoor", sum := "a41cc2644e3399aa77ee35565f794d6e135c059c96df3c728e9f024e1bc12b5e", func := "rivermark/rivermarklaw39.RightsAreServed", spec := "rightsAreServed", inPlace := ["internal/bytealg.IndexByteString", "internal/bytealg.IndexString"], unfollowed := true, recurses := true, named := ["unicode/utf8.first", "unicode/utf8.acceptRanges", "internal/bytealg.MaxLen"], apart := false, laid := [("unicode/utf8.acceptRanges", laid_unicode_utf8_acceptRanges), ("unicode/utf8.first", laid_unicode_utf8_first)], narrowed := true }
def RightsAreServedUptoSaid : Prop := rightsAreServedUptoRow.holds Tryz.pinned (OpenSpec.upto rightsAreServedSpec)

/-- 'rivermarklaw39.RightsSeniorsFirst', WHERE WHAT IT READS IS OF BULK AT MOST 1048576: true; the input reads as it did. -/
def rightsSeniorsFirstUptoRow : OpenClaim := { program := "yteaccaieaigeaaagreatdoor", sum := "a41cc2644e3399aa77ee35565f794d6e135c059c96df3c728e9f024e1bc12b5e", func := "rivermark/rivermarklaw39.RightsSeniorsFirst", spec := "rightsSeniorsFirst", inPlace := ["internal/bytealg.IndexByteString", "internal/bytealg.IndexString"], unfollowed := true, recurses := true, named := ["unicode/utf8.first", "unicode/utf8.acceptRanges", "internal/bytealg.MaxLen"], apart := false, laid := [("unicode/utf8.acceptRanges", laid_unicode_utf8_acceptRanges), ("unicode/utf8.first", laid_unicode_utf8_first)], narrowed := true }
def RightsSeniorsFirstUptoSaid : Prop := rightsSeniorsFirstUptoRow.holds Tryz.pinned (OpenSpec.upto rightsSeniorsFirstSpec)

/-- 'rivermarklaw39.RightsGrow', WHERE WHAT IT READS IS OF BULK AT MOST 1048576: true; the input reads as it did. -/
def rightsGrowUptoRow : OpenClaim := { program := "yteaccaieaigeaaagreatdoor", sum := "a41cc2644e3399aa77ee35565f794d6e135c059c96df3c728e9f024e1bc12b5e", func := "rivermark/rivermarklaw39.RightsGrow", spec := "rightsGrow", inPlace := ["internal/bytealg.IndexByteString", "internal/bytealg.IndexString"], unfollowed := true, recurses := true, named := ["unicode/utf8.first", "unicode/utf8.acceptRanges", "internal/bytealg.MaxLen"], apart := false, laid := [("unicode/utf8.acceptRanges", laid_unicode_utf8_acceptRanges), ("unicode/utf8.first", laid_unicode_utf8_first)], narrowed := true }
def RightsGrowUptoSaid : Prop := rightsGrowUptoRow.holds Tryz.pinned (OpenSpec.upto rightsGrowSpec)

/-- 'rivermarklaw39.RightsInAnyOrder', WHERE WHAT IT READS IS OF BULK AT MOST 1048576: true; the input reads as it did. -/
def rightsInAnyOrderUptoRow : OpenClaim := { program := "yteaccaieaigeaaagreatdoor", sum := "a41cc2644e3399aa77ee35565f794d6e135c059c96df3c728e9f024e1bc12b5e", func := "rivermark/rivermarklaw39.RightsInAnyOrder", spec := "rightsInAnyOrder", inPlace := ["internal/bytealg.IndexByteString", "internal/bytealg.IndexString"], unfollowed := true, recurses := true, named := ["unicode/utf8.first", "unicode/utf8.acceptRanges", "internal/bytealg.MaxLen"], apart := false, laid := [("unicode/utf8.acceptRanges", laid_unicode_utf8_acceptRanges), ("unicode/utf8.first", laid_unicode_utf8_first)], narrowed := true }
def RightsInAnyOrderUptoSaid : Prop := rightsInAnyOrderUptoRow.holds Tryz.pinned (OpenSpec.upto rightsInAnyOrderSpec)

end Rows
end Go.Proofs.YteaccaieaigeaaaGreatDoor
