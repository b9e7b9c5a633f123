/-
  NARROWER THAN 'FOR EVERY INPUT', by the rows' own cells (each row's printed sentence says how): VolumesAreAsSpecified: laid · VolumeExactAsSpecified: laid · VolumeIsLinear: laid · VolumeOfTables: laid · VolumeIsDecided: laid.
  DERIVED. THE GIVEN ROWS OF THIS SEAT. 5 by the template 'for every input the law returns true; each argument reads behind the call as it read before'; 0 by the template 'total and deterministic' (their statements: YthkdfpbjkpgckaaGreatDoorTotals.lean).
  GIVEN WITH THE SEED: the statements are not yours to turn. If you find one false, say at which input.
  Laid BY PROGRAM, IN A SANDBOX (cutbox-rows.mjs): the forced cells as the released guide's own fill.sh prints them over the translation 0f28e1ab6c8e04f2… (all of the seat's roots in one cut). By AI agents, Wed Nov 11 2026. No macro, syntax, notation, axiom, sorry.
-/
import Derived.Test.YthkdfpbjkpgckaaGreatDoorChecked
import GoSem.PinnedTables
import GoSem.Claim
import GoSem.ClaimJoined
import GoSem.ClaimMapViews
import Derived.JoinedTies
import Derived.KernelRfl
namespace Go.Proofs.YthkdfpbjkpgckaaGreatDoor
/- THE CELL 'sum', in the pinned program and in every row, IS THE sha256 OF THE DUMP (.gsa) THAT YthkdfpbjkpgckaaGreatDoorProg.lean LOADS. Nothing in Lean hashes anything: it is a label: what it is worth is what the hold of that sum in a sandbox is worth. -/
noncomputable def Tryz.pinned : Pinned := { name := "ythkdfpbjkpgckaagreatdoor", sum := "0f28e1ab6c8e04f2d5213d0fcc0f679b3fee6c43ce783112485a6442ac146369", checked := Tryz.checked }
namespace Rows
def none {H : Type} : Left H := { results := [], args := [] }

/- WHAT THE LISTED PACKAGE-LEVEL VARIABLES READ AS WHEN THE CALL BEGINS. Each datum BY PROGRAM (the guide's laid-datum.mjs) off the statement by which the dump's own 'gosem.cut.vars' lays the variable. In a bare row this is a premise. The card (YthkdfpbjkpgckaaGreatDoorCards.lean) ties it to the program's text. -/
def laid_unicode_utf8_acceptRanges {H : Type} : DataW H := .agg [.agg [.lit (.int .u8 128), .lit (.int .u8 191)], .agg [.lit (.int .u8 160), .lit (.int .u8 191)], .agg [.lit (.int .u8 128), .lit (.int .u8 159)], .agg [.lit (.int .u8 144), .lit (.int .u8 191)], .agg [.lit (.int .u8 128), .lit (.int .u8 143)], .agg [.lit (.int .u8 0), .lit (.int .u8 0)], .agg [.lit (.int .u8 0), .lit (.int .u8 0)], .agg [.lit (.int .u8 0), .lit (.int .u8 0)], .agg [.lit (.int .u8 0), .lit (.int .u8 0)], .agg [.lit (.int .u8 0), .lit (.int .u8 0)], .agg [.lit (.int .u8 0), .lit (.int .u8 0)], .agg [.lit (.int .u8 0), .lit (.int .u8 0)], .agg [.lit (.int .u8 0), .lit (.int .u8 0)], .agg [.lit (.int .u8 0), .lit (.int .u8 0)], .agg [.lit (.int .u8 0), .lit (.int .u8 0)], .agg [.lit (.int .u8 0), .lit (.int .u8 0)]]
/-- One of Go's own tables, pinned by name: the form's constant. -/
def laid_unicode_utf8_first : DataW Unit := Go.Pinned.utf8First

/-- 'rivermarklaw17.VolumesAreAsSpecified': WHATEVER THE INPUT: true; the input reads as it did. -/
def volumesAreAsSpecifiedSpec : ChangeSpec := { name := "volumesAreAsSpecified", fn := fun _ => fun
  | [d1, d2, d3] => { results := [.lit (.bool true)], args := [d1, d2, d3] }
  | _ => none }
def volumesAreAsSpecifiedRow : OpenClaim := { program := "ythkdfpbjkpgckaagreatdoor", sum := "0f28e1ab6c8e04f2d5213d0fcc0f679b3fee6c43ce783112485a6442ac146369", func := "rivermark/rivermarklaw17.VolumesAreAsSpecified", spec := "volumesAreAsSpecified", inPlace := ["internal/bytealg.IndexByteString", "internal/bytealg.IndexString"], unfollowed := true, recurses := true, named := ["unicode/utf8.first", "unicode/utf8.acceptRanges", "internal/bytealg.MaxLen"], plainKeys := false, apart := false, laid := [("unicode/utf8.acceptRanges", laid_unicode_utf8_acceptRanges), ("unicode/utf8.first", laid_unicode_utf8_first)] }
def VolumesAreAsSpecifiedSaid : Prop := volumesAreAsSpecifiedRow.holds Tryz.pinned (OpenSpec.ofChange volumesAreAsSpecifiedSpec)

/-- ITS FALSE NEIGHBOUR: 'it returns false'. Refute it at one input. -/
def volumesAreAsSpecifiedWrong : ChangeSpec := { name := "volumesAreAsSpecified", fn := fun _ => fun
  | [d1, d2, d3] => { results := [.lit (.bool false)], args := [d1, d2, d3] }
  | _ => none }
def VolumesAreAsSpecifiedWrongFalsely : Prop := volumesAreAsSpecifiedRow.holds Tryz.pinned (OpenSpec.ofChange volumesAreAsSpecifiedWrong)

/-- 'rivermarklaw17.VolumeExactAsSpecified': WHATEVER THE INPUT: true; the input reads as it did. -/
def volumeExactAsSpecifiedSpec : ChangeSpec := { name := "volumeExactAsSpecified", fn := fun _ => fun
  | [d1, d2] => { results := [.lit (.bool true)], args := [d1, d2] }
  | _ => none }
def volumeExactAsSpecifiedRow : OpenClaim := { program := "ythkdfpbjkpgckaagreatdoor", sum := "0f28e1ab6c8e04f2d5213d0fcc0f679b3fee6c43ce783112485a6442ac146369", func := "rivermark/rivermarklaw17.VolumeExactAsSpecified", spec := "volumeExactAsSpecified", inPlace := ["internal/bytealg.IndexByteString", "internal/bytealg.IndexString"], unfollowed := true, recurses := true, named := ["unicode/utf8.first", "unicode/utf8.acceptRanges", "internal/bytealg.MaxLen"], plainKeys := false, apart := false, laid := [("unicode/utf8.acceptRanges", laid_unicode_utf8_acceptRanges), ("unicode/utf8.first", laid_unicode_utf8_first)] }
def VolumeExactAsSpecifiedSaid : Prop := volumeExactAsSpecifiedRow.holds Tryz.pinned (OpenSpec.ofChange volumeExactAsSpecifiedSpec)

/-- ITS FALSE NEIGHBOUR: 'it returns false'. Refute it at one input. -/
def volumeExactAsSpecifiedWrong : ChangeSpec := { name := "volumeExactAsSpecified", fn := fun _ => fun
  | [d1, d2] => { results := [.lit (.bool false)], args := [d1, d2] }
  | _ => none }
def VolumeExactAsSpecifiedWrongFalsely : Prop := volumeExactAsSpecifiedRow.holds Tryz.pinned (OpenSpec.ofChange volumeExactAsSpecifiedWrong)

/-- 'rivermarklaw17.VolumeIsLinear': WHATEVER THE INPUT: true; the input reads as it did. -/
def volumeIsLinearSpec : ChangeSpec := { name := "volumeIsLinear", fn := fun _ => fun
  | [d1, d2, d3] => { results := [.lit (.bool true)], args := [d1, d2, d3] }
  | _ => none }
def volumeIsLinearRow : OpenClaim := { program := "ythkdfpbjkpgckaagreatdoor", sum := "0f28e1ab6c8e04f2d5213d0fcc0f679b3fee6c43ce783112485a6442ac146369", func := "rivermark/rivermarklaw17.VolumeIsLinear", spec := "volumeIsLinear", inPlace := ["internal/bytealg.IndexByteString", "internal/bytealg.IndexString"], unfollowed := true, recurses := true, named := ["unicode/utf8.first", "unicode/utf8.acceptRanges", "internal/bytealg.MaxLen"], plainKeys := false, apart := false, laid := [("unicode/utf8.acceptRanges", laid_unicode_utf8_acceptRanges), ("unicode/utf8.first", laid_unicode_utf8_first)] }
def VolumeIsLinearSaid : Prop := volumeIsLinearRow.holds Tryz.pinned (OpenSpec.ofChange volumeIsLinearSpec)

/-- ITS FALSE NEIGHBOUR: 'it returns false'. Refute it at one input. -/
def volumeIsLinearWrong : ChangeSpec := { name := "volumeIsLinear", fn := fun _ => fun
  | [d1, d2, d3] => { results := [.lit (.bool false)], args := [d1, d2, d3] }
  | _ => none }
def VolumeIsLinearWrongFalsely : Prop := volumeIsLinearRow.holds Tryz.pinned (OpenSpec.ofChange volumeIsLinearWrong)

/-- 'rivermarklaw17.VolumeOfTables': WHATEVER THE INPUT: true; the input reads as it did. -/
def volumeOfTablesSpec : ChangeSpec := { name := "volumeOfTables", fn := fun _ => fun
  | [d1, d2] => { results := [.lit (.bool true)], args := [d1, d2] }
  | _ => none }
def volumeOfTablesRow : OpenClaim := { program := "ythkdfpbjkpgckaagreatdoor", sum := "0f28e1ab6c8e04f2d5213d0fcc0f679b3fee6c43ce783112485a6442ac146369", func := "rivermark/rivermarklaw17.VolumeOfTables", spec := "volumeOfTables", inPlace := ["internal/bytealg.IndexByteString", "internal/bytealg.IndexString"], unfollowed := true, recurses := true, named := ["unicode/utf8.first", "unicode/utf8.acceptRanges", "internal/bytealg.MaxLen"], plainKeys := false, apart := false, laid := [("unicode/utf8.acceptRanges", laid_unicode_utf8_acceptRanges), ("unicode/utf8.first", laid_unicode_utf8_first)] }
def VolumeOfTablesSaid : Prop := volumeOfTablesRow.holds Tryz.pinned (OpenSpec.ofChange volumeOfTablesSpec)

/-- ITS FALSE NEIGHBOUR: 'it returns false'. Refute it at one input. -/
def volumeOfTablesWrong : ChangeSpec := { name := "volumeOfTables", fn := fun _ => fun
  | [d1, d2] => { results := [.lit (.bool false)], args := [d1, d2] }
  | _ => none }
def VolumeOfTablesWrongFalsely : Prop := volumeOfTablesRow.holds Tryz.pinned (OpenSpec.ofChange volumeOfTablesWrong)

/-- 'rivermarklaw17.VolumeIsDecided': WHATEVER THE INPUT: true; the input reads as it did. -/
def volumeIsDecidedSpec : ChangeSpec := { name := "volumeIsDecided", fn := fun _ => fun
  | [d1, d2, d3] => { results := [.lit (.bool true)], args := [d1, d2, d3] }
  | _ => none }
def volumeIsDecidedRow : OpenClaim := { program := "ythkdfpbjkpgckaagreatdoor", sum := "0f28e1ab6c8e04f2d5213d0fcc0f679b3fee6c43ce783112485a6442ac146369", func := "rivermark/rivermarklaw17.VolumeIsDecided", spec := "volumeIsDecided", inPlace := ["internal/bytealg.IndexByteString", "internal/bytealg.IndexString"], unfollowed := true, recurses := true, named := ["unicode/utf8.first", "unicode/utf8.acceptRanges", "internal/bytealg.MaxLen"], plainKeys := false, apart := false, laid := [("unicode/utf8.acceptRanges", laid_unicode_utf8_acceptRanges), ("unicode/utf8.first", laid_unicode_utf8_first)] }
def VolumeIsDecidedSaid : Prop := volumeIsDecidedRow.holds Tryz.pinned (OpenSpec.ofChange volumeIsDecidedSpec)

/-- ITS FALSE NEIGHBOUR: 'it returns false'. Refute it at one input. -/
def volumeIsDecidedWrong : ChangeSpec := { name := "volumeIsDecided", fn := fun _ => fun
  | [d1, d2, d3] => { results := [.lit (.bool false)], args := [d1, d2, d3] }
  | _ => none }
def VolumeIsDecidedWrongFalsely : Prop := volumeIsDecidedRow.holds Tryz.pinned (OpenSpec.ofChange volumeIsDecidedWrong)

/- THE SECOND FORM. 'bulk': how many values and letters a reading holds, each counted each time it is reached (what is shared counts as often as it is met; a slice's spare places count too). A statement '..UptoSaid' is the law's where the arguments, and the package variables that the reading takes, are together of bulk at most 1048576: NARROWER than '..Said'. Prove '..Said' where nothing that the law and all that it calls make is longer than what came in: it says more and counts as full. Else prove '..UptoSaid'. A law counts once. -/
mutual
def uptoBulk {H : Type} : DataW H → Nat
  | .lit (.string bytes) => bytes.length + 1
  | .lit _ => 1
  | .nil => 1
  | .ptr d => uptoBulk d + 1
  | .slice elems spare => uptoBulkAll elems + uptoBulkAll spare + 1
  | .agg parts => uptoBulkAll parts + 1
  | .iface _ d => uptoBulk d + 1
  | .map entries => uptoBulkEntries entries + 1
  | .held _ => 1
def uptoBulkAll {H : Type} : List (DataW H) → Nat
  | [] => 0
  | d :: r => uptoBulk d + uptoBulkAll r
def uptoBulkEntries {H : Type} : List (Lit × DataW H) → Nat
  | [] => 0
  | x :: r => uptoBulkEntry x + uptoBulkEntries r
def uptoBulkEntry {H : Type} : Lit × DataW H → Nat
  | (.string bytes, d) => bytes.length + uptoBulk d + 1
  | (_, d) => uptoBulk d + 1
 end
def uptoSmall : (H : Type) → List (DataW H) → Bool := fun _ ds => decide (uptoBulkAll ds ≤ 1048576)
def OpenSpec.upto (s : _root_.Go.ChangeSpec) : _root_.Go.OpenSpec := { _root_.Go.OpenSpec.ofChange s with cond := some uptoSmall }

/-- 'rivermarklaw17.VolumesAreAsSpecified', WHERE WHAT IT READS IS OF BULK AT MOST 1048576: true; the input reads as it did. -/
def volumesAreAsSpecifiedUptoRow : OpenClaim := { program := "ythkdfpbjkpgckaagreatdoor", sum := "0f28e1ab6c8e04f2d5213d0fcc0f679b3fee6c43ce783112485a6442ac146369", func := "rivermark/rivermarklaw17.VolumesAreAsSpecified", spec := "volumesAreAsSpecified", inPlace := ["internal/bytealg.IndexByteString", "internal/bytealg.IndexString"], unfollowed := true, recurses := true, named := ["unicode/utf8.first", "unicode/utf8.acceptRanges", "internal/bytealg.MaxLen"], plainKeys := false, apart := false, laid := [("unicode/utf8.acceptRanges", laid_unicode_utf8_acceptRanges), ("unicode/utf8.first", laid_unicode_utf8_first)], narrowed := true }
def VolumesAreAsSpecifiedUptoSaid : Prop := volumesAreAsSpecifiedUptoRow.holds Tryz.pinned (OpenSpec.upto volumesAreAsSpecifiedSpec)

/-- 'rivermarklaw17.VolumeExactAsSpecified', WHERE WHAT IT READS IS OF BULK AT MOST 1048576: true; the input reads as it did. -/
def volumeExactAsSpecifiedUptoRow : OpenClaim := { program := "ythkdfpbjkpgckaagreatdoor", sum := "0f28e1ab6c8e04f2d5213d0fcc0f679b3fee6c43ce783112485a6442ac146369", func := "rivermark/rivermarklaw17.VolumeExactAsSpecified", spec := "volumeExactAsSpecified", inPlace := ["internal/bytealg.IndexByteString", "internal/bytealg.IndexString"], unfollowed := true, recurses := true, named := ["unicode/utf8.first", "unicode/utf8.acceptRanges", "internal/bytealg.MaxLen"], plainKeys := false, apart := false, laid := [("unicode/utf8.acceptRanges", laid_unicode_utf8_acceptRanges), ("unicode/utf8.first", laid_unicode_utf8_first)], narrowed := true }
def VolumeExactAsSpecifiedUptoSaid : Prop := volumeExactAsSpecifiedUptoRow.holds Tryz.pinned (OpenSpec.upto volumeExactAsSpecifiedSpec)

/-- 'rivermarklaw17.VolumeIsLinear', WHERE WHAT IT READS IS OF BULK AT MOST 1048576: true; the input reads as it did. -/
def volumeIsLinearUptoRow : OpenClaim := { program := "ythkdfpbjkpgckaagreatdoor", sum := "0f28e1ab6c8e04f2d5213d0fcc0f679b3fee6c43ce783112485a6442ac146369", func := "rivermark/rivermarklaw17.VolumeIsLinear", spec := "volumeIsLinear", inPlace := ["internal/bytealg.IndexByteString", "internal/bytealg.IndexString"], unfollowed := true, recurses := true, named := ["unicode/utf8.first", "unicode/utf8.acceptRanges", "internal/bytealg.MaxLen"], plainKeys := false, apart := false, laid := [("unicode/utf8.acceptRanges", laid_unicode_utf8_acceptRanges), ("unicode/utf8.first", laid_unicode_utf8_first)], narrowed := true }
def VolumeIsLinearUptoSaid : Prop := volumeIsLinearUptoRow.holds Tryz.pinned (OpenSpec.upto volumeIsLinearSpec)

/-- 'rivermarklaw17.VolumeOfTables', WHERE WHAT IT READS IS OF BULK AT MOST 1048576: true; the input reads as it did. -/
def volumeOfTablesUptoRow : OpenClaim := { program := "ythkdfpbjkpgckaagreatdoor", sum := "0f28e1ab6c8e04f2d5213d0fcc0f679b3fee6c43ce783112485a6442ac146369", func := "rivermark/rivermarklaw17.VolumeOfTables", spec := "volumeOfTables", inPlace := ["internal/bytealg.IndexByteString", "internal/bytealg.IndexString"], unfollowed := true, recurses := true, named := ["unicode/utf8.first", "unicode/utf8.acceptRanges", "internal/bytealg.MaxLen"], plainKeys := false, apart := false, laid := [("unicode/utf8.acceptRanges", laid_unicode_utf8_acceptRanges), ("unicode/utf8.first", laid_unicode_utf8_first)], narrowed := true }
def VolumeOfTablesUptoSaid : Prop := volumeOfTablesUptoRow.holds Tryz.pinned (OpenSpec.upto volumeOfTablesSpec)

/-- 'rivermarklaw17.VolumeIsDecided', WHERE WHAT IT READS IS OF BULK AT MOST 1048576: true; the input reads as it did. -/
def volumeIsDecidedUptoRow : OpenClaim := { program := "ythkdfpbjkpgckaagreatdoor", sum := "0f28e1ab6c8e04f2d5213d0fcc0f679b3fee6c43ce783112485a6442ac146369", func := "rivermark/rivermarklaw17.VolumeIsDecided", spec := "volumeIsDecided", inPlace := ["internal/bytealg.IndexByteString", "internal/bytealg.IndexString"], unfollowed := true, recurses := true, named := ["unicode/utf8.first", "unicode/utf8.acceptRanges", "internal/bytealg.MaxLen"], plainKeys := false, apart := false, laid := [("unicode/utf8.acceptRanges", laid_unicode_utf8_acceptRanges), ("unicode/utf8.first", laid_unicode_utf8_first)], narrowed := true }
def VolumeIsDecidedUptoSaid : Prop := volumeIsDecidedUptoRow.holds Tryz.pinned (OpenSpec.upto volumeIsDecidedSpec)

end Rows
end Go.Proofs.YthkdfpbjkpgckaaGreatDoor
