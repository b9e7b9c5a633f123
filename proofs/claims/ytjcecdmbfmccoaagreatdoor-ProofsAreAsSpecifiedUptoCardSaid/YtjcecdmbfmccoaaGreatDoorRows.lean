/-
  NARROWER THAN 'FOR EVERY INPUT', by the rows' own cells (each row's printed sentence says how): ProofsAreAsSpecified: laid · ProofsAreSound: laid · ProofsAreComplete: laid · ProofsAreExact: laid · ProofsMove: laid.
  DERIVED. THE GIVEN ROWS OF THIS SEAT. 5 by the template 'for every input the law returns true; each argument reads behind the call as it read before'; 0 by the template 'total and deterministic' (their statements: YtjcecdmbfmccoaaGreatDoorTotals.lean).
  GIVEN WITH THE SEED: the statements are not yours to turn. If you find one false, say at which input.
  Laid BY PROGRAM, IN A SANDBOX (cutbox-rows.mjs): the forced cells as the released guide's own fill.sh prints them over the translation 5c43669caa7d6509… (all of the seat's roots in one cut). By AI agents, Wed Nov 11 2026. No macro, syntax, notation, axiom, sorry.
-/
import Derived.Test.YtjcecdmbfmccoaaGreatDoorChecked
import GoSem.PinnedTables
import GoSem.Claim
import GoSem.ClaimJoined
import GoSem.ClaimMapViews
import Derived.JoinedTies
import Derived.KernelRfl
namespace Go.Proofs.YtjcecdmbfmccoaaGreatDoor
/- THE CELL 'sum', in the pinned program and in every row, IS THE sha256 OF THE DUMP (.gsa) THAT YtjcecdmbfmccoaaGreatDoorProg.lean LOADS. Nothing in Lean hashes anything: it is a label: what it is worth is what the hold of that sum in a sandbox is worth. -/
noncomputable def Tryz.pinned : Pinned := { name := "ytjcecdmbfmccoaagreatdoor", sum := "5c43669caa7d6509b28289c04756915c68062e0958fcbb215e0c46144db2656a", checked := Tryz.checked }
namespace Rows
def none {H : Type} : Left H := { results := [], args := [] }

/- WHAT THE LISTED PACKAGE-LEVEL VARIABLES READ AS WHEN THE CALL BEGINS. Each datum BY PROGRAM (the guide's laid-datum.mjs) off the statement by which the dump's own 'gosem.cut.vars' lays the variable. In a bare row this is a premise. The card (YtjcecdmbfmccoaaGreatDoorCards.lean) ties it to the program's text. -/
def laid_unicode_utf8_acceptRanges {H : Type} : DataW H := .agg [.agg [.lit (.int .u8 128), .lit (.int .u8 191)], .agg [.lit (.int .u8 160), .lit (.int .u8 191)], .agg [.lit (.int .u8 128), .lit (.int .u8 159)], .agg [.lit (.int .u8 144), .lit (.int .u8 191)], .agg [.lit (.int .u8 128), .lit (.int .u8 143)], .agg [.lit (.int .u8 0), .lit (.int .u8 0)], .agg [.lit (.int .u8 0), .lit (.int .u8 0)], .agg [.lit (.int .u8 0), .lit (.int .u8 0)], .agg [.lit (.int .u8 0), .lit (.int .u8 0)], .agg [.lit (.int .u8 0), .lit (.int .u8 0)], .agg [.lit (.int .u8 0), .lit (.int .u8 0)], .agg [.lit (.int .u8 0), .lit (.int .u8 0)], .agg [.lit (.int .u8 0), .lit (.int .u8 0)], .agg [.lit (.int .u8 0), .lit (.int .u8 0)], .agg [.lit (.int .u8 0), .lit (.int .u8 0)], .agg [.lit (.int .u8 0), .lit (.int .u8 0)]]
/-- One of Go's own tables, pinned by name: the form's constant. -/
def laid_unicode_utf8_first : DataW Unit := Go.Pinned.utf8First

/-- 'rivermarklaw22.ProofsAreAsSpecified': WHATEVER THE INPUT: true; the input reads as it did. -/
def proofsAreAsSpecifiedSpec : ChangeSpec := { name := "proofsAreAsSpecified", fn := fun _ => fun
  | [d1, d2, d3] => { results := [.lit (.bool true)], args := [d1, d2, d3] }
  | _ => none }
def proofsAreAsSpecifiedRow : OpenClaim := { program := "ytjcecdmbfmccoaagreatdoor", sum := "5c43669caa7d6509b28289c04756915c68062e0958fcbb215e0c46144db2656a", func := "rivermark/rivermarklaw22.ProofsAreAsSpecified", spec := "proofsAreAsSpecified", inPlace := ["internal/bytealg.IndexByteString", "internal/bytealg.IndexString"], unfollowed := true, recurses := true, named := ["unicode/utf8.first", "unicode/utf8.acceptRanges", "internal/bytealg.MaxLen"], plainKeys := false, apart := false, laid := [("unicode/utf8.acceptRanges", laid_unicode_utf8_acceptRanges), ("unicode/utf8.first", laid_unicode_utf8_first)] }
def ProofsAreAsSpecifiedSaid : Prop := proofsAreAsSpecifiedRow.holds Tryz.pinned (OpenSpec.ofChange proofsAreAsSpecifiedSpec)

/-- ITS FALSE NEIGHBOUR: 'it returns false'. Refute it at one input. -/
def proofsAreAsSpecifiedWrong : ChangeSpec := { name := "proofsAreAsSpecified", fn := fun _ => fun
  | [d1, d2, d3] => { results := [.lit (.bool false)], args := [d1, d2, d3] }
  | _ => none }
def ProofsAreAsSpecifiedWrongFalsely : Prop := proofsAreAsSpecifiedRow.holds Tryz.pinned (OpenSpec.ofChange proofsAreAsSpecifiedWrong)

/-- 'rivermarklaw22.ProofsAreSound': WHATEVER THE INPUT: true; the input reads as it did. -/
def proofsAreSoundSpec : ChangeSpec := { name := "proofsAreSound", fn := fun _ => fun
  | [d1, d2] => { results := [.lit (.bool true)], args := [d1, d2] }
  | _ => none }
def proofsAreSoundRow : OpenClaim := { program := "ytjcecdmbfmccoaagreatdoor", sum := "5c43669caa7d6509b28289c04756915c68062e0958fcbb215e0c46144db2656a", func := "rivermark/rivermarklaw22.ProofsAreSound", spec := "proofsAreSound", inPlace := ["internal/bytealg.IndexByteString", "internal/bytealg.IndexString"], unfollowed := true, recurses := true, named := ["unicode/utf8.first", "unicode/utf8.acceptRanges", "internal/bytealg.MaxLen"], plainKeys := false, apart := false, laid := [("unicode/utf8.acceptRanges", laid_unicode_utf8_acceptRanges), ("unicode/utf8.first", laid_unicode_utf8_first)] }
def ProofsAreSoundSaid : Prop := proofsAreSoundRow.holds Tryz.pinned (OpenSpec.ofChange proofsAreSoundSpec)

/-- ITS FALSE NEIGHBOUR: 'it returns false'. Refute it at one input. -/
def proofsAreSoundWrong : ChangeSpec := { name := "proofsAreSound", fn := fun _ => fun
  | [d1, d2] => { results := [.lit (.bool false)], args := [d1, d2] }
  | _ => none }
def ProofsAreSoundWrongFalsely : Prop := proofsAreSoundRow.holds Tryz.pinned (OpenSpec.ofChange proofsAreSoundWrong)

/-- 'rivermarklaw22.ProofsAreComplete': WHATEVER THE INPUT: true; the input reads as it did. -/
def proofsAreCompleteSpec : ChangeSpec := { name := "proofsAreComplete", fn := fun _ => fun
  | [d1, d2] => { results := [.lit (.bool true)], args := [d1, d2] }
  | _ => none }
def proofsAreCompleteRow : OpenClaim := { program := "ytjcecdmbfmccoaagreatdoor", sum := "5c43669caa7d6509b28289c04756915c68062e0958fcbb215e0c46144db2656a", func := "rivermark/rivermarklaw22.ProofsAreComplete", spec := "proofsAreComplete", inPlace := ["internal/bytealg.IndexByteString", "internal/bytealg.IndexString"], unfollowed := true, recurses := true, named := ["unicode/utf8.first", "unicode/utf8.acceptRanges", "internal/bytealg.MaxLen"], plainKeys := false, apart := false, laid := [("unicode/utf8.acceptRanges", laid_unicode_utf8_acceptRanges), ("unicode/utf8.first", laid_unicode_utf8_first)] }
def ProofsAreCompleteSaid : Prop := proofsAreCompleteRow.holds Tryz.pinned (OpenSpec.ofChange proofsAreCompleteSpec)

/-- ITS FALSE NEIGHBOUR: 'it returns false'. Refute it at one input. -/
def proofsAreCompleteWrong : ChangeSpec := { name := "proofsAreComplete", fn := fun _ => fun
  | [d1, d2] => { results := [.lit (.bool false)], args := [d1, d2] }
  | _ => none }
def ProofsAreCompleteWrongFalsely : Prop := proofsAreCompleteRow.holds Tryz.pinned (OpenSpec.ofChange proofsAreCompleteWrong)

/-- 'rivermarklaw22.ProofsAreExact': WHATEVER THE INPUT: true; the input reads as it did. -/
def proofsAreExactSpec : ChangeSpec := { name := "proofsAreExact", fn := fun _ => fun
  | [d1, d2, d3] => { results := [.lit (.bool true)], args := [d1, d2, d3] }
  | _ => none }
def proofsAreExactRow : OpenClaim := { program := "ytjcecdmbfmccoaagreatdoor", sum := "5c43669caa7d6509b28289c04756915c68062e0958fcbb215e0c46144db2656a", func := "rivermark/rivermarklaw22.ProofsAreExact", spec := "proofsAreExact", inPlace := ["internal/bytealg.IndexByteString", "internal/bytealg.IndexString"], unfollowed := true, recurses := true, named := ["unicode/utf8.first", "unicode/utf8.acceptRanges", "internal/bytealg.MaxLen"], plainKeys := false, apart := false, laid := [("unicode/utf8.acceptRanges", laid_unicode_utf8_acceptRanges), ("unicode/utf8.first", laid_unicode_utf8_first)] }
def ProofsAreExactSaid : Prop := proofsAreExactRow.holds Tryz.pinned (OpenSpec.ofChange proofsAreExactSpec)

/-- ITS FALSE NEIGHBOUR: 'it returns false'. Refute it at one input. -/
def proofsAreExactWrong : ChangeSpec := { name := "proofsAreExact", fn := fun _ => fun
  | [d1, d2, d3] => { results := [.lit (.bool false)], args := [d1, d2, d3] }
  | _ => none }
def ProofsAreExactWrongFalsely : Prop := proofsAreExactRow.holds Tryz.pinned (OpenSpec.ofChange proofsAreExactWrong)

/-- 'rivermarklaw22.ProofsMove': WHATEVER THE INPUT: true; the input reads as it did. -/
def proofsMoveSpec : ChangeSpec := { name := "proofsMove", fn := fun _ => fun
  | [d1, d2, d3] => { results := [.lit (.bool true)], args := [d1, d2, d3] }
  | _ => none }
def proofsMoveRow : OpenClaim := { program := "ytjcecdmbfmccoaagreatdoor", sum := "5c43669caa7d6509b28289c04756915c68062e0958fcbb215e0c46144db2656a", func := "rivermark/rivermarklaw22.ProofsMove", spec := "proofsMove", inPlace := ["internal/bytealg.IndexByteString", "internal/bytealg.IndexString"], unfollowed := true, recurses := true, named := ["unicode/utf8.first", "unicode/utf8.acceptRanges", "internal/bytealg.MaxLen"], plainKeys := false, apart := false, laid := [("unicode/utf8.acceptRanges", laid_unicode_utf8_acceptRanges), ("unicode/utf8.first", laid_unicode_utf8_first)] }
def ProofsMoveSaid : Prop := proofsMoveRow.holds Tryz.pinned (OpenSpec.ofChange proofsMoveSpec)

/-- ITS FALSE NEIGHBOUR: 'it returns false'. Refute it at one input. -/
def proofsMoveWrong : ChangeSpec := { name := "proofsMove", fn := fun _ => fun
  | [d1, d2, d3] => { results := [.lit (.bool false)], args := [d1, d2, d3] }
  | _ => none }
def ProofsMoveWrongFalsely : Prop := proofsMoveRow.holds Tryz.pinned (OpenSpec.ofChange proofsMoveWrong)

/- THE SECOND FORM. 'bulk': how many values and letters a reading holds, each counted each time it is reached (what is shared counts as often as it is met; a slice's spare places count too). A statement '..UptoSaid' is the law's where the arguments, and the package variables that the reading takes, are together of bulk at most 1048576: NARROWER than '..Said'. Prove '..Said' where nothing that the law and all that it calls make is longer than what came in: it says more and counts as full. Else prove '..UptoSaid'. A law counts once. -/
mutual
def uptoBulk {H : Type} : DataW H → Nat
  | .lit (.string bytes) => bytes.length + 1
  | .lit _ => 1
  | .nil => 1
  | .ptr d => uptoBulk d + 1
  | .slice elems spare => uptoBulkAll elems + uptoBulkAll spare + 1
  | .agg parts => uptoBulkAll parts + 1
  | .iface _ d => uptoBulk d + 1
  | .map entries => uptoBulkEntries entries + 1
  | .held _ => 1
def uptoBulkAll {H : Type} : List (DataW H) → Nat
  | [] => 0
  | d :: r => uptoBulk d + uptoBulkAll r
def uptoBulkEntries {H : Type} : List (Lit × DataW H) → Nat
  | [] => 0
  | x :: r => uptoBulkEntry x + uptoBulkEntries r
def uptoBulkEntry {H : Type} : Lit × DataW H → Nat
  | (.string bytes, d) => bytes.length + uptoBulk d + 1
  | (_, d) => uptoBulk d + 1
 end
def uptoSmall : (H : Type) → List (DataW H) → Bool := fun _ ds => decide (uptoBulkAll ds ≤ 1048576)
def OpenSpec.upto (s : _root_.Go.ChangeSpec) : _root_.Go.OpenSpec := { _root_.Go.OpenSpec.ofChange s with cond := some uptoSmall }

/-- 'rivermarklaw22.ProofsAreAsSpecified', WHERE WHAT IT READS IS OF BULK AT MOST 1048576: true; the input reads as it did. -/
def proofsAreAsSpecifiedUptoRow : OpenClaim := { program := "ytjcecdmbfmccoaagreatdoor", sum := "5c43669caa7d6509b28289c04756915c68062e0958fcbb215e0c46144db2656a", func := "rivermark/rivermarklaw22.ProofsAreAsSpecified", spec := "proofsAreAsSpecified", inPlace := ["internal/bytealg.IndexByteString", "internal/bytealg.IndexString"], unfollowed := true, recurses := true, named := ["unicode/utf8.first", "unicode/utf8.acceptRanges", "internal/bytealg.MaxLen"], plainKeys := false, apart := false, laid := [("unicode/utf8.acceptRanges", laid_unicode_utf8_acceptRanges), ("unicode/utf8.first", laid_unicode_utf8_first)], narrowed := true }
def ProofsAreAsSpecifiedUptoSaid : Prop := proofsAreAsSpecifiedUptoRow.holds Tryz.pinned (OpenSpec.upto proofsAreAsSpecifiedSpec)

/-- 'rivermarklaw22.ProofsAreSound', WHERE WHAT IT READS IS OF BULK AT MOST 1048576: true; the input reads as it did. -/
def proofsAreSoundUptoRow : OpenClaim := { program := "ytjcecdmbfmccoaagreatdoor", sum := "5c43669caa7d6509b28289c04756915c68062e0958fcbb215e0c46144db2656a", func := "rivermark/rivermarklaw22.ProofsAreSound", spec := "proofsAreSound", inPlace := ["internal/bytealg.IndexByteString", "internal/bytealg.IndexString"], unfollowed := true, recurses := true, named := ["unicode/utf8.first", "unicode/utf8.acceptRanges", "internal/bytealg.MaxLen"], plainKeys := false, apart := false, laid := [("unicode/utf8.acceptRanges", laid_unicode_utf8_acceptRanges), ("unicode/utf8.first", laid_unicode_utf8_first)], narrowed := true }
def ProofsAreSoundUptoSaid : Prop := proofsAreSoundUptoRow.holds Tryz.pinned (OpenSpec.upto proofsAreSoundSpec)

/-- 'rivermarklaw22.ProofsAreComplete', WHERE WHAT IT READS IS OF BULK AT MOST 1048576: true; the input reads as it did. -/
def proofsAreCompleteUptoRow : OpenClaim := { program := "ytjcecdmbfmccoaagreatdoor", sum := "5c43669caa7d6509b28289c04756915c68062e0958fcbb215e0c46144db2656a", func := "rivermark/rivermarklaw22.ProofsAreComplete", spec := "proofsAreComplete", inPlace := ["internal/bytealg.IndexByteString", "internal/bytealg.IndexString"], unfollowed := true, recurses := true, named := ["unicode/utf8.first", "unicode/utf8.acceptRanges", "internal/bytealg.MaxLen"], plainKeys := false, apart := false, laid := [("unicode/utf8.acceptRanges", laid_unicode_utf8_acceptRanges), ("unicode/utf8.first", laid_unicode_utf8_first)], narrowed := true }
def ProofsAreCompleteUptoSaid : Prop := proofsAreCompleteUptoRow.holds Tryz.pinned (OpenSpec.upto proofsAreCompleteSpec)

/-- 'rivermarklaw22.ProofsAreExact', WHERE WHAT IT READS IS OF BULK AT MOST 1048576: true; the input reads as it did. -/
def proofsAreExactUptoRow : OpenClaim := { program := "ytjcecdmbfmccoaagreatdoor", sum := "5c43669caa7d6509b28289c04756915c68062e0958fcbb215e0c46144db2656a", func := "rivermark/rivermarklaw22.ProofsAreExact", spec := "proofsAreExact", inPlace := ["internal/bytealg.IndexByteString", "internal/bytealg.IndexString"], unfollowed := true, recurses := true, named := ["unicode/utf8.first", "unicode/utf8.acceptRanges", "internal/bytealg.MaxLen"], plainKeys := false, apart := false, laid := [("unicode/utf8.acceptRanges", laid_unicode_utf8_acceptRanges), ("unicode/utf8.first", laid_unicode_utf8_first)], narrowed := true }
def ProofsAreExactUptoSaid : Prop := proofsAreExactUptoRow.holds Tryz.pinned (OpenSpec.upto proofsAreExactSpec)

/-- 'rivermarklaw22.ProofsMove', WHERE WHAT IT READS IS OF BULK AT MOST 1048576: true; the input reads as it did. -/
def proofsMoveUptoRow : OpenClaim := { program := "ytjcecdmbfmccoaagreatdoor", sum := "5c43669caa7d6509b28289c04756915c68062e0958fcbb215e0c46144db2656a", func := "rivermark/rivermarklaw22.ProofsMove", spec := "proofsMove", inPlace := ["internal/bytealg.IndexByteString", "internal/bytealg.IndexString"], unfollowed := true, recurses := true, named := ["unicode/utf8.first", "unicode/utf8.acceptRanges", "internal/bytealg.MaxLen"], plainKeys := false, apart := false, laid := [("unicode/utf8.acceptRanges", laid_unicode_utf8_acceptRanges), ("unicode/utf8.first", laid_unicode_utf8_first)], narrowed := true }
def ProofsMoveUptoSaid : Prop := proofsMoveUptoRow.holds Tryz.pinned (OpenSpec.upto proofsMoveSpec)

end Rows
end Go.Proofs.YtjcecdmbfmccoaaGreatDoor
