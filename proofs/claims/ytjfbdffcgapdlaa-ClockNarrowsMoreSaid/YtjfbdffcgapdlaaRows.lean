/-
  No cell of these rows narrows 'for every input' (looked for: loops, veiled, ifaces, maps, wideKeys, modest, calm, conditions, laid).
  DERIVED. THE GIVEN ROWS OF THIS SEAT. 6 by the template 'for every input the law returns true; each argument reads behind the call as it read before'; 0 by the template 'total and deterministic' (their statements: YtjfbdffcgapdlaaTotals.lean).
  GIVEN WITH THE SEED: the statements are not yours to turn. If you find one false, say at which input.
  Laid BY PROGRAM, IN A SANDBOX (cutbox-rows.mjs): the forced cells as the released guide's own fill.sh prints them over the translation 866de4301a9d036e… (all of the seat's roots in one cut). By AI agents, Wed Nov 11 2026. No macro, syntax, notation, axiom, sorry.
-/
import Derived.Test.YtjfbdffcgapdlaaChecked
import GoSem.Claim
import GoSem.ClaimJoined
import GoSem.ClaimMapViews
import Derived.JoinedTies
import Derived.KernelRfl
namespace Go.Proofs.Ytjfbdffcgapdlaa
/- THE CELL 'sum', in the pinned program and in every row, IS THE sha256 OF THE DUMP (.gsa) THAT YtjfbdffcgapdlaaProg.lean LOADS. Nothing in Lean hashes anything: it is a label: what it is worth is what the hold of that sum in a sandbox is worth. -/
noncomputable def Try.pinned : Pinned := { name := "ytjfbdffcgapdlaa", sum := "866de4301a9d036e1df7494052597079ac996f84c11f0ea76cc1f9329b9d8957", checked := Try.checked }
namespace Rows
def none {H : Type} : Left H := { results := [], args := [] }

/-- 'rivermarklaw12.ClockNarrowsAsSpecified': WHATEVER THE INPUT: true; the input reads as it did. -/
def clockNarrowsAsSpecifiedSpec : ChangeSpec := { name := "clockNarrowsAsSpecified", fn := fun _ => fun
  | [d1, d2, d3] => { results := [.lit (.bool true)], args := [d1, d2, d3] }
  | _ => none }
def clockNarrowsAsSpecifiedRow : OpenClaim := { program := "ytjfbdffcgapdlaa", sum := "866de4301a9d036e1df7494052597079ac996f84c11f0ea76cc1f9329b9d8957", func := "rivermark/rivermarklaw12.ClockNarrowsAsSpecified", spec := "clockNarrowsAsSpecified", unfollowed := true, recurses := true, apart := false }
def ClockNarrowsAsSpecifiedSaid : Prop := clockNarrowsAsSpecifiedRow.holds Try.pinned (OpenSpec.ofChange clockNarrowsAsSpecifiedSpec)

/-- ITS FALSE NEIGHBOUR: 'it returns false'. Refute it at one input. -/
def clockNarrowsAsSpecifiedWrong : ChangeSpec := { name := "clockNarrowsAsSpecified", fn := fun _ => fun
  | [d1, d2, d3] => { results := [.lit (.bool false)], args := [d1, d2, d3] }
  | _ => none }
def ClockNarrowsAsSpecifiedWrongFalsely : Prop := clockNarrowsAsSpecifiedRow.holds Try.pinned (OpenSpec.ofChange clockNarrowsAsSpecifiedWrong)

/-- 'rivermarklaw12.ClockSumsAsSpecified': WHATEVER THE INPUT: true; the input reads as it did. -/
def clockSumsAsSpecifiedSpec : ChangeSpec := { name := "clockSumsAsSpecified", fn := fun _ => fun
  | [d1, d2, d3] => { results := [.lit (.bool true)], args := [d1, d2, d3] }
  | _ => none }
def clockSumsAsSpecifiedRow : OpenClaim := { program := "ytjfbdffcgapdlaa", sum := "866de4301a9d036e1df7494052597079ac996f84c11f0ea76cc1f9329b9d8957", func := "rivermark/rivermarklaw12.ClockSumsAsSpecified", spec := "clockSumsAsSpecified", unfollowed := true, recurses := true, apart := false }
def ClockSumsAsSpecifiedSaid : Prop := clockSumsAsSpecifiedRow.holds Try.pinned (OpenSpec.ofChange clockSumsAsSpecifiedSpec)

/-- ITS FALSE NEIGHBOUR: 'it returns false'. Refute it at one input. -/
def clockSumsAsSpecifiedWrong : ChangeSpec := { name := "clockSumsAsSpecified", fn := fun _ => fun
  | [d1, d2, d3] => { results := [.lit (.bool false)], args := [d1, d2, d3] }
  | _ => none }
def ClockSumsAsSpecifiedWrongFalsely : Prop := clockSumsAsSpecifiedRow.holds Try.pinned (OpenSpec.ofChange clockSumsAsSpecifiedWrong)

/-- 'rivermarklaw12.ClockNarrowIsSharp': WHATEVER THE INPUT: true; the input reads as it did. -/
def clockNarrowIsSharpSpec : ChangeSpec := { name := "clockNarrowIsSharp", fn := fun _ => fun
  | [d1, d2] => { results := [.lit (.bool true)], args := [d1, d2] }
  | _ => none }
def clockNarrowIsSharpRow : OpenClaim := { program := "ytjfbdffcgapdlaa", sum := "866de4301a9d036e1df7494052597079ac996f84c11f0ea76cc1f9329b9d8957", func := "rivermark/rivermarklaw12.ClockNarrowIsSharp", spec := "clockNarrowIsSharp", unfollowed := true, recurses := true, apart := false }
def ClockNarrowIsSharpSaid : Prop := clockNarrowIsSharpRow.holds Try.pinned (OpenSpec.ofChange clockNarrowIsSharpSpec)

/-- ITS FALSE NEIGHBOUR: 'it returns false'. Refute it at one input. -/
def clockNarrowIsSharpWrong : ChangeSpec := { name := "clockNarrowIsSharp", fn := fun _ => fun
  | [d1, d2] => { results := [.lit (.bool false)], args := [d1, d2] }
  | _ => none }
def ClockNarrowIsSharpWrongFalsely : Prop := clockNarrowIsSharpRow.holds Try.pinned (OpenSpec.ofChange clockNarrowIsSharpWrong)

/-- 'rivermarklaw12.ClockNarrowsMore': WHATEVER THE INPUT: true; the input reads as it did. -/
def clockNarrowsMoreSpec : ChangeSpec := { name := "clockNarrowsMore", fn := fun _ => fun
  | [d1, d2] => { results := [.lit (.bool true)], args := [d1, d2] }
  | _ => none }
def clockNarrowsMoreRow : OpenClaim := { program := "ytjfbdffcgapdlaa", sum := "866de4301a9d036e1df7494052597079ac996f84c11f0ea76cc1f9329b9d8957", func := "rivermark/rivermarklaw12.ClockNarrowsMore", spec := "clockNarrowsMore", unfollowed := true, recurses := true, apart := false }
def ClockNarrowsMoreSaid : Prop := clockNarrowsMoreRow.holds Try.pinned (OpenSpec.ofChange clockNarrowsMoreSpec)

/-- ITS FALSE NEIGHBOUR: 'it returns false'. Refute it at one input. -/
def clockNarrowsMoreWrong : ChangeSpec := { name := "clockNarrowsMore", fn := fun _ => fun
  | [d1, d2] => { results := [.lit (.bool false)], args := [d1, d2] }
  | _ => none }
def ClockNarrowsMoreWrongFalsely : Prop := clockNarrowsMoreRow.holds Try.pinned (OpenSpec.ofChange clockNarrowsMoreWrong)

/-- 'rivermarklaw12.ClockComposes': WHATEVER THE INPUT: true; the input reads as it did. -/
def clockComposesSpec : ChangeSpec := { name := "clockComposes", fn := fun _ => fun
  | [d1, d2] => { results := [.lit (.bool true)], args := [d1, d2] }
  | _ => none }
def clockComposesRow : OpenClaim := { program := "ytjfbdffcgapdlaa", sum := "866de4301a9d036e1df7494052597079ac996f84c11f0ea76cc1f9329b9d8957", func := "rivermark/rivermarklaw12.ClockComposes", spec := "clockComposes", unfollowed := true, recurses := true, apart := false }
def ClockComposesSaid : Prop := clockComposesRow.holds Try.pinned (OpenSpec.ofChange clockComposesSpec)

/-- ITS FALSE NEIGHBOUR: 'it returns false'. Refute it at one input. -/
def clockComposesWrong : ChangeSpec := { name := "clockComposes", fn := fun _ => fun
  | [d1, d2] => { results := [.lit (.bool false)], args := [d1, d2] }
  | _ => none }
def ClockComposesWrongFalsely : Prop := clockComposesRow.holds Try.pinned (OpenSpec.ofChange clockComposesWrong)

/-- 'rivermarklaw12.ClockSumsAreSharp': WHATEVER THE INPUT: true; the input reads as it did. -/
def clockSumsAreSharpSpec : ChangeSpec := { name := "clockSumsAreSharp", fn := fun _ => fun
  | [d1, d2, d3, d4] => { results := [.lit (.bool true)], args := [d1, d2, d3, d4] }
  | _ => none }
def clockSumsAreSharpRow : OpenClaim := { program := "ytjfbdffcgapdlaa", sum := "866de4301a9d036e1df7494052597079ac996f84c11f0ea76cc1f9329b9d8957", func := "rivermark/rivermarklaw12.ClockSumsAreSharp", spec := "clockSumsAreSharp", unfollowed := true, recurses := true, apart := false }
def ClockSumsAreSharpSaid : Prop := clockSumsAreSharpRow.holds Try.pinned (OpenSpec.ofChange clockSumsAreSharpSpec)

/-- ITS FALSE NEIGHBOUR: 'it returns false'. Refute it at one input. -/
def clockSumsAreSharpWrong : ChangeSpec := { name := "clockSumsAreSharp", fn := fun _ => fun
  | [d1, d2, d3, d4] => { results := [.lit (.bool false)], args := [d1, d2, d3, d4] }
  | _ => none }
def ClockSumsAreSharpWrongFalsely : Prop := clockSumsAreSharpRow.holds Try.pinned (OpenSpec.ofChange clockSumsAreSharpWrong)

/- THE SECOND FORM. 'bulk': how many values and letters a reading holds, each counted each time it is reached (what is shared counts as often as it is met; a slice's spare places count too). A statement '..UptoSaid' is the law's where the arguments, and the package variables that the reading takes, are together of bulk at most 1048576: NARROWER than '..Said'. Prove '..Said' where nothing that the law and all that it calls make is longer than what came in: it says more and counts as full. Else prove '..UptoSaid'. A law counts once. -/
mutual
def uptoBulk {H : Type} : DataW H → Nat
  | .lit (.string bytes) => bytes.length + 1
  | .lit _ => 1
  | .nil => 1
  | .ptr d => uptoBulk d + 1
  | .slice elems spare => uptoBulkAll elems + uptoBulkAll spare + 1
  | .agg parts => uptoBulkAll parts + 1
  | .iface _ d => uptoBulk d + 1
  | .map entries => uptoBulkEntries entries + 1
  | .held _ => 1
def uptoBulkAll {H : Type} : List (DataW H) → Nat
  | [] => 0
  | d :: r => uptoBulk d + uptoBulkAll r
def uptoBulkEntries {H : Type} : List (Lit × DataW H) → Nat
  | [] => 0
  | x :: r => uptoBulkEntry x + uptoBulkEntries r
def uptoBulkEntry {H : Type} : Lit × DataW H → Nat
  | (.string bytes, d) => bytes.length + uptoBulk d + 1
  | (_, d) => uptoBulk d + 1
 end
def uptoSmall : (H : Type) → List (DataW H) → Bool := fun _ ds => decide (uptoBulkAll ds ≤ 1048576)
def OpenSpec.upto (s : _root_.Go.ChangeSpec) : _root_.Go.OpenSpec := { _root_.Go.OpenSpec.ofChange s with cond := some uptoSmall }

/-- 'rivermarklaw12.ClockNarrowsAsSpecified', WHERE WHAT IT READS IS OF BULK AT MOST 1048576: true; the input reads as it did. -/
def clockNarrowsAsSpecifiedUptoRow : OpenClaim := { program := "ytjfbdffcgapdlaa", sum := "866de4301a9d036e1df7494052597079ac996f84c11f0ea76cc1f9329b9d8957", func := "rivermark/rivermarklaw12.ClockNarrowsAsSpecified", spec := "clockNarrowsAsSpecified", unfollowed := true, recurses := true, apart := false, narrowed := true }
def ClockNarrowsAsSpecifiedUptoSaid : Prop := clockNarrowsAsSpecifiedUptoRow.holds Try.pinned (OpenSpec.upto clockNarrowsAsSpecifiedSpec)

/-- 'rivermarklaw12.ClockSumsAsSpecified', WHERE WHAT IT READS IS OF BULK AT MOST 1048576: true; the input reads as it did. -/
def clockSumsAsSpecifiedUptoRow : OpenClaim := { program := "ytjfbdffcgapdlaa", sum := "866de4301a9d036e1df7494052597079ac996f84c11f0ea76cc1f9329b9d8957", func := "rivermark/rivermarklaw12.ClockSumsAsSpecified", spec := "clockSumsAsSpecified", unfollowed := true, recurses := true, apart := false, narrowed := true }
def ClockSumsAsSpecifiedUptoSaid : Prop := clockSumsAsSpecifiedUptoRow.holds Try.pinned (OpenSpec.upto clockSumsAsSpecifiedSpec)

/-- 'rivermarklaw12.ClockNarrowIsSharp', WHERE WHAT IT READS IS OF BULK AT MOST 1048576: true; the input reads as it did. -/
def clockNarrowIsSharpUptoRow : OpenClaim := { program := "ytjfbdffcgapdlaa", sum := "866de4301a9d036e1df7494052597079ac996f84c11f0ea76cc1f9329b9d8957", func := "rivermark/rivermarklaw12.ClockNarrowIsSharp", spec := "clockNarrowIsSharp", unfollowed := true, recurses := true, apart := false, narrowed := true }
def ClockNarrowIsSharpUptoSaid : Prop := clockNarrowIsSharpUptoRow.holds Try.pinned (OpenSpec.upto clockNarrowIsSharpSpec)

/-- 'rivermarklaw12.ClockNarrowsMore', WHERE WHAT IT READS IS OF BULK AT MOST 1048576: true; the input reads as it did. -/
def clockNarrowsMoreUptoRow : OpenClaim := { program := "ytjfbdffcgapdlaa", sum := "866de4301a9d036e1df7494052597079ac996f84c11f0ea76cc1f9329b9d8957", func := "rivermark/rivermarklaw12.ClockNarrowsMore", spec := "clockNarrowsMore", unfollowed := true, recurses := true, apart := false, narrowed := true }
def ClockNarrowsMoreUptoSaid : Prop := clockNarrowsMoreUptoRow.holds Try.pinned (OpenSpec.upto clockNarrowsMoreSpec)

/-- 'rivermarklaw12.ClockComposes', WHERE WHAT IT READS IS OF BULK AT MOST 1048576: true; the input reads as it did. -/
def clockComposesUptoRow : OpenClaim := { program := "ytjfbdffcgapdlaa", sum := "866de4301a9d036e1df7494052597079ac996f84c11f0ea76cc1f9329b9d8957", func := "rivermark/rivermarklaw12.ClockComposes", spec := "clockComposes", unfollowed := true, recurses := true, apart := false, narrowed := true }
def ClockComposesUptoSaid : Prop := clockComposesUptoRow.holds Try.pinned (OpenSpec.upto clockComposesSpec)

/-- 'rivermarklaw12.ClockSumsAreSharp', WHERE WHAT IT READS IS OF BULK AT MOST 1048576: true; the input reads as it did. -/
def clockSumsAreSharpUptoRow : OpenClaim := { program := "ytjfbdffcgapdlaa", sum := "866de4301a9d036e1df7494052597079ac996f84c11f0ea76cc1f9329b9d8957", func := "rivermark/rivermarklaw12.ClockSumsAreSharp", spec := "clockSumsAreSharp", unfollowed := true, recurses := true, apart := false, narrowed := true }
def ClockSumsAreSharpUptoSaid : Prop := clockSumsAreSharpUptoRow.holds Try.pinned (OpenSpec.upto clockSumsAreSharpSpec)

end Rows
end Go.Proofs.Ytjfbdffcgapdlaa
