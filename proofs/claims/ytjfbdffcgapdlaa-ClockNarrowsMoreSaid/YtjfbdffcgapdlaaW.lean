/-
  How the arguments of the clock laws read.
-/
import Derived.Test.YtjfbdffcgapdlaaRd
import Derived.Test.YtjfbdffcgapdlaaI
import Derived.Test.YtjfbdffcgapdlaaRows

namespace Go.Proofs.Ytjfbdffcgapdlaa
open Go.RowKit Go.Sl Go.ChangeShapes Go.WideShapes

theorem own : ownKnob Try.prog.godebug = none := by kernel_rfl
theorem laidOut : laidOutB Try.prog = true := by kernel_rfl

theorem rInt : Reads Try.prog 3 inV (fun _ n => (Lit.int .i64 n).wf = true) := Reads.int Try.underlying3
theorem rSkew : Reads Try.prog 47 skV (fun _ _ => True) := (Reads.struct2 (n := 2) Try.underlying47 (by kernel_rfl) (by kernel_rfl) rInt rInt).turn fun _ a _ => ⟨a, rfl, trivial⟩
theorem rEv : Reads Try.prog 69 evV (fun _ _ => True) := (Reads.struct6 (n := 6) Try.underlying69 (by kernel_rfl) (by kernel_rfl) rInt rInt rInt rInt rInt rInt).turn fun _ a _ => ⟨⟨a.1, a.2.1, a.2.2.1, a.2.2.2.1, a.2.2.2.2.1, a.2.2.2.2.2⟩, rfl, trivial⟩
theorem rSkews : Reads Try.prog 22 (fun s : Sld (Int × Int) => [s.v]) (fun w s => SlAt w s.ad 2 (s.l.map skV) ∧ s.l.length ≤ s.cap ∧ s.cap ≤ maxLen) := (Reads.slice (sz := 2) Try.underlying22 (by kernel_rfl) (by decide) rSkew).mono fun _ _ h => ⟨h.1, h.2.1, h.2.2.1⟩
theorem rEvs : Reads Try.prog 23 (fun s : Sld Ev => [s.v]) (fun w s => SlAt w s.ad 6 (s.l.map evV) ∧ s.l.length ≤ s.cap ∧ s.cap ≤ maxLen) := (Reads.slice (sz := 6) Try.underlying23 (by kernel_rfl) (by decide) rEv).mono fun _ _ h => ⟨h.1, h.2.1, h.2.2.1⟩
theorem rInts : Reads Try.prog 27 (fun s : Sld Int => [s.v]) (fun w s => SlAt w s.ad 1 (s.l.map inV) ∧ s.l.length ≤ s.cap ∧ s.cap ≤ maxLen ∧ ∀ n ∈ s.l, (Lit.int .i64 n).wf = true) := Reads.slice (sz := 1) Try.underlying27 (by kernel_rfl) (by decide) rInt
theorem rClocks : Reads Try.prog 25 (fun a : Sld (Int × Int) × Sld Ev => [a.1.v, a.2.v]) (fun w a => (SlAt w a.1.ad 2 (a.1.l.map skV) ∧ a.1.l.length ≤ a.1.cap ∧ a.1.cap ≤ maxLen) ∧ (SlAt w a.2.ad 6 (a.2.l.map evV) ∧ a.2.l.length ≤ a.2.cap ∧ a.2.cap ≤ maxLen)) := Reads.struct2 (n := 2) Try.underlying25 (by kernel_rfl) (by kernel_rfl) rSkews rEvs
theorem rPair : Reads Try.prog 26 (fun a : Int × Int => [.int .i64 a.1, .int .i64 a.2]) (fun _ a => (Lit.int .i64 a.1).wf = true ∧ (Lit.int .i64 a.2).wf = true) := (Reads.array (sz := 1) Try.underlying26 (by kernel_rfl) (by kernel_rfl) rInt).turn fun _ l h => by
  obtain ⟨a, b, rfl⟩ := list2 h.1
  exact ⟨(a, b), rfl, h.2 a (.head _), h.2 b (.tail _ (.head _))⟩
theorem rSkew2 : Reads Try.prog 48 (fun a : (Int × Int) × (Int × Int) => skV a.1 ++ skV a.2) (fun _ _ => True) := (Reads.array (sz := 2) Try.underlying48 (by kernel_rfl) (by kernel_rfl) rSkew).turn fun _ l h => by
  obtain ⟨a, b, rfl⟩ := list2 h.1
  exact ⟨(a, b), rfl, trivial⟩
theorem rPicks3 : Reads Try.prog 74 (fun a : Int × Int × Int => [.int .u16 a.1, .int .u16 a.2.1, .int .u16 a.2.2]) (fun _ a => (Lit.int .u16 a.1).wf = true ∧ (Lit.int .u16 a.2.1).wf = true ∧ (Lit.int .u16 a.2.2).wf = true) := (Reads.array (sz := 1) Try.underlying74 (by kernel_rfl) (by kernel_rfl) (Reads.int Try.underlying73)).turn fun _ l h => by
  obtain ⟨a, b, c, rfl⟩ := list3 h.1
  exact ⟨(a, b, c), rfl, h.2 a (.head _), h.2 b (.tail _ (.head _)), h.2 c (.tail _ (.tail _ (.head _)))⟩
theorem rPicks2 : Reads Try.prog 71 (fun a : Int × Int => [.int .u8 a.1, .int .u8 a.2]) (fun _ a => (Lit.int .u8 a.1).wf = true ∧ (Lit.int .u8 a.2).wf = true) := (Reads.array (sz := 1) Try.underlying71 (by kernel_rfl) (by kernel_rfl) (Reads.int Try.underlying5)).turn fun _ l h => by
  obtain ⟨a, b, rfl⟩ := list2 h.1
  exact ⟨(a, b), rfl, h.2 a (.head _), h.2 b (.tail _ (.head _))⟩
end Go.Proofs.Ytjfbdffcgapdlaa
