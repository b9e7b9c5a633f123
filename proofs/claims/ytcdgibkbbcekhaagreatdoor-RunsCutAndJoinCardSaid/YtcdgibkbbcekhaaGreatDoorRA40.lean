/-
  How the arguments of the laws about runs read: with the capacity.
-/
import Derived.Test.YtcdgibkbbcekhaaGreatDoorRA8
set_option linter.unusedVariables false
set_option linter.unusedSimpArgs false
set_option linter.unusedSectionVars false
namespace Go.Proofs.YtcdgibkbbcekhaaGreatDoor
open Go.RowKit Go.Sl Go.Num Go.ChangeShapes Go.WideShapes
theorem rRunsC:Reads Tryz.prog 43 (fun s:Sld Rn=>[s.v]) (fun w s=>RunsAt w s.ad s.l∧s.l.length≤s.cap):=(Reads.slice (sz:=5) Tryz.underlying43 (by kernel_rfl) (by decide) rRun).mono fun _ _ h=>⟨⟨h.1,h.2.2.2⟩,h.2.1⟩
set_option maxRecDepth 100000 in
theorem argI16 {H:Type}{enc:TypeId×Value→H}{W:World}{r:Reach}{base:Nat}{v:Value}{d:DataW H}{ps:List MemPlace} (hk:Value.okWide Tryz.prog W r base 3 v) (hv:DataW.Trod enc Tryz.prog W 0 (fun _=>true) true 3 v d ps):∃ n:Int,v=.int .i64 n :=
 okWide_int Tryz.underlying3 hk
end Go.Proofs.YtcdgibkbbcekhaaGreatDoor
