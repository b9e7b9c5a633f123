/-
  The tied card of the law VolumeIsLinear.
-/
import Derived.Test.YthkdfpbjkpgckaaGreatDoorXC
set_option linter.unusedVariables false
set_option linter.unusedSimpArgs false
set_option linter.unusedSectionVars false
namespace Go.Proofs.YthkdfpbjkpgckaaGreatDoor
open Go
theorem VolumeIsLinear_holds : Rows.VolumeIsLinearCardSaid :=
  Claim7.holds_tied_plain_at .later [] [.data, .pinned] true (true, "537da5c93c29752851510ac4d93c6f086eb4523b3c1c22b8c4cf580393308b42") false
    VolumeIsLinear_said (fun _ h => by cases h) (by kernel_rfl) (fun _ h => by cases h) volumeIsLinear_row_tie rfl ⟨rfl, rfl⟩ (by kernel_rfl) rfl
    (fun f fn hf hfn => by
      obtain rfl : f = 5 := Option.some.inj ((show Tryz.prog.funcNamed "rivermark/rivermarklaw17.VolumeIsLinear" = some 5 by kernel_rfl).symm.trans hf) |>.symm
      obtain rfl : fn = Tryz.f5 := (Option.some.inj (Tryz.func5.symm.trans hfn)).symm
      exact ⟨by kernel_rfl, fun j t ht => by
        rw [Tryz.params5] at ht
        have hm : t ∈ [24, 25, 34] := by simpa using Array.mem_of_getElem? ht
        have hall : ([24, 25, 34].all fun u => !Tryz.prog.wantsStandIn u) = true := by kernel_rfl
        exact (show Tryz.prog.wantsStandIn t = false by simpa using List.all_eq_true.1 hall t hm)⟩)
    (by kernel_rfl)
#print axioms VolumeIsLinear_holds
end Go.Proofs.YthkdfpbjkpgckaaGreatDoor
