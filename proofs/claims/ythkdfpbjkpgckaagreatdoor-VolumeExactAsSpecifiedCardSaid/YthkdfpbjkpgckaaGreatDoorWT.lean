/-
  The tied card of the law VolumeExactAsSpecified.
-/
import Derived.Test.YthkdfpbjkpgckaaGreatDoorM10
set_option linter.unusedVariables false
set_option linter.unusedSimpArgs false
set_option linter.unusedSectionVars false
namespace Go.Proofs.YthkdfpbjkpgckaaGreatDoor
open Go
theorem VolumeExactAsSpecified_holds : Rows.VolumeExactAsSpecifiedCardSaid :=
  Claim7.holds_tied_plain_at .later [] [.data, .pinned] true (true, "537da5c93c29752851510ac4d93c6f086eb4523b3c1c22b8c4cf580393308b42") false
    VolumeExactAsSpecified_said (fun _ h => by cases h) (by kernel_rfl) (fun _ h => by cases h) volumeExactAsSpecified_row_tie rfl ⟨rfl, rfl⟩ (by kernel_rfl) rfl
    (fun f fn hf hfn => by
      obtain rfl : f = 4 := Option.some.inj ((show Tryz.prog.funcNamed "rivermark/rivermarklaw17.VolumeExactAsSpecified" = some 4 by kernel_rfl).symm.trans hf) |>.symm
      obtain rfl : fn = Tryz.f4 := (Option.some.inj (Tryz.func4.symm.trans hfn)).symm
      exact ⟨by kernel_rfl, fun j t ht => by
        rw [Tryz.params4] at ht
        have hm : t ∈ [37, 25] := by simpa using Array.mem_of_getElem? ht
        have hall : ([37, 25].all fun u => !Tryz.prog.wantsStandIn u) = true := by kernel_rfl
        exact (show Tryz.prog.wantsStandIn t = false by simpa using List.all_eq_true.1 hall t hm)⟩)
    (by kernel_rfl)
#print axioms VolumeExactAsSpecified_holds
end Go.Proofs.YthkdfpbjkpgckaaGreatDoor
