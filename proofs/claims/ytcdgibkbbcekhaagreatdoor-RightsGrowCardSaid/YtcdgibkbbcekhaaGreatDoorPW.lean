/-
  The law RightsGrow holds, and its tied card: for every input the call returns true, and the arguments read afterwards as they read before.
-/
import Derived.Test.YtcdgibkbbcekhaaGreatDoorGR21
import Derived.Test.YtcdgibkbbcekhaaGreatDoorTie
import Derived.Test.YtcdgibkbbcekhaaGreatDoorCards
import Derived.ProofKit
import Derived.OpenShut
import Derived.LaidMore
import Derived.Lay
import Derived.Stop.Joined
import Derived.SevenTiedAt
set_option linter.unusedVariables false
set_option linter.unusedSimpArgs false
set_option linter.unusedSectionVars false
namespace Go.Proofs.YtcdgibkbbcekhaaGreatDoor
open Go Go.RowKit Go.Sl Go.ChangeShapes Go.WideShapes Go.ChangeAt
theorem rClms9c : Reads Tryz.prog 26 (fun s : Sld Clm => [s.v]) (fun w s => SlAt w s.ad 5 (s.l.map clV) ∧ s.l.length ≤ s.cap) := (Reads.slice (sz := 5) Tryz.underlying26 (by kernel_rfl) (by decide) rClm9).mono fun _ _ h => ⟨h.1, h.2.1⟩
theorem rB29 : Reads Tryz.prog 27 (fun a : Nat × Nat => [.int .u8 a.1, .int .u8 a.2]) (fun _ a => a.1 ≤ 255 ∧ a.2 ≤ 255) := (Reads.array (sz := 1) Tryz.underlying27 (by kernel_rfl) (by kernel_rfl) rU8).turn fun _ l h => by
  obtain ⟨a, b, rfl⟩ : ∃ a b, l = [a, b] := by
    match l, h.1 with
    | [a, b], _ => exact ⟨a, b, rfl⟩
  exact ⟨(a, b), rfl, h.2 a (.head _), h.2 b (.tail _ (.head _))⟩
set_option maxRecDepth 100000 in
theorem liftedRightsGrow (os : Os) (started : os.Started) (H : Type) (enc : TypeId × Value → H) :
    ReturnsInHanded {} Tryz.checked os 3 .any (fun w args => (Rows.rightsGrowSpec.pre enc Tryz.prog Tryz.f3 [] false w args ∧ laidMetH Tryz.prog laidL w) ∧ sizedMet enc Tryz.prog Tryz.f3 (OpenSpec.ofChange Rows.rightsGrowSpec) false w args)
      (Rows.rightsGrowSpec.post enc Tryz.prog Tryz.f3 false true false false) := by
  refine returnsInHanded_of_change_and (C := Tryz.checked) (X := fun w _ => laidMetH Tryz.prog laidL w) (fun _ _ _ hh h => h.of_heap hh) own started (by kernel_rfl) Tryz.func3
    (ChangeSpec.witness_shaped (enc := enc) (C := Tryz.checked) (os := os) (X := fun w _ => laidMetH Tryz.prog laidL w) false (World.laidAll Tryz.prog os laidL) #[.agg #[.slice none 0 0, .slice none 0 0], .slice none 0 0, .agg #[.int .u8 0, .int .u8 0], .agg #[.bool false, .string ByteArray.empty, .string ByteArray.empty]] 8 (World.laidAll_os _ _ _)
      (World.shaped_of_ZipB (by kernel_rfl) (by kernel_rfl)) (by kernel_rfl) (by kernel_rfl) (by kernel_rfl)
      (by rw [MakeChecks.laidMetH_plain _ _ _ (by kernel_rfl)]; exact laidMet_laidAll _ (by kernel_rfl) (by kernel_rfl))) ?_
  intro W base args ds gs before hval0 hW _ _ hL _
  have hval : ∀ (j : Nat) t v, Tryz.f3.params[j]? = some t → args[j]? = some v → Value.okWide Tryz.prog W .any base t v := hval0
  have hW' := hW
  obtain ⟨p, q, hA0, hV, rfl, hfz, hnd⟩ := hW
  have hA : DataW.TrodAll enc Tryz.prog W 0 (fun _ => true) true Tryz.f3.params.toList args.toList ds p := hA0
  rw [Tryz.params3] at hA hval
  obtain ⟨v0, vs0, d0, ds0, p0, q0, hargs, rfl, rfl, h0, r0⟩ := trodAll_cons hA
  obtain ⟨v1, vs1, d1, ds1, p1, q1, rfl, rfl, rfl, h1, r1⟩ := trodAll_cons r0
  obtain ⟨v2, vs2, d2, ds2, p2, q2, rfl, rfl, rfl, h2, r2⟩ := trodAll_cons r1
  obtain ⟨v3, vs3, d3, ds3, p3, q3, rfl, rfl, rfl, h3, r3⟩ := trodAll_cons r2
  obtain ⟨rfl, rfl, rfl⟩ := trodAll_nil r3
  obtain rfl : args = #[v0, v1, v2, v3] := by cases args; simp_all
  obtain ⟨rfl, rfl⟩ := trodVars_none hV
  have lt : ∀ {t v d ps}, DataW.Trod enc Tryz.prog W 0 (fun _ => true) true t v d ps → ∀ x ∈ ps, x.block < W.heap.size := fun h => by obtain ⟨m, hm⟩ := h; exact DataW.trod_lt m _ _ _ hm
  obtain ⟨s0, rfl, g0⟩ := rSup9.argAgg (let ⟨cs, h, _⟩ := okWide_struct Tryz.underlying25 (hval 0 25 v0 rfl rfl); ⟨cs, h⟩) h0
  obtain ⟨s1, rfl, g1⟩ := rClms9c.argSlice Tryz.underlying26 (hval 1 26 v1 rfl rfl) h1
  obtain ⟨⟨n0, n1⟩, rfl, g2⟩ := rB29.argAgg (okWide_array Tryz.underlying27 (hval 2 27 v2 rfl rfl)) h2
  obtain ⟨⟨sg, ug, vg⟩, rfl, g3⟩ := rRat.argAgg (let ⟨cs, h, _⟩ := okWide_struct Tryz.underlying29 (hval 3 29 v3 rfl rfl); ⟨cs, h⟩) h3
  clear hA0 hval0
  refine (law5_holds W s0.1.ad s0.1.l s0.1.cap s0.2.ad s0.2.l s0.2.cap s1.ad s1.l s1.cap n0 n1 sg ug vg g0 g1.1 g2.1 g2.2 g1.2).mono fun e W' ⟨he, bel⟩ => ?_
  subst he
  have back : ∀ {t v d ps}, Tryz.prog.readableRec t = true → t < Tryz.prog.types.size → DataW.Trod enc Tryz.prog W 0 (fun _ => true) true t v d ps → DataW.Trod enc Tryz.prog W' 0 (fun b => decide (b < W.heap.size)) true t v d ps := fun hr ht h => Below.trod laidOut hr ht h bel (lt h)
  exact ⟨_, rfl, _, _, _, [], _, [], hW', trodAll_mk1 (shut_bool Tryz.underlying4 _), (trodAll_cons_mk (back (by kernel_rfl) (of_decide_eq_true (by kernel_rfl)) h0) (trodAll_cons_mk (back (by kernel_rfl) (of_decide_eq_true (by kernel_rfl)) h1) (trodAll_cons_mk (back (by kernel_rfl) (of_decide_eq_true (by kernel_rfl)) h2) (trodAll_cons_mk (back (by kernel_rfl) (of_decide_eq_true (by kernel_rfl)) h3) trodAll_mk0)))), rfl, bel.frame _, fun h => by cases h⟩
theorem RightsGrow_said : Rows.RightsGrowSaid :=
  OpenClaim.holds_of_wide 3 Tryz.f3 rfl rfl rfl rfl rfl rfl rfl ⟨rfl, rfl, rfl, rfl, rfl⟩ rfl rfl rfl rfl rfl (by kernel_rfl) Tryz.func3 (by kernel_rfl)
    (of_decide_eq_true (by kernel_rfl)) (by unfold Func.isWrapper; first | (rw [if_pos (by decide +kernel)]; kernel_rfl) | (rw [if_neg (by decide +kernel)]; exact ⟨rfl, rfl⟩))
    (fun os started H enc _ => liftedRightsGrow os started H enc)
theorem RightsGrow_holds : Rows.RightsGrowCardSaid :=
  Claim7.holds_tied_plain_at .later [] [.data, .pinned] true (true, "3901c5b8a4853387eace064f7960cbcb512eceb44dabd10b061f6c169b50ef85") false
    RightsGrow_said (fun _ h => by cases h) (by kernel_rfl) (fun _ h => by cases h) rightsGrow_row_tie rfl ⟨rfl, rfl⟩ (by kernel_rfl) rfl
    (fun f fn hf hfn => by
      obtain rfl : f = 3 := Option.some.inj ((show Tryz.prog.funcNamed "rivermark/rivermarklaw39.RightsGrow" = some 3 by kernel_rfl).symm.trans hf) |>.symm
      obtain rfl : fn = Tryz.f3 := (Option.some.inj (Tryz.func3.symm.trans hfn)).symm
      exact ⟨by kernel_rfl, fun j t ht => by
        rw [Tryz.params3] at ht
        have hm : t ∈ [25, 26, 27, 29] := by simpa using Array.mem_of_getElem? ht
        have hall : ([25, 26, 27, 29].all fun u => !Tryz.prog.wantsStandIn u) = true := by kernel_rfl
        exact (show Tryz.prog.wantsStandIn t = false by simpa using List.all_eq_true.1 hall t hm)⟩)
    (by kernel_rfl)
#print axioms RightsGrow_holds
end Go.Proofs.YtcdgibkbbcekhaaGreatDoor
