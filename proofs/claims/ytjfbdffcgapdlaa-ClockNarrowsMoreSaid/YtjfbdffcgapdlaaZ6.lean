/-
  The law ClockNarrowsMore holds: for every input the call returns true, and the arguments read afterwards as they read before.
-/
import Derived.Test.YtjfbdffcgapdlaaW
import Derived.Test.YtjfbdffcgapdlaaX6
namespace Go.Proofs.Ytjfbdffcgapdlaa
open Go.RowKit Go.Sl Go.ChangeShapes Go.WideShapes Go.ChangeAt

set_option maxRecDepth 100000 in
theorem lifted6 (os : Os) (started : os.Started) (H : Type) (enc : TypeId × Value → H) :
    ReturnsInHanded {} Try.checked os 6 .any (Rows.clockNarrowsMoreSpec.pre6 enc Try.prog Try.f6 Rows.clockNarrowsMoreRow.domain false) (Rows.clockNarrowsMoreSpec.post enc Try.prog Try.f6 false true false false) := by
  refine returnsInHanded_of_change (C := Try.checked) own started (by kernel_rfl) Try.func6
    (ChangeSpec.witness6 (enc := enc) (C := Try.checked) false ⟨#[], #[.agg #[.slice none 0 0, .slice none 0 0], .agg #[.int .i64 0, .int .i64 0, .int .i64 0, .int .i64 0, .int .i64 0, .int .i64 0]], []⟩ 8 (by kernel_rfl) (by kernel_rfl) (by kernel_rfl) (by kernel_rfl)) ?_
  intro W base args ds gs before hval0 hW hcnd _
  have hval : ∀ (j : Nat) t v, Try.f6.params[j]? = some t → args[j]? = some v → Value.okWide Try.prog W .any base t v := hval0
  have hW' := hW
  obtain ⟨p, q, hA0, hV, rfl, hfz, hnd⟩ := hW
  have hA : DataW.TrodAll enc Try.prog W 0 (fun _ => true) true Try.f6.params.toList args.toList ds p := hA0
  rw [Try.params6] at hA hval
  obtain ⟨v0, vs0, d0, ds0, p0, q0, hargs, rfl, rfl, h0, r0⟩ := trodAll_cons hA
  obtain ⟨v1, vs1, d1, ds1, p1, q1, rfl, rfl, rfl, h1, r1⟩ := trodAll_cons r0
  obtain ⟨rfl, rfl, rfl⟩ := trodAll_nil r1
  obtain rfl : args = #[v0, v1] := by cases args; simp_all
  obtain ⟨rfl, rfl⟩ := trodVars_none hV
  have lt : ∀ {t v d ps}, DataW.Trod enc Try.prog W 0 (fun _ => true) true t v d ps → ∀ x ∈ ps, x.block < W.heap.size := fun h => by obtain ⟨m, hm⟩ := h; exact DataW.trod_lt m _ _ _ hm
  obtain ⟨⟨s0, s1⟩, rfl, ⟨g1, g2, g3⟩, ⟨g4, g5, g6⟩⟩ := rClocks.argAgg (let ⟨cs, h, _⟩ := okWide_struct Try.underlying25 (hval 0 25 v0 rfl rfl); ⟨cs, h⟩) h0
  obtain ⟨mo, rfl, -⟩ := rEv.argAgg (let ⟨cs, h, _⟩ := okWide_struct Try.underlying69 (hval 1 69 v1 rfl rfl); ⟨cs, h⟩) h1
  dsimp only at g1 g2 g3 g4 g5 g6
  unfold maxLen at g3 g6
  clear hA0 hval0
  refine (c6 s0.ad s0.l s0.cap s1.ad s1.l s1.cap mo W (by omega) (by omega) g1 g4).mono fun e W' ⟨he, bel⟩ => ?_
  subst he
  have back : ∀ {t v d ps}, Try.prog.readableRec t = true → t < Try.prog.types.size → DataW.Trod enc Try.prog W 0 (fun _ => true) true t v d ps → DataW.Trod enc Try.prog W' 0 (fun b => decide (b < W.heap.size)) true t v d ps := fun hr ht h => Below.trod laidOut hr ht h bel (lt h)
  exact ⟨_, rfl, _, _, _, [], _, [], hW', trodAll_mk1 (shut_bool Try.underlying4 _), (trodAll_cons_mk (back (by kernel_rfl) (of_decide_eq_true (by kernel_rfl)) h0) (trodAll_cons_mk (back (by kernel_rfl) (of_decide_eq_true (by kernel_rfl)) h1) trodAll_mk0)), rfl, bel.frame _, fun h => by cases h⟩

theorem ClockNarrowsMore_holds : Rows.ClockNarrowsMoreSaid :=
  OpenClaim.holds_of_wide 6 Try.f6 rfl rfl rfl rfl rfl rfl rfl ⟨rfl, rfl, rfl, rfl, rfl⟩ rfl rfl rfl rfl rfl (by kernel_rfl) Try.func6 (by kernel_rfl)
    (of_decide_eq_true (by kernel_rfl)) (by unfold Func.isWrapper; first | (rw [if_pos (by decide +kernel)]; kernel_rfl) | (rw [if_neg (by decide +kernel)]; exact ⟨rfl, rfl⟩))
    (fun os started H enc _ => lifted6 os started H enc)
#print axioms ClockNarrowsMore_holds
end Go.Proofs.Ytjfbdffcgapdlaa
