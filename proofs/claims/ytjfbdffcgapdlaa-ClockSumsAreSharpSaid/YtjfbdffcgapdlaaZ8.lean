/-
  The law ClockSumsAreSharp holds: for every input the call returns true, and the arguments read afterwards as they read before.
-/
import Derived.Test.YtjfbdffcgapdlaaW
import Derived.Test.YtjfbdffcgapdlaaX8
namespace Go.Proofs.Ytjfbdffcgapdlaa
open Go.RowKit Go.Sl Go.ChangeShapes Go.WideShapes Go.ChangeAt

set_option maxRecDepth 100000 in
theorem lifted8 (os : Os) (started : os.Started) (H : Type) (enc : TypeId × Value → H) :
    ReturnsInHanded {} Try.checked os 8 .any (Rows.clockSumsAreSharpSpec.pre6 enc Try.prog Try.f8 Rows.clockSumsAreSharpRow.domain false) (Rows.clockSumsAreSharpSpec.post enc Try.prog Try.f8 false true false false) := by
  refine returnsInHanded_of_change (C := Try.checked) own started (by kernel_rfl) Try.func8
    (ChangeSpec.witness6 (enc := enc) (C := Try.checked) false ⟨#[], #[.slice none 0 0, .agg #[.int .i64 0, .int .i64 0], .agg #[.int .i64 0, .int .i64 0], .agg #[.int .u16 0, .int .u16 0, .int .u16 0]], []⟩ 8 (by kernel_rfl) (by kernel_rfl) (by kernel_rfl) (by kernel_rfl)) ?_
  intro W base args ds gs before hval0 hW hcnd _
  have hval : ∀ (j : Nat) t v, Try.f8.params[j]? = some t → args[j]? = some v → Value.okWide Try.prog W .any base t v := hval0
  have hW' := hW
  obtain ⟨p, q, hA0, hV, rfl, hfz, hnd⟩ := hW
  have hA : DataW.TrodAll enc Try.prog W 0 (fun _ => true) true Try.f8.params.toList args.toList ds p := hA0
  rw [Try.params8] at hA hval
  obtain ⟨v0, vs0, d0, ds0, p0, q0, hargs, rfl, rfl, h0, r0⟩ := trodAll_cons hA
  obtain ⟨v1, vs1, d1, ds1, p1, q1, rfl, rfl, rfl, h1, r1⟩ := trodAll_cons r0
  obtain ⟨v2, vs2, d2, ds2, p2, q2, rfl, rfl, rfl, h2, r2⟩ := trodAll_cons r1
  obtain ⟨v3, vs3, d3, ds3, p3, q3, rfl, rfl, rfl, h3, r3⟩ := trodAll_cons r2
  obtain ⟨rfl, rfl, rfl⟩ := trodAll_nil r3
  obtain rfl : args = #[v0, v1, v2, v3] := by cases args; simp_all
  obtain ⟨rfl, rfl⟩ := trodVars_none hV
  have lt : ∀ {t v d ps}, DataW.Trod enc Try.prog W 0 (fun _ => true) true t v d ps → ∀ x ∈ ps, x.block < W.heap.size := fun h => by obtain ⟨m, hm⟩ := h; exact DataW.trod_lt m _ _ _ hm
  obtain ⟨s0, rfl, g7, g8, g9, -⟩ := rInts.argSlice Try.underlying27 (hval 0 27 v0 rfl rfl) h0
  obtain ⟨⟨n0, n1⟩, rfl, -⟩ := rPair.argAgg (okWide_array Try.underlying26 (hval 1 26 v1 rfl rfl)) h1
  obtain ⟨⟨a1, a2⟩, rfl, -⟩ := rSkew.argAgg (let ⟨cs, h, _⟩ := okWide_struct Try.underlying47 (hval 2 47 v2 rfl rfl); ⟨cs, h⟩) h2
  obtain ⟨⟨u0, u1, u2⟩, rfl, ⟨b0, b1, b2⟩⟩ := rPicks3.argAgg (okWide_array Try.underlying74 (hval 3 74 v3 rfl rfl)) h3
  unfold maxLen at g9
  have c0 := bounds_u16 b0
  have c1 := bounds_u16 b1
  have c2 := bounds_u16 b2
  clear hA0 hval0
  refine (c8 s0.ad s0.l s0.cap n0 n1 a1 a2 u0 u1 u2 W (by omega) g8 g7 (by dsimp only at c0; omega) (by dsimp only at c1; omega) (by dsimp only at c2; omega)).mono fun e W' ⟨he, bel⟩ => ?_
  subst he
  have back : ∀ {t v d ps}, Try.prog.readableRec t = true → t < Try.prog.types.size → DataW.Trod enc Try.prog W 0 (fun _ => true) true t v d ps → DataW.Trod enc Try.prog W' 0 (fun b => decide (b < W.heap.size)) true t v d ps := fun hr ht h => Below.trod laidOut hr ht h bel (lt h)
  exact ⟨_, rfl, _, _, _, [], _, [], hW', trodAll_mk1 (shut_bool Try.underlying4 _), (trodAll_cons_mk (back (by kernel_rfl) (of_decide_eq_true (by kernel_rfl)) h0) (trodAll_cons_mk (back (by kernel_rfl) (of_decide_eq_true (by kernel_rfl)) h1) (trodAll_cons_mk (back (by kernel_rfl) (of_decide_eq_true (by kernel_rfl)) h2) (trodAll_cons_mk (back (by kernel_rfl) (of_decide_eq_true (by kernel_rfl)) h3) trodAll_mk0)))), rfl, bel.frame _, fun h => by cases h⟩

theorem ClockSumsAreSharp_holds : Rows.ClockSumsAreSharpSaid :=
  OpenClaim.holds_of_wide 8 Try.f8 rfl rfl rfl rfl rfl rfl rfl ⟨rfl, rfl, rfl, rfl, rfl⟩ rfl rfl rfl rfl rfl (by kernel_rfl) Try.func8 (by kernel_rfl)
    (of_decide_eq_true (by kernel_rfl)) (by unfold Func.isWrapper; first | (rw [if_pos (by decide +kernel)]; kernel_rfl) | (rw [if_neg (by decide +kernel)]; exact ⟨rfl, rfl⟩))
    (fun os started H enc _ => lifted8 os started H enc)
#print axioms ClockSumsAreSharp_holds
end Go.Proofs.Ytjfbdffcgapdlaa
