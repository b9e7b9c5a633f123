/-
  Contracts of rights: the specification's Allot.
-/
import Derived.Test.YtcdgibkbbcekhaaGreatDoorGR8
set_option linter.unusedVariables false
set_option linter.unusedSimpArgs false
set_option linter.unusedSectionVars false
namespace Go.Proofs.YtcdgibkbbcekhaaGreatDoor
open Go.RowKit Go.Sl Go.Num
/-- What all claims get. -/
def allT (R : List Rch) (Gs : List Rat) (L : List Cm) : Nat → List Rat
  | 0 => gl L.length fun _ => 0
  | r + 1 => rkT R Gs L r (allT R Gs L r)
theorem used_zero {on : Nat → Nat → Bool} {zs : List (Cm × Rat)} (h : ∀ z ∈ zs, z.2 = 0) (g : Nat) : used on zs g = 0 := by
  rw [used]
  refine (qs_congr (g := fun _ => 0) fun z hz => ?_).trans (qs_zero _)
  rw [h z hz]; split <;> rfl
theorem mem_gl0 {n : Nat} {x : Rat} (h : x ∈ gl n fun _ => 0) : x = 0 := by
  obtain ⟨_, _, rfl⟩ := List.mem_map.1 h; rfl
theorem rk0 {R : List Rch} {Gs : List Rat} {L : List Cm} (hA : Alo R Gs L) (hs : SupOk R Gs) (hC : ClOk R.length L) : Rk R Gs L 0 (allT R Gs L 0) := by
  have h0 : ∀ z ∈ L.zip (gl L.length fun _ => 0), z.2 = 0 := fun z hz => mem_gl0 (List.of_mem_zip hz).2
  refine ⟨gl_len _ _, ⟨fun z hz => ?_, fun g _ => ?_, fun z hz _ => h0 z hz, fun z hz hr => absurd hr (Nat.not_lt_zero _)⟩, 0, ?_, 1, by decide, by rw [Nat.pow_zero]; exact Nat.le_refl 1, fun t ht => ?_⟩
  · rw [h0 z hz]; exact ⟨Rat.le_refl, hC.nn _ (List.of_mem_zip hz).1⟩
  · show used _ (L.zip (gl L.length fun _ => 0)) g ≤ _
    rw [used_zero h0]
    exact qs_nn fun p _ => by
      have := (hs.fsq p).2
      split
      · exact this
      · exact Rat.le_refl
  · have := hA.m
    have : hiC 0 L ≤ L.length := List.length_filter_le _ _
    omega
  · rw [mem_gl0 ht, Rat.zero_mul, Rat.zero_mul]; exact Iq.zero
theorem rk_next {R : List Rch} {Gs : List Rat} {L : List Cm} {r : Nat} {T : List Rat} (h : Rk R Gs L r T) (hA : Alo R Gs L) (hl : Gs.length = R.length) (hn : ∀ c ∈ L, 0 ≤ c.am) : Rk R Gs L (r + 1) (rkT R Gs L r T) := by
  obtain ⟨z1, z2⟩ := rkT_zip (R := R) (Gs := Gs) h.lt r
  -- the rounds, one by one
  have key : ∀ (N : Nat) (T' : List Rat) (O : List Bool) (p : Rat), cntO (zz L T' O) ≤ N → Rnd R Gs L r T' O p → tks (lpZ (onR R) R.length (fsq Gs) (cntO (zz L T' O)) (zz L T' O) p) = L.zip (rkT R Gs L r T) → ∃ O2 p2, Rnd R Gs L r (rkT R Gs L r T) O2 p2 := by
    intro N
    induction N with
    | zero =>
      intro T' O p hc hr he
      have h0 := cntO_none.2 (Nat.le_zero.1 hc)
      rw [lpZ_end h0, tks_zz hr.lt hr.lo] at he
      have h3 := congrArg (List.map Prod.snd) he
      rw [List.map_snd_zip (by have := hr.lt; omega), List.map_snd_zip (by omega)] at h3
      exact ⟨O, p, h3 ▸ hr⟩
    | succ N ih =>
      intro T' O p hc hr he
      cases ho : ((zz L T' O).any fun z => z.2.2) with
      | false =>
        rw [lpZ_end ho, tks_zz hr.lt hr.lo] at he
        have h3 := congrArg (List.map Prod.snd) he
        rw [List.map_snd_zip (by have := hr.lt; omega), List.map_snd_zip (by omega)] at h3
        exact ⟨O, p, h3 ▸ hr⟩
      | true =>
        have h1 := hr.inv.less ho
        rw [lpZ_step hr.inv ho] at he
        rw [step_zz hr.lt hr.lo] at h1 he
        exact ih _ _ _ (by omega) (hr.step hA hl hn ho rfl) he
  obtain ⟨O2, p2, h2⟩ := key _ T (opO L r) 0 (Nat.le_refl _) h.start (by rw [z1, rankZ, start_zz h.lt]; rfl)
  exact h2.end h z1
theorem rk_all {R : List Rch} {Gs : List Rat} {L : List Cm} (hA : Alo R Gs L) (hs : SupOk R Gs) (hC : ClOk R.length L) : ∀ r, Rk R Gs L r (allT R Gs L r)
  | 0 => rk0 hA hs hC
  | r + 1 => rk_next (rk_all hA hs hC r) hA hs.len hC.nn
end Go.Proofs.YtcdgibkbbcekhaaGreatDoor
