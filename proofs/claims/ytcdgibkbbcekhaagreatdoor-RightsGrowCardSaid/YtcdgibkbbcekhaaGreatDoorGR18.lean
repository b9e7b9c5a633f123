/-
  Plain laws of rights: allotting is the one fair way; seniors, growth, order.
-/
import Derived.Test.YtcdgibkbbcekhaaGreatDoorGR10
set_option linter.unusedVariables false
set_option linter.unusedSimpArgs false
set_option linter.unusedSectionVars false
namespace Go.Proofs.YtcdgibkbbcekhaaGreatDoor
open Go.RowKit Go.Sl Go.Num
/-- What Allot hands out is fair. -/
theorem all_fair {R : List Rch} {Gs : List Rat} {L : List Cm} (hA : Alo R Gs L) (hs : SupOk R Gs) (hC : ClOk R.length L) : Fair (onR R) R.length (fsq Gs) (L.zip (allT R Gs L 101)) :=
  (rk_all hA hs hC 101).done.fair fun z hz => by have := hC.rk _ (List.of_mem_zip hz).1; omega
theorem zip3_1 {L : List Cm} {T U : List Rat} (h1 : T.length = L.length) (h2 : U.length = L.length) : (L.zip (T.zip U)).map (fun x => (x.1, x.2.1)) = L.zip T := by
  apply List.ext_getElem
  · simp only [List.length_map, List.length_zip]; omega
  · intro i q1 q2; simp only [List.getElem_map, List.getElem_zip]
theorem zip3_2 {L : List Cm} {T U : List Rat} (h1 : T.length = L.length) (h2 : U.length = L.length) : (L.zip (T.zip U)).map (fun x => (x.1, x.2.2)) = L.zip U := by
  apply List.ext_getElem
  · simp only [List.length_map, List.length_zip]; omega
  · intro i q1 q2; simp only [List.getElem_map, List.getElem_zip]
/-- With more water no claim gets less. -/
theorem fair_le {on : Nat → Nat → Bool} (W : Wy on) {n : Nat} {gn gn' : Nat → Rat} {L : List Cm} {T U : List Rat} (h1 : T.length = L.length) (h2 : U.length = L.length)
    (hT : Fair on n gn (L.zip T)) (hU : Fair on n gn' (L.zip U)) (hg : ∀ p, p < n → gn p ≤ gn' p) (k : Nat) (k1 : k < T.length) (k2 : k < U.length) : T[k] ≤ U[k] := by
  have := mono W (L.zip (T.zip U)) [] (by rw [zip3_1 h1 h2, List.append_nil]; exact hT) (by rw [zip3_2 h1 h2]; exact hU) hg ((L.zip (T.zip U))[k]'(by rw [List.length_zip, List.length_zip]; omega)) (List.getElem_mem _)
  simpa only [List.getElem_zip] using this
/-- There is one fair way only. -/
theorem fair_one {on : Nat → Nat → Bool} (W : Wy on) {n : Nat} {gn : Nat → Rat} {L : List Cm} {T U : List Rat} (h1 : T.length = L.length) (h2 : U.length = L.length)
    (hT : Fair on n gn (L.zip T)) (hU : Fair on n gn (L.zip U)) : T = U :=
  List.ext_getElem (by omega) fun k k1 k2 => Rat.le_antisymm (fair_le W h1 h2 hT hU (fun _ _ => Rat.le_refl) k k1 k2) (fair_le W h2 h1 hU hT (fun _ _ => Rat.le_refl) k k2 k1)
theorem all_one {R : List Rch} {Gs : List Rat} {L : List Cm} (hA : Alo R Gs L) (hs : SupOk R Gs) (hC : ClOk R.length L) {T : List Rat} (h1 : T.length = L.length) (hT : Fair (onR R) R.length (fsq Gs) (L.zip T)) : T = allT R Gs L 101 :=
  fair_one (wyR (riv_of hs.riv)) h1 (allT_len 101) hT (all_fair hA hs hC)
/-! ### seniors -/
/-! ### multiplied -/
theorem used_mul {on : Nat → Nat → Bool} {zs : List (Cm × Rat)} (c : Rat) (g : Nat) : used on (zs.map fun z => (⟨z.1.pl, z.1.rk, z.1.am * c⟩, z.2 * c)) g = used on zs g * c := by
  rw [used, qs_map, used, qs_mulr]
  refine qs_congr fun z _ => ?_
  dsimp only
  split
  · rfl
  · rw [Rat.zero_mul]
theorem fair_mul {on : Nat → Nat → Bool} {n : Nat} {gn gn' : Nat → Rat} {zs : List (Cm × Rat)} (h : Fair on n gn zs) {c : Rat} (hc : 0 < c) (hg : ∀ p, p < n → gn' p = gn p * c) : Fair on n gn' (zs.map fun z => (⟨z.1.pl, z.1.rk, z.1.am * c⟩, z.2 * c)) := by
  have hc0 : (0 : Rat) ≤ c := by grind
  have hs : ∀ g, sup on n gn' g = sup on n gn g * c := fun g => by
    rw [sup, sup, qs_mulr]
    refine qs_congr fun p hp => ?_
    split
    · exact hg p (List.mem_range.1 hp)
    · rw [Rat.zero_mul]
  have mem := fun {z} (hz : z ∈ zs.map fun z => ((⟨z.1.pl, z.1.rk, z.1.am * c⟩ : Cm), z.2 * c)) => List.mem_map.1 hz
  refine ⟨fun z hz => ?_, fun g hg => ?_, fun z hz he => ?_⟩
  · obtain ⟨y, hy, rfl⟩ := mem hz
    have := h.nn y hy
    exact ⟨Rat.mul_nonneg this.1 hc0, Rat.mul_le_mul_of_nonneg_right this.2 hc0⟩
  · rw [used_mul, hs]
    exact Rat.mul_le_mul_of_nonneg_right (h.ok g hg) hc0
  · obtain ⟨y, hy, rfl⟩ := mem hz
    obtain ⟨g, b1, b2, b3, b4, b5⟩ := h.bd y hy fun e => he (by dsimp only; rw [e])
    refine ⟨g, b1, b2, by rw [used_mul, hs, b3], fun x hx ho hr => ?_, fun x hx ho hr => ?_⟩
    · obtain ⟨v, hv, rfl⟩ := mem hx
      dsimp only at ho hr ⊢
      rw [b4 v hv ho hr, Rat.zero_mul]
    · obtain ⟨v, hv, rfl⟩ := mem hx
      dsimp only at ho hr ⊢
      have := Rat.mul_le_mul_of_nonneg_right (b5 v hv ho hr) (Rat.mul_nonneg hc0 hc0)
      rw [show v.2 * c * (y.1.am * c) = v.2 * y.1.am * (c * c) by grind, show y.2 * c * (v.1.am * c) = y.2 * v.1.am * (c * c) by grind]
      exact this
/-! ### a claim less -/
theorem zip_erase {L : List Cm} {T : List Rat} {k : Nat} (h : T.length = L.length) (hk : k < L.length) : (L.zip T).Perm ((L.eraseIdx k).zip (T.eraseIdx k) ++ [(L[k], T[k]'(by omega))]) := by
  have h1 : (L.zip T).eraseIdx k = (L.eraseIdx k).zip (T.eraseIdx k) := by
    apply List.ext_getElem
    · simp only [List.length_eraseIdx, List.length_zip]
      repeat' split
      all_goals omega
    · intro i q1 q2
      simp only [List.getElem_eraseIdx, List.getElem_zip]
      split <;> rfl
  have hz : k < (L.zip T).length := by rw [List.length_zip]; omega
  have h2 : ((L.zip T)[k] :: (L.zip T).eraseIdx k).Perm (L.zip T) := by
    rw [List.eraseIdx_eq_take_drop_succ]
    have h3 : L.zip T = (L.zip T).take k ++ (L.zip T)[k] :: (L.zip T).drop (k + 1) := by rw [← List.drop_eq_getElem_cons hz, List.take_append_drop]
    conv => rhs; rw [h3]
    exact List.perm_middle.symm
  rw [← h1]
  refine h2.symm.trans ?_
  rw [List.getElem_zip]
  exact (List.perm_append_comm (l₁ := [_])).trans (List.Perm.refl _)
theorem fair_less {on : Nat → Nat → Bool} (W : Wy on) {n : Nat} {gn : Nat → Rat} {L : List Cm} {T U : List Rat} {k : Nat} (hk : k < L.length) (h1 : T.length = L.length) (h2 : U.length = (L.eraseIdx k).length)
    (hT : Fair on n gn (L.zip T)) (hU : Fair on n gn ((L.eraseIdx k).zip U)) (i : Nat) (i1 : i < (T.eraseIdx k).length) (i2 : i < U.length) : (T.eraseIdx k)[i] ≤ U[i] := by
  have h3 : (T.eraseIdx k).length = (L.eraseIdx k).length := by
    simp only [List.length_eraseIdx, h1]
  have := mono W ((L.eraseIdx k).zip ((T.eraseIdx k).zip U)) [(L[k], T[k]'(by omega))] (by rw [zip3_1 h3 h2]; exact hT.perm (zip_erase h1 hk)) (by rw [zip3_2 h3 h2]; exact hU) (fun _ _ => Rat.le_refl) (((L.eraseIdx k).zip ((T.eraseIdx k).zip U))[i]'(by rw [List.length_zip, List.length_zip]; omega)) (List.getElem_mem _)
  simpa only [List.getElem_zip] using this
end Go.Proofs.YtcdgibkbbcekhaaGreatDoor
