/-
  Difference constraints: what settling comes to (no program in sight).
-/
import Derived.Test.YtjfbdffcgapdlaaN
namespace Go.Proofs.Ytjfbdffcgapdlaa
open Go.RowKit Go.Sl

/-! ### sums -/
def sumR : Nat → (Nat → Nat) → Nat
  | 0, _ => 0
  | n + 1, f => sumR n f + f n
theorem sumR_le {f g : Nat → Nat} : ∀ {n : Nat}, (∀ i, i < n → g i ≤ f i) → sumR n g ≤ sumR n f
  | 0, _ => Nat.le_refl _
  | n + 1, h => by
    have := sumR_le (n := n) fun i hi => h i (by omega)
    have := h n (by omega)
    simp only [sumR]; omega
theorem sumR_lt {f g : Nat → Nat} : ∀ {n i0 : Nat}, (∀ i, i < n → g i ≤ f i) → i0 < n → g i0 < f i0 → sumR n g < sumR n f
  | 0, _, _, h, _ => by omega
  | n + 1, i0, h, h0, hl => by
    by_cases e : i0 = n
    · subst e
      have := sumR_le (n := i0) fun i hi => h i (by omega)
      simp only [sumR]; omega
    · have := sumR_lt (n := n) (i0 := i0) (fun i hi => h i (by omega)) (by omega) hl
      have := h n (by omega)
      simp only [sumR]; omega
theorem sumR_const (n : Nat) : sumR n (fun _ => 1) = n := by
  induction n with
  | zero => rfl
  | succ n ih => simp [sumR, ih]
theorem sumR_zero (n : Nat) : sumR n (fun _ => 0) = 0 := by
  induction n with
  | zero => rfl
  | succ n ih => simp [sumR, ih]
theorem shift_up (f g : Nat → Int) : ∀ n : Nat, ∃ c : Int, ∀ i, i < n → f i ≤ g i + c
  | 0 => ⟨0, fun i hi => absurd hi (Nat.not_lt_zero _)⟩
  | n + 1 => by
    obtain ⟨c, hc⟩ := shift_up f g n
    refine ⟨max c (f n - g n), fun i hi => ?_⟩
    by_cases e : i = n
    · subst e; omega
    · have := hc i (by omega); omega
theorem exists_min {A : Type} (m : A → Nat) (Q : A → Prop) (h : ∃ a, Q a) : ∃ a, Q a ∧ ∀ b, Q b → m a ≤ m b := by
  have key : ∀ n a, Q a → m a = n → ∃ a, Q a ∧ ∀ b, Q b → m a ≤ m b := by
    intro n
    induction n using Nat.strongRecOn with
    | _ n ih =>
      intro a ha hm
      by_cases hex : ∃ b, Q b ∧ m b < m a
      · obtain ⟨b, hb, hlt⟩ := hex
        exact ih (m b) (by omega) b hb rfl
      · exact ⟨a, ha, fun b hb => Nat.le_of_not_lt fun hlt => hex ⟨b, hb, hlt⟩⟩
  obtain ⟨a, ha⟩ := h
  exact key _ a ha rfl

/-! ### constraints -/
def EdOk (es : List Ed) (x : Nat → Int) : Prop := ∀ e ∈ es, x e.1 + e.2.2 ≤ x e.2.1
def atL (l : List Int) (i : Nat) : Int := l.getD i 0

theorem stp_mono (x : List Int × Bool) (e : Ed) (i : Nat) : atL x.1 i ≤ atL (stpS x e).1 i := by
  rw [stpS]
  split
  · dsimp only [atL]
    rw [getD_set]
    split
    · rename_i h1 h2; obtain ⟨rfl, -⟩ := h2; exact Int.le_of_lt h1
    · exact Int.le_refl _
  · exact Int.le_refl _
theorem fold_mono : ∀ (es : List Ed) (x : List Int × Bool) (i : Nat), atL x.1 i ≤ atL (es.foldl stpS x).1 i
  | [], x, i => Int.le_refl _
  | e :: r, x, i => Int.le_trans (stp_mono x e i) (fold_mono r _ i)
theorem stp_below {n : Nat} {x : List Int × Bool} {e : Ed} {y : Nat → Int} (hn : x.1.length = n) (he : okEd n e) (hy : y e.1 + e.2.2 ≤ y e.2.1) (hx : ∀ i, i < n → atL x.1 i ≤ y i) : ∀ i, i < n → atL (stpS x e).1 i ≤ y i := by
  intro i hi
  rw [stpS]
  split
  · dsimp only [atL]
    rw [getD_set]
    split
    · rename_i h1 h2; obtain ⟨rfl, -⟩ := h2
      have := hx e.1 he.1
      dsimp only [atL] at this
      omega
    · exact hx i hi
  · exact hx i hi
theorem fold_below {n : Nat} {y : Nat → Int} : ∀ {es : List Ed} {x : List Int × Bool}, x.1.length = n → (∀ e ∈ es, okEd n e) → EdOk es y → (∀ i, i < n → atL x.1 i ≤ y i) → ∀ i, i < n → atL (es.foldl stpS x).1 i ≤ y i
  | [], _, _, _, _, hx => hx
  | e :: r, x, hn, ho, hy, hx => fold_below (es := r) (x := stpS x e) ((stpS_len x e).trans hn) (fun e he => ho e (.tail _ he)) (fun e he => hy e (.tail _ he)) (stp_below hn (ho e (.head _)) (hy e (.head _)) hx)
theorem stp_ge {n : Nat} {x : List Int × Bool} {e : Ed} (hn : x.1.length = n) (he : okEd n e) : atL x.1 e.1 + e.2.2 ≤ atL (stpS x e).1 e.2.1 := by
  rw [stpS]
  split
  · dsimp only [atL]
    rw [getD_set, if_pos ⟨rfl, by rw [hn]; exact he.2.1⟩]
    exact Int.le_refl _
  · rename_i h1; exact Int.not_lt.1 h1
theorem fold_ge {n : Nat} : ∀ {es : List Ed} {x : List Int × Bool}, x.1.length = n → (∀ e ∈ es, okEd n e) → ∀ e ∈ es, atL x.1 e.1 + e.2.2 ≤ atL (es.foldl stpS x).1 e.2.1
  | [], _, _, _, e, he => by cases he
  | f :: r, x, hn, ho, e, he => by
    rcases List.mem_cons.1 he with rfl | he
    · exact Int.le_trans (stp_ge hn (ho e (.head _))) (fold_mono r _ _)
    · have h1 := fold_ge (es := r) (x := stpS x f) ((stpS_len x f).trans hn) (fun e he => ho e (.tail _ he)) e he
      have h2 := stp_mono x f e.1
      simp only [List.foldl_cons]
      omega
theorem fold_false (es : List Ed) : ∀ l : List Int, (es.foldl stpS (l, false)).2 = false := by
  induction es with
  | nil => exact fun _ => rfl
  | cons e r ih =>
    intro l
    simp only [List.foldl_cons, stpS]
    split
    · exact ih _
    · exact ih _
theorem fold_true : ∀ {es : List Ed} {l : List Int}, (es.foldl stpS (l, true)).2 = true → (es.foldl stpS (l, true)).1 = l ∧ EdOk es (atL l)
  | [], l, _ => ⟨rfl, fun e he => by cases he⟩
  | e :: r, l, h => by
    simp only [List.foldl_cons] at h ⊢
    by_cases hlt : l.getD e.2.1 0 < l.getD e.1 0 + e.2.2
    · have : stpS (l, true) e = (l.set e.2.1 (l.getD e.1 0 + e.2.2), false) := by rw [stpS, if_pos hlt]
      rw [this, fold_false] at h
      cases h
    · have hs : stpS (l, true) e = (l, true) := by rw [stpS, if_neg hlt]
      rw [hs] at h ⊢
      obtain ⟨h1, h2⟩ := fold_true h
      refine ⟨h1, fun f hf => ?_⟩
      rcases List.mem_cons.1 hf with rfl | hf
      · exact Int.not_lt.1 hlt
      · exact h2 f hf
theorem fold_same : ∀ {es : List Ed} {l : List Int}, EdOk es (atL l) → es.foldl stpS (l, true) = (l, true)
  | [], _, _ => rfl
  | e :: r, l, h => by
    have hn : ¬ l.getD e.2.1 0 < l.getD e.1 0 + e.2.2 := Int.not_lt.2 (h e (.head _))
    have hs : stpS (l, true) e = (l, true) := by rw [stpS, if_neg hn]
    rw [List.foldl_cons, hs]
    exact fold_same fun f hf => h f (.tail _ hf)

/-- A settled list is the least one. -/
theorem settle_true {n : Nat} {es : List Ed} (ho : ∀ e ∈ es, okEd n e) : ∀ (k : Nat) (l : List Int), l.length = n → (settleS es k l).2 = true →
    EdOk es (atL (settleS es k l).1) ∧ (∀ i, atL l i ≤ atL (settleS es k l).1 i) ∧ ∀ y, EdOk es y → (∀ i, i < n → atL l i ≤ y i) → ∀ i, i < n → atL (settleS es k l).1 i ≤ y i
  | 0, l, _, h => by simp [settleS] at h
  | k + 1, l, hn, h => by
    have hln : (passS es l).1.length = n := (passS_len es (l, true)).trans hn
    rw [settleS] at h ⊢
    split at h
    · rename_i hp
      rw [if_pos hp]
      obtain ⟨h1, h2⟩ := fold_true hp
      dsimp only
      have h1 : (passS es l).1 = l := h1
      rw [h1]
      exact ⟨h2, fun _ => Int.le_refl _, fun y _ hy => hy⟩
    · rename_i hp
      rw [if_neg hp]
      obtain ⟨h1, h2, h3⟩ := settle_true ho k _ hln h
      refine ⟨h1, fun i => Int.le_trans (fold_mono es (l, true) i) (h2 i), fun y hy hl => h3 y hy (fold_below (x := (l, true)) hn ho hy hl)⟩

/-- How many are not settled yet. -/
def cntU (n : Nat) (l : List Int) (y : Nat → Int) : Nat := sumR n fun i => if atL l i < y i then 1 else 0
theorem cntU_le (n : Nat) (l : List Int) (y : Nat → Int) : cntU n l y ≤ n := by
  have := sumR_le (n := n) (f := fun _ => 1) (g := fun i => if atL l i < y i then 1 else 0) fun i _ => by split <;> omega
  rwa [sumR_const] at this
theorem cntU_zero {n : Nat} {l : List Int} {y : Nat → Int} (hy : ∀ i, i < n → atL l i ≤ y i) (h : cntU n l y = 0) : ∀ i, i < n → atL l i = y i := by
  intro i hi
  by_cases hlt : atL l i < y i
  · have := sumR_lt (n := n) (i0 := i) (f := fun i => if atL l i < y i then 1 else 0) (g := fun _ => 0) (fun _ _ => Nat.zero_le _) hi (by simp [hlt])
    rw [cntU] at h
    omega
  · have := hy i hi
    omega

theorem settle_ends {n : Nat} {es : List Ed} (ho : ∀ e ∈ es, okEd n e) {l0 : List Int} {y : Nat → Int} (hy : EdOk es y)
    (hmin : ∀ z, EdOk es z → (∀ i, i < n → atL l0 i ≤ z i) → sumR n (fun i => (y i - atL l0 i).toNat) ≤ sumR n (fun i => (z i - atL l0 i).toNat)) :
    ∀ (m k : Nat) (l : List Int), l.length = n → (∀ i, i < n → atL l0 i ≤ atL l i) → (∀ i, i < n → atL l i ≤ y i) → cntU n l y ≤ m → m < k → (settleS es k l).2 = true := by
  intro m
  induction m with
  | zero =>
    intro k l hn h0 hl hc hk
    have he := cntU_zero hl (by omega)
    obtain ⟨k, rfl⟩ := Nat.exists_eq_add_of_lt hk
    have hok : EdOk es (atL l) := fun e hm => by
      have := hy e hm
      rw [he _ (ho e hm).1, he _ (ho e hm).2.1]; exact this
    have hp : passS es l = (l, true) := fold_same hok
    rw [show 0 + k + 1 = k + 1 by omega, settleS, hp, if_pos rfl]
  | succ m ih =>
    intro k l hn h0 hl hc hk
    obtain ⟨k, rfl⟩ : ∃ k', k = k' + 1 := ⟨k - 1, by omega⟩
    rw [settleS]
    split
    · rfl
    rename_i hp
    have hln : (passS es l).1.length = n := (passS_len es (l, true)).trans hn
    have hmo : ∀ i, atL l i ≤ atL (passS es l).1 i := fold_mono es (l, true)
    have hbl : ∀ i, i < n → atL (passS es l).1 i ≤ y i := fold_below (x := (l, true)) hn ho hy hl
    refine ih k _ hln (fun i hi => Int.le_trans (h0 i hi) (hmo i)) hbl ?_ (by omega)
    by_cases hz : cntU n l y = 0
    · have he := cntU_zero hl hz
      have : cntU n (passS es l).1 y ≤ cntU n l y := sumR_le fun i hi => by
        have := hmo i; have := he i hi
        have h1 : ¬ atL (passS es l).1 i < y i := by omega
        simp [h1]
      omega
    -- some one is not settled: lower all these by one
    have hex : ∃ i0, i0 < n ∧ atL l i0 < y i0 := by
      refine Classical.byContradiction fun hno => hz ?_
      have : cntU n l y ≤ sumR n (fun _ => 0) := sumR_le fun i hi => by
        have h1 : ¬ atL l i < y i := fun h => hno ⟨i, hi, h⟩
        simp [h1]
      have h2 := sumR_zero n
      omega
    obtain ⟨i0, hi0, hlt0⟩ := hex
    have hnot : ¬ EdOk es (fun i => if atL l i < y i then y i - 1 else y i) := fun hz => by
      have h1 := hmin _ hz fun i hi => by
        have := h0 i hi; have := hl i hi
        (try dsimp only); split <;> omega
      have h2 := sumR_lt (n := n) (i0 := i0) (f := fun i => (y i - atL l0 i).toNat) (g := fun i => ((if atL l i < y i then y i - 1 else y i) - atL l0 i).toNat) (fun i hi => by (try dsimp only); split <;> omega) hi0 (by
        have := h0 i0 hi0
        (try dsimp only); rw [if_pos hlt0]; omega)
      omega
    have hedge : ∃ e ∈ es, ¬ atL l e.1 < y e.1 ∧ atL l e.2.1 < y e.2.1 ∧ y e.2.1 ≤ y e.1 + e.2.2 := by
      refine Classical.byContradiction fun hno => hnot fun e hm => ?_
      have h1 := hy e hm
      by_cases ha : atL l e.1 < y e.1
      · (try dsimp only); rw [if_pos ha]; split <;> omega
      · by_cases hb : atL l e.2.1 < y e.2.1
        · have h3 : ¬ y e.2.1 ≤ y e.1 + e.2.2 := fun h => hno ⟨e, hm, ha, hb, h⟩
          (try dsimp only); rw [if_neg ha, if_pos hb]; omega
        · (try dsimp only); rw [if_neg ha, if_neg hb]; exact h1
    obtain ⟨e, hm, ha, hb, ht⟩ := hedge
    obtain ⟨o1, o2, -⟩ := ho e hm
    have hge := fold_ge (x := (l, true)) hn ho e hm
    have hset : ¬ atL (passS es l).1 e.2.1 < y e.2.1 := by
      have h1 := hl e.1 o1
      dsimp only at hge
      rw [passS]; omega
    have : cntU n (passS es l).1 y < cntU n l y := sumR_lt (i0 := e.2.1) (fun i hi => by
      have := hmo i
      split
      · rw [if_pos (by omega)]; exact Nat.le_refl _
      · exact Nat.zero_le _) o2 (by simp [hb, hset])
    omega

/-- If it does not end, no numbers meet the constraints. -/
theorem settle_false {n : Nat} {es : List Ed} (ho : ∀ e ∈ es, okEd n e) {l : List Int} (hn : l.length = n) (h : (settleS es (n + 2) l).2 = false) (x : Nat → Int) (hx : EdOk es x) : False := by
  have hshift : ∃ y, EdOk es y ∧ ∀ i, i < n → atL l i ≤ y i := by
    have hb := shift_up (atL l) x n
    obtain ⟨c, hc⟩ := hb
    exact ⟨fun i => x i + c, fun e hm => by have := hx e hm; (try dsimp only); omega, hc⟩
  obtain ⟨y, ⟨hy1, hy2⟩, hmin⟩ := exists_min (fun y : Nat → Int => sumR n fun i => (y i - atL l i).toNat) (fun y => EdOk es y ∧ ∀ i, i < n → atL l i ≤ y i) hshift
  have := settle_ends ho (l0 := l) hy1 (fun z hz1 hz2 => hmin z ⟨hz1, hz2⟩) n (n + 2) l hn (fun _ _ => Int.le_refl _) hy2 (cntU_le _ _ _) (by omega)
  rw [h] at this
  cases this
end Go.Proofs.Ytjfbdffcgapdlaa
