/-
  The plain laws of narrowing, witnesses and sums (no program in sight).
-/
import Derived.Test.YtjfbdffcgapdlaaQ
namespace Go.Proofs.Ytjfbdffcgapdlaa
open Go.RowKit Go.Sl

theorem nrw_cases {sk : List (Int × Int)} {ev : List Ev} (hc : checkS sk ev = 0) :
    ((nrwP sk ev).2 = 0 ∧ IsN sk (edgesS ev) (nrwP sk ev).1) ∨ (nrwP sk ev = ([], 24) ∧ ∀ x, ¬ Sol sk (edgesS ev) x) := by
  rw [nrwP, if_neg (by simp [hc])]
  rcases solve_spec hc with ⟨a1, a2⟩ | ⟨a1, a2⟩
  · rw [if_pos a1]; exact .inl ⟨rfl, a2⟩
  · rw [a1, if_neg (by simp)]; exact .inr ⟨rfl, a2⟩
theorem nrw_of {sk : List (Int × Int)} {ev : List Ev} (hc : checkS sk ev = 0) {r : List (Int × Int)} (h : IsN sk (edgesS ev) r) : nrwP sk ev = (r, 0) := by
  rcases nrw_cases hc with ⟨a1, a2⟩ | ⟨a1, a2⟩
  · exact Prod.ext (a2.uniq h) a1
  · exact absurd h.lo (a2 _)
theorem nrw_none {sk : List (Int × Int)} {ev : List Ev} (hc : checkS sk ev = 0) (h : ∀ x, ¬ Sol sk (edgesS ev) x) : nrwP sk ev = ([], 24) := by
  rcases nrw_cases hc with ⟨a1, a2⟩ | ⟨a1, a2⟩
  · exact absurd a2.lo (h _)
  · exact a1
theorem valid_le {sk : List (Int × Int)} {ev : List Ev} (hc : checkS sk ev = 0) {i : Nat} (hi : i < sk.length) : -2000 ≤ (gS sk i).1 ∧ (gS sk i).1 ≤ (gS sk i).2 ∧ (gS sk i).2 ≤ 2000 := by
  have := (checkS_zero hc).2.2.1 _ (List.getElem_mem hi)
  rw [gS_get hi]
  simpa [validB] using this

/-! ### Witness -/
theorem put_sol {sk : List (Int × Int)} {es : List Ed} {g : Nat} {s : Int} (hg : g < sk.length) (h1 : (gS sk g).1 ≤ s) (h2 : s ≤ (gS sk g).2) {x : Nat → Int} : Sol (putS sk g s) es x ↔ Sol sk es x ∧ x g = s := by
  have hl : (putS sk g s).length = sk.length := by simp [putS]
  constructor
  · intro h
    rw [← setS_put h1 h2] at h
    exact sol_set hg h
  · rintro ⟨h, rfl⟩
    refine ⟨fun i hi => ?_, h.ed⟩
    rw [putS, gS_set]
    split
    · rename_i e; obtain ⟨rfl, -⟩ := e; exact ⟨Int.le_refl _, Int.le_refl _⟩
    · exact h.box i (by omega)
theorem wit_in {sk : List (Int × Int)} {ev : List Ev} (hc : checkS sk ev = 0) {g : Nat} (hg : g < sk.length) {s : Int} (h1 : (gS sk g).1 ≤ s) (h2 : s ≤ (gS sk g).2) :
    witP sk ev g s = if (solveS (putS sk g s) ev).2 = true then ((solveS (putS sk g s) ev).1.map (·.1), 0) else ([], 24) := by
  rw [witP, if_neg (by simp [hc]), if_neg (by omega), Int.toNat_natCast, if_neg (by omega)]
theorem wit_some {sk : List (Int × Int)} {ev : List Ev} (hc : checkS sk ev = 0) {g : Nat} (hg : g < sk.length) {x : Nat → Int} (hx : Sol sk (edgesS ev) x) :
    ∃ a : List Int, witP sk ev g (x g) = (a, 0) ∧ a.length = sk.length ∧ holdsS sk ev a = true ∧ atL a g = x g ∧ ∀ y, Sol sk (edgesS ev) y → y g = x g → ∀ i, i < sk.length → atL a i ≤ y i := by
  have hb := hx.box g hg
  rw [wit_in hc hg hb.1 hb.2]
  have hl : (putS sk g (x g)).length = sk.length := by simp [putS]
  rcases solve_spec (check_put (sk := sk) (ev := ev) hc hg hb.1 hb.2) with ⟨a1, a2⟩ | ⟨a1, a2⟩
  · rw [if_pos a1]
    have hlen : ((solveS (putS sk g (x g)) ev).1.map (·.1)).length = sk.length := by rw [List.length_map, a2.len, hl]
    have hat : ∀ i, i < sk.length → atL ((solveS (putS sk g (x g)) ev).1.map (·.1)) i = (gS (solveS (putS sk g (x g)) ev).1 i).1 := fun i hi => atL_map (·.1) (by rw [a2.len, hl]; exact hi)
    obtain ⟨q1, q2⟩ := (put_sol hg hb.1 hb.2).1 a2.lo
    refine ⟨_, rfl, hlen, ?_, ?_, fun y hy hyg i hi => ?_⟩
    · refine holds_spec.2 ⟨hc, hlen, fun i hi => by rw [hat i hi]; exact q1.box i hi, fun e he => ?_⟩
      obtain ⟨o1, o2, -⟩ := edges_ok (checkS_zero hc).2.2.2 e he
      rw [hat _ o1, hat _ o2]
      exact q1.ed e he
    · rw [hat g hg]; exact q2
    · rw [hat i hi]
      exact (a2.best y ((put_sol hg hb.1 hb.2).2 ⟨hy, hyg⟩) i (by rw [hl]; exact hi)).1
  · exact absurd ((put_sol hg hb.1 hb.2).2 ⟨hx, rfl⟩) (a2 x)
theorem wit_none {sk : List (Int × Int)} {ev : List Ev} (hc : checkS sk ev = 0) {g : Nat} (hg : g < sk.length) (h : ∀ x, ¬ Sol sk (edgesS ev) x) : witP sk ev g (gS sk g).1 = ([], 24) := by
  have hv := valid_le hc hg
  rw [wit_in hc hg (Int.le_refl _) hv.2.1]
  rcases solve_spec (check_put (sk := sk) (ev := ev) hc hg (Int.le_refl _) hv.2.1) with ⟨a1, a2⟩ | ⟨a1, a2⟩
  · exact absurd ((put_sol hg (Int.le_refl _) hv.2.1).1 a2.lo).1 (h _)
  · rw [a1, if_neg (by simp)]

/-! ### more events, other orders -/
theorem check_of {sk sk' : List (Int × Int)} {ev ev' : List Ev} (hc : checkS sk ev = 0) (hl : sk'.length = sk.length) (hv : ∀ s ∈ sk', validB s = true) (hm : ev'.length ≤ 200) (he : ∀ x ∈ ev', evErr x sk.length = 0) : checkS sk' ev' = 0 := by
  obtain ⟨h1, -, -, -⟩ := checkS_zero hc
  have hall : sk'.all validB = true := List.all_eq_true.2 hv
  rw [checkS, if_neg (by omega), if_neg (by simp [hall]), hl]
  have key : ∀ l : List Ev, (∀ x ∈ l, evErr x sk.length = 0) → evErrs sk.length l = 0 := by
    intro l
    induction l with
    | nil => intro _; rfl
    | cons x r ih => intro h; rw [evErrs, if_pos (h x (.head _))]; exact ih fun y hy => h y (.tail _ hy)
  exact key ev' he
theorem edok_sub {ev ev' : List Ev} {x : Nat → Int} (h : EdOk (edgesS ev) x) (hs : ∀ e ∈ ev', e ∈ ev) : EdOk (edgesS ev') x := edge_sol.2 fun e he => edge_sol.1 h e (hs e he)
theorem nrw_rev {sk : List (Int × Int)} {ev : List Ev} (hc : checkS sk ev = 0) : nrwP sk ev.reverse = nrwP sk ev := by
  obtain ⟨h1, h2, h3, h4⟩ := checkS_zero hc
  have hc' : checkS sk ev.reverse = 0 := check_of hc rfl h3 (by simpa using h2) fun x hx => h4 x (by simpa using hx)
  have hS : ∀ x, Sol sk (edgesS ev.reverse) x ↔ Sol sk (edgesS ev) x := fun x => ⟨fun h => ⟨h.box, edok_sub h.ed fun e he => by simpa using he⟩, fun h => ⟨h.box, edok_sub h.ed fun e he => by simpa using he⟩⟩
  rcases nrw_cases hc with ⟨a1, a2⟩ | ⟨a1, a2⟩
  · rw [nrw_of hc a2]
    exact nrw_of hc' ⟨a2.len, (hS _).2 a2.lo, (hS _).2 a2.hi, fun x hx => a2.best x ((hS x).1 hx)⟩
  · rw [a1]
    exact nrw_none hc' fun x hx => a2 x ((hS x).1 hx)
theorem isN_valid {sk : List (Int × Int)} {ev : List Ev} (hc : checkS sk ev = 0) {r : List (Int × Int)} (h : IsN sk (edgesS ev) r) : ∀ s ∈ r, validB s = true := by
  intro s hs
  obtain ⟨i, hi, rfl⟩ := List.mem_iff_getElem.1 hs
  have hi' : i < sk.length := by rw [← h.len]; exact hi
  have q1 := h.lo.box i hi'
  have q2 := h.hi.box i hi'
  have q3 := (h.best _ h.hi i hi').1
  have q4 := valid_le hc hi'
  try dsimp only at q1 q2 q3
  rw [gS_get hi] at q1 q2 q3
  simp only [validB, decide_eq_true_eq]
  omega
theorem nrw_again {sk : List (Int × Int)} {ev : List Ev} (hc : checkS sk ev = 0) {r : List (Int × Int)} (h : IsN sk (edgesS ev) r) : nrwP r ev = (r, 0) := by
  obtain ⟨h1, h2, h3, h4⟩ := checkS_zero hc
  have hc' : checkS r ev = 0 := check_of hc h.len (isN_valid hc h) h2 h4
  have hle : ∀ i, i < r.length → (gS r i).1 ≤ (gS r i).2 := fun i hi => (h.best _ h.hi i (by rw [← h.len]; exact hi)).1
  exact nrw_of hc' ⟨rfl, ⟨fun i hi => ⟨Int.le_refl _, hle i hi⟩, h.lo.ed⟩, ⟨fun i hi => ⟨hle i hi, Int.le_refl _⟩, h.hi.ed⟩, fun x hx => hx.box⟩
theorem nrw_more {sk : List (Int × Int)} {ev : List Ev} {m : Ev} (hc : checkS sk ev = 0) (hc' : checkS sk (ev ++ [m]) = 0) :
    (∀ r r', IsN sk (edgesS ev) r → IsN sk (edgesS (ev ++ [m])) r' → ∀ i, i < sk.length → (gS r i).1 ≤ (gS r' i).1 ∧ (gS r' i).2 ≤ (gS r i).2) ∧ ((∀ x, ¬ Sol sk (edgesS ev) x) → ∀ x, ¬ Sol sk (edgesS (ev ++ [m])) x) := by
  have hS : ∀ x, Sol sk (edgesS (ev ++ [m])) x → Sol sk (edgesS ev) x := fun x h => ⟨h.box, edok_sub h.ed fun e he => by simp [he]⟩
  exact ⟨fun r r' h h' i hi => ⟨(h.best _ (hS _ h'.lo) i hi).1, (h.best _ (hS _ h'.hi) i hi).2⟩, fun h x hx => h x (hS x hx)⟩

/-! ### two events that meet -/
def compE (x y : Ev) : Ev := ⟨x.A, y.B, x.At, y.Bt, x.Lo + y.Lo, x.Hi + y.Hi⟩
theorem evErr_of {x : Ev} {n : Int} (h : 0 ≤ x.A ∧ x.A < n ∧ 0 ≤ x.B ∧ x.B < n ∧ 0 ≤ x.At ∧ x.At < 1402560 ∧ 0 ≤ x.Bt ∧ x.Bt < 1402560 ∧ 0 ≤ x.Lo ∧ x.Lo ≤ x.Hi ∧ x.Hi ≤ 1402560) : evErr x n = 0 := by
  rw [evErr, if_neg (by omega), if_neg]
  simp only [tickB, decide_eq_false_iff_not]
  omega
theorem comp_err {x y : Ev} {n : Int} (hx : evErr x n = 0) (hy : evErr y n = 0) (h : x.Hi + y.Hi ≤ 1402560) : evErr (compE x y) n = 0 := by
  have a := evErr_zero hx
  have b := evErr_zero hy
  refine evErr_of ?_
  dsimp only [compE]
  omega
theorem nrw_comp {sk : List (Int × Int)} {ev : List Ev} {x y : Ev} (hc : checkS sk ev = 0) (hm : ev.length < 200) (hx : x ∈ ev) (hy : y ∈ ev) (h1 : x.B = y.A) (h2 : x.Bt = y.At) (h3 : x.Hi + y.Hi ≤ 1402560) :
    nrwP sk (ev ++ [compE x y]) = nrwP sk ev := by
  obtain ⟨q1, q2, q3, q4⟩ := checkS_zero hc
  have hc' : checkS sk (ev ++ [compE x y]) = 0 := check_of hc rfl q3 (by simp; omega) fun e he => by
    rcases List.mem_append.1 he with he | he
    · exact q4 e he
    · have : e = compE x y := by simpa using he
      subst this
      exact comp_err (q4 x hx) (q4 y hy) h3
  have hS : ∀ u, Sol sk (edgesS (ev ++ [compE x y])) u ↔ Sol sk (edgesS ev) u := fun u => by
    refine ⟨fun h => ⟨h.box, edok_sub h.ed fun e he => by simp [he]⟩, fun h => ⟨h.box, edge_sol.2 fun e he => ?_⟩⟩
    rcases List.mem_append.1 he with he | he
    · exact edge_sol.1 h.ed e he
    · have : e = compE x y := by simpa using he
      subst this
      have a := edge_sol.1 h.ed x hx
      have b := edge_sol.1 h.ed y hy
      rw [← h1, ← h2] at b
      simp only [compE]
      omega
  rcases nrw_cases hc with ⟨a1, a2⟩ | ⟨a1, a2⟩
  · rw [nrw_of hc a2]
    exact nrw_of hc' ⟨a2.len, (hS _).2 a2.lo, (hS _).2 a2.hi, fun u hu => a2.best u ((hS u).1 hu)⟩
  · rw [a1]
    exact nrw_none hc' fun u hu => a2 u ((hS u).1 hu)

/-! ### sums -/
theorem best_spec (f : Int → Int) (s : Int) : ∀ k : Nat, (∀ j : Int, s ≤ j → j ≤ s + k → (bestS f s k).1.1 ≤ f j ∧ f j ≤ (bestS f s k).2.1) ∧
    (s ≤ (bestS f s k).1.2 ∧ (bestS f s k).1.2 ≤ s + k ∧ f (bestS f s k).1.2 = (bestS f s k).1.1) ∧ (s ≤ (bestS f s k).2.2 ∧ (bestS f s k).2.2 ≤ s + k ∧ f (bestS f s k).2.2 = (bestS f s k).2.1)
  | 0 => by
    refine ⟨fun j h1 h2 => ?_, ⟨?_, ?_, rfl⟩, ⟨?_, ?_, rfl⟩⟩
    · have : j = s := by omega
      subst this; exact ⟨Int.le_refl _, Int.le_refl _⟩
    all_goals (simp only [bestS]; omega)
  | k + 1 => by
    obtain ⟨h1, ⟨h2, h3, h4⟩, ⟨h5, h6, h7⟩⟩ := best_spec f s k
    refine ⟨fun j g1 g2 => ?_, ?_, ?_⟩
    · by_cases e : j = s + k + 1
      · subst e
        simp only [bestS]
        constructor
        · split
          · exact Int.le_refl _
          · omega
        · split
          · exact Int.le_refl _
          · omega
      · have := h1 j g1 (by omega)
        simp only [bestS]
        constructor
        · split
          · dsimp only; omega
          · exact this.1
        · split
          · dsimp only; omega
          · exact this.2
    · simp only [bestS]
      split
      · exact ⟨by dsimp only; omega, by dsimp only; omega, rfl⟩
      · exact ⟨h2, by omega, h4⟩
    · simp only [bestS]
      split
      · exact ⟨by dsimp only; omega, by dsimp only; omega, rfl⟩
      · exact ⟨h5, by omega, h7⟩
end Go.Proofs.Ytjfbdffcgapdlaa
