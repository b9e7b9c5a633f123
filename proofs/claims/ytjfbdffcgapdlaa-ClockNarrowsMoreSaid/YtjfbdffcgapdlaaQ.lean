/-
  What solving, the narrowing of the specification, and holding come to: least and greatest shifts (no program in sight).
-/
import Derived.Test.YtjfbdffcgapdlaaP
import Derived.Test.YtjfbdffcgapdlaaO
namespace Go.Proofs.Ytjfbdffcgapdlaa
open Go.RowKit Go.Sl

/-- x is inside the skews and meets the constraints. -/
structure Sol (sk : List (Int × Int)) (es : List Ed) (x : Nat → Int) : Prop where
  box : ∀ i, i < sk.length → (gS sk i).1 ≤ x i ∧ x i ≤ (gS sk i).2
  ed : EdOk es x
/-- r has the least and the greatest solution. -/
structure IsN (sk : List (Int × Int)) (es : List Ed) (r : List (Int × Int)) : Prop where
  len : r.length = sk.length
  lo : Sol sk es fun i => (gS r i).1
  hi : Sol sk es fun i => (gS r i).2
  best : ∀ x, Sol sk es x → ∀ i, i < sk.length → (gS r i).1 ≤ x i ∧ x i ≤ (gS r i).2

theorem gS_ext {l m : List (Int × Int)} (h : l.length = m.length) (hg : ∀ i, i < l.length → gS l i = gS m i) : l = m := by
  refine List.ext_getElem h fun i h1 h2 => ?_
  have := hg i h1
  rwa [gS_get h1, gS_get h2] at this
theorem IsN.uniq {sk : List (Int × Int)} {es : List Ed} {r r' : List (Int × Int)} (h : IsN sk es r) (h' : IsN sk es r') : r = r' := by
  refine gS_ext (h.len.trans h'.len.symm) fun i hi => ?_
  rw [h.len] at hi
  have a1 := (h.best _ h'.lo i hi).1
  have a2 := (h'.best _ h.lo i hi).1
  have a3 := (h.best _ h'.hi i hi).2
  have a4 := (h'.best _ h.hi i hi).2
  exact Prod.ext (by omega) (by omega)
theorem IsN.some {sk : List (Int × Int)} {es : List Ed} {r : List (Int × Int)} (h : IsN sk es r) : ∃ x, Sol sk es x := ⟨_, h.lo⟩

theorem edge_sol {ev : List Ev} {x : Nat → Int} : EdOk (edgesS ev) x ↔ ∀ e ∈ ev, x e.A.toNat + (e.Lo - (e.Bt - e.At)) ≤ x e.B.toNat ∧ x e.B.toNat + ((e.Bt - e.At) - e.Hi) ≤ x e.A.toNat := by
  constructor
  · intro h e he
    exact ⟨h (e.A.toNat, e.B.toNat, e.Lo - (e.Bt - e.At)) (List.mem_flatMap.2 ⟨e, he, .head _⟩), h (e.B.toNat, e.A.toNat, (e.Bt - e.At) - e.Hi) (List.mem_flatMap.2 ⟨e, he, .tail _ (.head _)⟩)⟩
  · intro h f hf
    obtain ⟨e, he, hf⟩ := List.mem_flatMap.1 hf
    have := h e he
    simp only [edS, List.mem_cons, List.not_mem_nil, or_false] at hf
    rcases hf with rfl | rfl
    · exact this.1
    · exact this.2
theorem edge_swp {es : List Ed} {x : Nat → Int} : EdOk (es.map swp) x ↔ EdOk es fun i => -x i := by
  constructor
  · intro h e he
    have := h (swp e) (List.mem_map.2 ⟨e, he, rfl⟩)
    simp only [swp] at this
    show -x e.1 + e.2.2 ≤ -x e.2.1
    omega
  · intro h f hf
    obtain ⟨e, he, rfl⟩ := List.mem_map.1 hf
    have := h e he
    simp only [swp]
    dsimp only at this
    omega

theorem atL_map (f : Int × Int → Int) {sk : List (Int × Int)} {i : Nat} (h : i < sk.length) : atL (sk.map f) i = f (gS sk i) := by
  rw [atL, List.getD_eq_getElem?_getD, List.getElem?_map, gS_get h, List.getElem?_eq_getElem h]; rfl
theorem gS_out {lo hi : List Int} {i : Nat} (h1 : i < lo.length) (h2 : i < hi.length) : gS (outS lo hi) i = (atL lo i, -atL hi i) := by
  have : i < (outS lo hi).length := by simp [outS]; omega
  rw [gS_get this, outS_get h1 h2]; rfl
theorem empty_false {l : List (Int × Int)} (h : emptyB l = false) {i : Nat} (hi : i < l.length) : (gS l i).1 ≤ (gS l i).2 := by
  have := List.any_eq_false.1 h l[i] (List.getElem_mem hi)
  rw [gS_get hi]; simpa using this
theorem empty_true {l : List (Int × Int)} (h : emptyB l = true) : ∃ i, i < l.length ∧ (gS l i).2 < (gS l i).1 := by
  obtain ⟨s, hs, h2⟩ := List.any_eq_true.1 h
  obtain ⟨i, hi, rfl⟩ := List.mem_iff_getElem.1 hs
  exact ⟨i, hi, by rw [gS_get hi]; simpa using h2⟩

theorem solve_spec {sk : List (Int × Int)} {ev : List Ev} (hc : checkS sk ev = 0) :
    ((solveS sk ev).2 = true ∧ IsN sk (edgesS ev) (solveS sk ev).1) ∨ (solveS sk ev = ([], false) ∧ ∀ x, ¬ Sol sk (edgesS ev) x) := by
  obtain ⟨h1, h2, h3, h4⟩ := checkS_zero hc
  have okE := edges_ok h4
  have okB : ∀ e ∈ (edgesS ev).map swp, okEd sk.length e := fun e he => by
    obtain ⟨x, hx, rfl⟩ := List.mem_map.1 he
    obtain ⟨o1, o2, o3, o4⟩ := okE x hx
    exact ⟨o2, o1, o3, o4⟩
  have lL := settleS_len (edgesS ev) (sk.length + 2) (sk.map (·.1))
  have lH := settleS_len ((edgesS ev).map swp) (sk.length + 2) (sk.map (-·.2))
  rw [List.length_map] at lL lH
  have tL := settle_true okE (sk.length + 2) (sk.map (·.1)) (List.length_map _)
  have tH := settle_true okB (sk.length + 2) (sk.map (-·.2)) (List.length_map _)
  have fL := settle_false okE (l := sk.map (·.1)) (List.length_map _)
  have fH := settle_false okB (l := sk.map (-·.2)) (List.length_map _)
  have hrw : solveS sk ev = if (settleS (edgesS ev) (sk.length + 2) (sk.map (·.1))).2 = false ∨ (settleS ((edgesS ev).map swp) (sk.length + 2) (sk.map (-·.2))).2 = false ∨ emptyB (outS (settleS (edgesS ev) (sk.length + 2) (sk.map (·.1))).1 (settleS ((edgesS ev).map swp) (sk.length + 2) (sk.map (-·.2))).1) = true then ([], false) else (outS (settleS (edgesS ev) (sk.length + 2) (sk.map (·.1))).1 (settleS ((edgesS ev).map swp) (sk.length + 2) (sk.map (-·.2))).1, true) := rfl
  generalize settleS (edgesS ev) (sk.length + 2) (sk.map (·.1)) = rL at *
  generalize settleS ((edgesS ev).map swp) (sk.length + 2) (sk.map (-·.2)) = rH at *
  obtain ⟨lo, okL⟩ := rL
  obtain ⟨hi, okH⟩ := rH
  dsimp only at *
  cases okL with
  | false => exact .inr ⟨by rw [hrw, if_pos (.inl rfl)], fun x hx => fL rfl x hx.ed⟩
  | true =>
  cases okH with
  | false => exact .inr ⟨by rw [hrw, if_pos (.inr (.inl rfl))], fun x hx => fH rfl (fun i => -x i) (edge_swp.2 (by simpa using hx.ed))⟩
  | true =>
  obtain ⟨a1, a2, a3⟩ := tL rfl
  obtain ⟨b1, b2, b3⟩ := tH rfl
  have hbest : ∀ x, Sol sk (edgesS ev) x → ∀ i, i < sk.length → (gS (outS lo hi) i).1 ≤ x i ∧ x i ≤ (gS (outS lo hi) i).2 := fun x hx i hi' => by
    have q1 := a3 x hx.ed (fun i hi => by rw [atL_map _ hi]; exact (hx.box i hi).1) i hi'
    have q2 := b3 (fun i => -x i) (edge_swp.2 (by simpa using hx.ed)) (fun i hi => by rw [atL_map _ hi]; have := (hx.box i hi).2; (try dsimp only); omega) i hi'
    rw [gS_out (by omega) (by omega)]
    dsimp only at q2 ⊢
    omega
  have hlen : (outS lo hi).length = sk.length := by rw [outS_len (by omega)]; exact lL
  by_cases hem : emptyB (outS lo hi) = true
  · refine .inr ⟨by rw [hrw, if_pos (.inr (.inr hem))], fun x hx => ?_⟩
    obtain ⟨i, hi', hlt⟩ := empty_true hem
    have := hbest x hx i (by omega)
    omega
  · have hem : emptyB (outS lo hi) = false := by simpa using hem
    rw [if_neg (by simp [hem])] at hrw
    rw [hrw]
    refine .inl ⟨rfl, hlen, ⟨fun i hi' => ?_, ?_⟩, ⟨fun i hi' => ?_, ?_⟩, hbest⟩
    · have q1 := a2 i
      have q2 := b2 i
      have q3 := empty_false hem (i := i) (by omega)
      rw [atL_map _ hi'] at q1 q2
      rw [gS_out (by omega) (by omega)] at q3 ⊢
      dsimp only at q3 ⊢
      omega
    · intro e he
      obtain ⟨o1, o2, -⟩ := okE e he
      have := a1 e he
      dsimp only
      rw [gS_out (by omega) (by omega), gS_out (by omega) (by omega)]
      exact this
    · have q1 := a2 i
      have q2 := b2 i
      have q3 := empty_false hem (i := i) (by omega)
      rw [atL_map _ hi'] at q1 q2
      rw [gS_out (by omega) (by omega)] at q3 ⊢
      dsimp only at q3 ⊢
      omega
    · intro e he
      obtain ⟨o1, o2, -⟩ := okE e he
      have := edge_swp.1 b1 e he
      dsimp only at this ⊢
      rw [gS_out (by omega) (by omega), gS_out (by omega) (by omega)]
      exact this

/-! ### the specification's narrowing -/
theorem once_sol {l : List (Int × Int)} {e : Ev} {x : Nat → Int} {n : Nat} (hn : l.length = n) (he : evErr e n = 0) (h1 : x e.A.toNat + (e.Lo - (e.Bt - e.At)) ≤ x e.B.toNat) (h2 : x e.B.toNat + ((e.Bt - e.At) - e.Hi) ≤ x e.A.toNat)
    (hb : ∀ i, i < n → (gS l i).1 ≤ x i ∧ x i ≤ (gS l i).2) : ∀ i, i < n → (gS (onceS l e) i).1 ≤ x i ∧ x i ≤ (gS (onceS l e) i).2 := by
  obtain ⟨x1, x2, x3, x4, -⟩ := evErr_zero he
  have hA : e.A.toNat < n := by omega
  have hB : e.B.toNat < n := by omega
  have s1 : ∀ i, i < n → (gS (once1 l e) i).1 ≤ x i ∧ x i ≤ (gS (once1 l e) i).2 := fun i hi => by
    have := hb i hi; have := hb _ hA; have := hb _ hB
    rw [once1, loS, gS_set]
    split
    · rename_i h; obtain ⟨rfl, -⟩ := h; dsimp only; omega
    · exact hb i hi
  have l1 : (once1 l e).length = n := by rw [once1, lo_len]; exact hn
  have s2 : ∀ i, i < n → (gS (once2 (once1 l e) e) i).1 ≤ x i ∧ x i ≤ (gS (once2 (once1 l e) e) i).2 := fun i hi => by
    have := s1 i hi; have := s1 _ hA; have := s1 _ hB
    rw [once2, hiS, gS_set]
    split
    · rename_i h; obtain ⟨rfl, -⟩ := h; dsimp only; omega
    · exact s1 i hi
  have s3 : ∀ i, i < n → (gS (once3 (once2 (once1 l e) e) e) i).1 ≤ x i ∧ x i ≤ (gS (once3 (once2 (once1 l e) e) e) i).2 := fun i hi => by
    have := s2 i hi; have := s2 _ hA; have := s2 _ hB
    rw [once3, loS, gS_set]
    split
    · rename_i h; obtain ⟨rfl, -⟩ := h; dsimp only; omega
    · exact s2 i hi
  intro i hi
  have := s3 i hi; have := s3 _ hA; have := s3 _ hB
  rw [onceS, once4, hiS, gS_set]
  split
  · rename_i h; obtain ⟨rfl, -⟩ := h; dsimp only; omega
  · exact s3 i hi
theorem round_sol {n : Nat} {x : Nat → Int} : ∀ {ev : List Ev} {l : List (Int × Int)}, l.length = n → (∀ e ∈ ev, evErr e n = 0) → (∀ e ∈ ev, x e.A.toNat + (e.Lo - (e.Bt - e.At)) ≤ x e.B.toNat ∧ x e.B.toNat + ((e.Bt - e.At) - e.Hi) ≤ x e.A.toNat) →
    (∀ i, i < n → (gS l i).1 ≤ x i ∧ x i ≤ (gS l i).2) → ∀ i, i < n → (gS (roundS ev l) i).1 ≤ x i ∧ x i ≤ (gS (roundS ev l) i).2
  | [], _, _, _, _, hb => hb
  | e :: r, l, hn, he, hx, hb => round_sol (ev := r) (l := onceS l e) ((once_nar l e).1.trans hn) (fun f hf => he f (.tail _ hf)) (fun f hf => hx f (.tail _ hf)) (once_sol hn (he e (.head _)) (hx e (.head _)).1 (hx e (.head _)).2 hb)

theorem nar_same {l m k : List (Int × Int)} (h1 : Nar l m) (h2 : Nar m k) (h3 : k = l) : m = l := by
  subst h3
  refine gS_ext h1.1 fun i _ => ?_
  have a := h1.2 i
  have b := h2.2 i
  exact Prod.ext (by omega) (by omega)
theorem round_same : ∀ {ev : List Ev} {l : List (Int × Int)}, roundS ev l = l → ∀ e ∈ ev, onceS l e = l
  | [], _, _, e, he => by cases he
  | f :: r, l, h, e, he => by
    have h1 : onceS l f = l := nar_same (once_nar l f) (round_nar r _) h
    rcases List.mem_cons.1 he with rfl | he
    · exact h1
    · refine round_same (ev := r) ?_ e he
      have : roundS (f :: r) l = roundS r (onceS l f) := rfl
      rwa [this, h1] at h
theorem once_same {l : List (Int × Int)} {e : Ev} {n : Nat} (hn : l.length = n) (he : evErr e n = 0) (h : onceS l e = l) :
    ((gS l e.A.toNat).1 + (e.Lo - (e.Bt - e.At)) ≤ (gS l e.B.toNat).1 ∧ (gS l e.B.toNat).1 + ((e.Bt - e.At) - e.Hi) ≤ (gS l e.A.toNat).1) ∧
    ((gS l e.A.toNat).2 + (e.Lo - (e.Bt - e.At)) ≤ (gS l e.B.toNat).2 ∧ (gS l e.B.toNat).2 + ((e.Bt - e.At) - e.Hi) ≤ (gS l e.A.toNat).2) := by
  obtain ⟨x1, x2, x3, x4, -⟩ := evErr_zero he
  have hA : e.A.toNat < l.length := by omega
  have hB : e.B.toNat < l.length := by omega
  have n1 : Nar l (once1 l e) := Nar.lo (Int.le_max_left _ _)
  have n2 : Nar (once1 l e) (once2 (once1 l e) e) := Nar.hi (Int.min_le_left _ _)
  have n3 : Nar (once2 (once1 l e) e) (once3 (once2 (once1 l e) e) e) := Nar.lo (Int.le_max_left _ _)
  have n4 : Nar (once3 (once2 (once1 l e) e) e) (onceS l e) := Nar.hi (Int.min_le_left _ _)
  have e1 : once1 l e = l := nar_same n1 ((n2.trans n3).trans n4) h
  rw [e1] at n2 n3 n4
  have e2 : once2 l e = l := nar_same n2 (n3.trans n4) (by rw [e1] at *; exact h)
  rw [e2] at n3 n4
  have h' : once4 (once3 l e) e = l := by
    have : onceS l e = once4 (once3 (once2 (once1 l e) e) e) e := rfl
    rw [this, e1, e2] at h; exact h
  have e3 : once3 l e = l := nar_same n3 (Nar.hi (Int.min_le_left _ _)) h'
  rw [e3] at h'
  have f1 : (gS (once1 l e) e.B.toNat).1 = max (gS l e.B.toNat).1 ((gS l e.A.toNat).1 + e.Lo - (e.Bt - e.At)) := by rw [once1, loS, gS_set, if_pos ⟨rfl, hB⟩]
  have f2 : (gS (once2 l e) e.B.toNat).2 = min (gS l e.B.toNat).2 ((gS l e.A.toNat).2 + e.Hi - (e.Bt - e.At)) := by rw [once2, hiS, gS_set, if_pos ⟨rfl, hB⟩]
  have f3 : (gS (once3 l e) e.A.toNat).1 = max (gS l e.A.toNat).1 ((gS l e.B.toNat).1 + (e.Bt - e.At) - e.Hi) := by rw [once3, loS, gS_set, if_pos ⟨rfl, hA⟩]
  have f4 : (gS (once4 l e) e.A.toNat).2 = min (gS l e.A.toNat).2 ((gS l e.B.toNat).2 + (e.Bt - e.At) - e.Lo) := by rw [once4, hiS, gS_set, if_pos ⟨rfl, hA⟩]
  rw [e1] at f1
  rw [e2] at f2
  rw [e3] at f3
  rw [h'] at f4
  omega

theorem narrow_spec {ev : List Ev} {n : Nat} (hev : ∀ e ∈ ev, evErr e n = 0) (l : List (Int × Int)) (hn : l.length = n) :
    ((narrowS ev l).2 = 0 ∧ IsN l (edgesS ev) (narrowS ev l).1) ∨ (narrowS ev l = ([], 24) ∧ ∀ x, ¬ Sol l (edgesS ev) x) := by
  fun_induction narrowS ev l with
  | case1 l h =>
    refine .inr ⟨rfl, fun x hx => ?_⟩
    obtain ⟨i, hi, hlt⟩ := empty_true h
    have := hx.box i hi
    omega
  | case2 l h hs =>
    have h : emptyB l = false := by simpa using h
    have hso := fun e he => once_same hn (hev e he) (round_same hs e he)
    exact .inl ⟨rfl, rfl, ⟨fun i hi => ⟨Int.le_refl _, empty_false h hi⟩, edge_sol.2 fun e he => (hso e he).1⟩, ⟨fun i hi => ⟨empty_false h hi, Int.le_refl _⟩, edge_sol.2 fun e he => (hso e he).2⟩, fun x hx i hi => hx.box i hi⟩
  | case3 l h hs hm ih =>
    have hnar := round_nar ev l
    have hback : ∀ x, Sol (roundS ev l) (edgesS ev) x → Sol l (edgesS ev) x := fun x hx => ⟨fun i hi => by
      have := hx.box i (by rw [hnar.1]; exact hi)
      have := hnar.2 i
      omega, hx.ed⟩
    have hforth : ∀ x, Sol l (edgesS ev) x → Sol (roundS ev l) (edgesS ev) x := fun x hx => ⟨fun i hi => by
      rw [hnar.1] at hi
      exact round_sol hn hev (edge_sol.1 hx.ed) (fun i hi => hx.box i (by omega)) i (by omega), hx.ed⟩
    rcases ih (hnar.1.trans hn) with ⟨q1, q2⟩ | ⟨q1, q2⟩
    · exact .inl ⟨q1, q2.len.trans hnar.1, hback _ q2.lo, hback _ q2.hi, fun x hx i hi => q2.best x (hforth x hx) i (by rw [hnar.1]; exact hi)⟩
    · exact .inr ⟨q1, fun x hx => q2 x (hforth x hx)⟩
  | case4 l h hs hm =>
    have h : emptyB l = false := by simpa using h
    exact absurd (mu_lt h hs) hm

/-! ### holding -/
theorem all_zip {sh : List Int} {sk : List (Int × Int)} (hl : sh.length = sk.length) : (sh.zip sk).all inSkew = true ↔ ∀ i, i < sk.length → (gS sk i).1 ≤ atL sh i ∧ atL sh i ≤ (gS sk i).2 := by
  rw [List.all_eq_true]
  constructor
  · intro h i hi
    have h1 := h (sh[i]'(by omega), sk[i]) (by
      have := List.getElem_mem (l := sh.zip sk) (n := i) (by simp; omega)
      rwa [List.getElem_zip] at this)
    simp only [inSkew, decide_eq_true_eq] at h1
    rw [gS_get hi, atL, List.getD_eq_getElem?_getD, List.getElem?_eq_getElem (by omega)]
    exact h1
  · intro h p hp
    obtain ⟨i, hi, rfl⟩ := List.mem_iff_getElem.1 hp
    simp only [List.length_zip] at hi
    have := h i (by omega)
    rw [gS_get (by omega), atL, List.getD_eq_getElem?_getD, List.getElem?_eq_getElem (by omega)] at this
    rw [List.getElem_zip]
    simp only [inSkew, decide_eq_true_eq]
    exact this
theorem holds_spec {sk : List (Int × Int)} {ev : List Ev} {sh : List Int} : holdsS sk ev sh = true ↔ checkS sk ev = 0 ∧ sh.length = sk.length ∧ Sol sk (edgesS ev) (atL sh) := by
  rw [holdsS]
  simp only [Bool.and_eq_true, decide_eq_true_eq]
  constructor
  · rintro ⟨h1, h2, h3, h4⟩
    refine ⟨h1, h2, (all_zip h2).1 h3, edge_sol.2 fun e he => ?_⟩
    have := List.all_eq_true.1 h4 e he
    simp only [evHolds, decide_eq_true_eq] at this
    simp only [atL]
    omega
  · rintro ⟨h1, h2, h3, h4⟩
    refine ⟨h1, h2, (all_zip h2).2 h3, List.all_eq_true.2 fun e he => ?_⟩
    have := edge_sol.1 h4 e he
    simp only [atL] at this
    simp only [evHolds, decide_eq_true_eq]
    omega

/-! ### Narrow and Witness, program and specification -/
theorem nrw_eq (sk : List (Int × Int)) (ev : List Ev) : nrwP sk ev = nrwS sk ev := by
  rw [nrwP, nrwS]
  by_cases hc : checkS sk ev = 0
  · rw [if_neg (by simp [hc]), if_pos hc]
    obtain ⟨h1, h2, h3, h4⟩ := checkS_zero hc
    rcases solve_spec hc with ⟨a1, a2⟩ | ⟨a1, a2⟩ <;> rcases narrow_spec h4 sk rfl with ⟨b1, b2⟩ | ⟨b1, b2⟩
    · rw [if_pos a1]; exact Prod.ext (a2.uniq b2) b1.symm
    · exact absurd a2.lo (b2 _)
    · exact absurd b2.lo (a2 _)
    · rw [a1, b1, if_neg (by simp)]
  · rw [if_pos hc, if_neg hc]

theorem setS_put {sk : List (Int × Int)} {g : Nat} {s : Int} (h1 : (gS sk g).1 ≤ s) (h2 : s ≤ (gS sk g).2) : setS sk g s = putS sk g s := by
  rw [setS, putS, show max (gS sk g).1 s = s by omega, show min (gS sk g).2 s = s by omega]
theorem sol_set {sk : List (Int × Int)} {es : List Ed} {g : Nat} {s : Int} (hg : g < sk.length) {x : Nat → Int} (h : Sol (setS sk g s) es x) : Sol sk es x ∧ x g = s := by
  have hl : (setS sk g s).length = sk.length := by simp [setS]
  have hx := h.box g (by omega)
  rw [setS, gS_set, if_pos ⟨rfl, hg⟩] at hx
  dsimp only at hx
  refine ⟨⟨fun i hi => ?_, h.ed⟩, by omega⟩
  have := h.box i (by omega)
  rw [setS, gS_set] at this
  split at this
  · rename_i e; obtain ⟨rfl, -⟩ := e; dsimp only at this; omega
  · exact this
theorem wit_eq (sk : List (Int × Int)) (ev : List Ev) (g s : Int) : witP sk ev g s = witS sk ev g s := by
  rw [witP, witS]
  by_cases hc : checkS sk ev = 0
  · have hcn : ¬ checkS sk ev ≠ 0 := by simp [hc]
    rw [if_neg hcn, if_neg hcn]
    obtain ⟨h1, h2, h3, h4⟩ := checkS_zero hc
    by_cases hg : g < 0 ∨ (sk.length : Int) ≤ g
    · rw [if_pos hg, if_pos hg]
    rw [if_neg hg, if_neg hg]
    have hgl : g.toNat < sk.length := by omega
    have hsl : (setS sk g.toNat s).length = sk.length := by simp [setS]
    have hsp := narrow_spec h4 (setS sk g.toNat s) (by rw [hsl])
    by_cases hs : s < (gS sk g.toNat).1 ∨ (gS sk g.toNat).2 < s
    · rw [if_pos hs]
      have hno : ∀ x, ¬ Sol (setS sk g.toNat s) (edgesS ev) x := fun x hx => by
        obtain ⟨q1, q2⟩ := sol_set hgl hx
        have := q1.box g.toNat hgl
        omega
      rcases hsp with ⟨b1, b2⟩ | ⟨b1, b2⟩
      · exact absurd b2.lo (hno _)
      · rw [b1, if_pos (by simp)]
    · rw [if_neg hs]
      rw [setS_put (by omega) (by omega)] at hsp ⊢
      rcases solve_spec (check_put (sk := sk) (ev := ev) (g := g.toNat) (s := s) hc hgl (by omega) (by omega)) with ⟨a1, a2⟩ | ⟨a1, a2⟩ <;> rcases hsp with ⟨b1, b2⟩ | ⟨b1, b2⟩
      · rw [if_pos a1, b1, if_neg (by simp), a2.uniq b2]
      · exact absurd a2.lo (b2 _)
      · exact absurd b2.lo (a2 _)
      · rw [a1, b1, if_neg (by simp), if_pos (by simp)]
  · rw [if_pos hc, if_pos hc]
end Go.Proofs.Ytjfbdffcgapdlaa
