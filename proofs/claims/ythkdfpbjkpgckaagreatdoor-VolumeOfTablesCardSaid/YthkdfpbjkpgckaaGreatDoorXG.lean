/-
  Plain laws: duration tables of the parts of a history.
-/
import Derived.Test.YthkdfpbjkpgckaaGreatDoorXF
set_option linter.unusedVariables false
set_option linter.unusedSimpArgs false
set_option linter.unusedSectionVars false
namespace Go.Proofs.YthkdfpbjkpgckaaGreatDoor
open Go.RowKit Go.Sl Go.Num
/-! ### tables of counts -/
def dsum (g : Int → Rat) : Nat → List Int → Rat
  | _, [] => 0
  | s, n :: r => (n : Rat) * g s + dsum g (s + 1) r
theorem wsum_tabD (g : Int → Rat) : ∀ (l : List Int) (s : Nat), (∀ x ∈ l, 0 ≤ x) → wsum g (tabD s l) = dsum g s l
  | [], _, _ => rfl
  | n :: r, s, h => by
    have ih := wsum_tabD g r (s + 1) fun x hx => h x (List.mem_cons_of_mem _ hx)
    have := h n (List.mem_cons_self ..)
    rw [tabD, dsum]
    split
    · rw [wsum, ih]
    · obtain rfl : n = 0 := by omega
      rw [ih, Rat.intCast_zero]; grind
theorem dsum_add (g : Int → Rat) (a b : Nat → Int) : ∀ (l : List Nat) (s : Nat), dsum g s (l.map fun x => a x + b x) = dsum g s (l.map a) + dsum g s (l.map b)
  | [], _ => by simp [dsum, Rat.add_zero]
  | x :: l, s => by
    simp only [List.map_cons, dsum]
    rw [dsum_add g a b l (s + 1), Rat.intCast_add]; grind
theorem dsum_zero (g : Int → Rat) : ∀ (l : List Nat) (s : Nat), dsum g s (l.map fun _ => 0) = 0
  | [], _ => rfl
  | x :: l, s => by
    simp only [List.map_cons, dsum]
    rw [dsum_zero g l (s + 1), Rat.intCast_zero]; grind
theorem dsum_ind0 (g : Int → Rat) (y : Int) : ∀ (n s : Nat), y < s → dsum g s ((List.range' s n).map fun x : Nat => if y = (x : Int) then 1 else 0) = 0
  | 0, _, _ => rfl
  | n + 1, s, h => by
    rw [List.range'_succ, List.map_cons, dsum, dsum_ind0 g y n (s + 1) (by omega), if_neg (by omega), Rat.intCast_zero]; grind
theorem dsum_ind (g : Int → Rat) (y : Int) : ∀ (n s : Nat), (s : Int) ≤ y → y < s + n → dsum g s ((List.range' s n).map fun x : Nat => if y = (x : Int) then 1 else 0) = g y
  | 0, _, h1, h2 => by omega
  | n + 1, s, h1, h2 => by
    rw [List.range'_succ, List.map_cons, dsum]
    by_cases h : y = s
    · rw [dsum_ind0 g y n (s + 1) (by omega), if_pos h, h]; simp [Rat.add_zero]
    · rw [dsum_ind g y n (s + 1) (by omega) (by omega), if_neg h]; simp [Rat.zero_add]
theorem dsum_nIn (g : Int → Rat) (n : Nat) : ∀ (seg : List Int), (∀ y ∈ seg, 0 ≤ y ∧ y < n) → dsum g 0 ((List.range' 0 n).map fun x : Nat => nIn (x : Int) seg) = segSum g seg
  | [], _ => dsum_zero g _ 0
  | y :: r, h => by
    have h1 := h y (List.mem_cons_self ..)
    rw [segSum, ← dsum_nIn g n r fun z hz => h z (List.mem_cons_of_mem _ hz), ← dsum_ind g y n 0 (by omega) (by omega), ← dsum_add]
    rfl
theorem nIn_nn (seg : List Int) : ∀ x ∈ (List.range 1001).map fun s : Nat => nIn (s : Int) seg, 0 ≤ x := fun x hx => by
  obtain ⟨s, _, rfl⟩ := List.mem_map.1 hx
  exact (nIn_bd _ seg).1
theorem wsum_tabT (g : Int → Rat) {seg : List Int} (h : ∀ y ∈ seg, 0 ≤ y ∧ y ≤ 1000) : wsum g (tabT seg) = segSum g seg := by
  rw [tabT, wsum_tabD g _ 0 (nIn_nn seg), List.range_eq_range']
  exact dsum_nIn g 1001 seg fun y hy => by have := h y hy; omega
theorem segSum_one : ∀ seg : List Int, segSum (fun _ => 1) seg = ((seg.length : Int) : Rat)
  | [] => rfl
  | y :: r => by rw [segSum, segSum_one r, List.length_cons, show ((r.length + 1 : Nat) : Int) = 1 + (r.length : Int) from by omega, Rat.intCast_add]; rfl
theorem wsum_one : ∀ t : List (Int × Int), wsum (fun _ => 1) t = ((sumT t : Int) : Rat)
  | [] => rfl
  | (x, n) :: t => by rw [wsum, wsum_one t, sumT, Rat.intCast_add]; grind
theorem sumT_tabT {seg : List Int} (h : ∀ y ∈ seg, 0 ≤ y ∧ y ≤ 1000) : sumT (tabT seg) = seg.length := by
  have := wsum_tabT (fun _ => 1) h
  rw [wsum_one, segSum_one] at this
  exact Rat.intCast_inj.1 this
theorem tabD_mem : ∀ (l : List Int) (s : Nat) {p : Int × Int}, p ∈ tabD s l → (s : Int) ≤ p.1 ∧ p.1 < s + l.length ∧ 0 < p.2 ∧ p.2 ∈ l
  | [], _, p, h => by cases h
  | n :: r, s, p, h => by
    rw [tabD] at h
    split at h
    · rcases List.mem_cons.1 h with rfl | h
      · rename_i h1
        exact ⟨Int.le_refl _, by rw [List.length_cons]; dsimp only; omega, h1, List.mem_cons_self ..⟩
      · have := tabD_mem r (s + 1) h
        exact ⟨by omega, by rw [List.length_cons]; omega, this.2.2.1, List.mem_cons_of_mem _ this.2.2.2⟩
    · have := tabD_mem r (s + 1) h
      exact ⟨by omega, by rw [List.length_cons]; omega, this.2.2.1, List.mem_cons_of_mem _ this.2.2.2⟩
theorem sorted_tabD : ∀ (l : List Int) (s : Nat) (p : Option (Int × Int)), (∀ q, p = some q → q.1 < (s : Int)) → sortedT p (tabD s l) = true
  | [], _, p, _ => by rw [tabD]; cases p <;> rfl
  | n :: r, s, p, h => by
    rw [tabD]
    split
    · have ih := sorted_tabD r (s + 1) (some ((s : Int), n)) fun q hq => by cases hq; dsimp only; omega
      cases p with
      | none => show (true && sortedT (some ((s : Int), n)) (tabD (s + 1) r)) = true; rw [ih]; rfl
      | some q => show (decide (q.1 < (s : Int)) && sortedT (some ((s : Int), n)) (tabD (s + 1) r)) = true; rw [ih, decide_eq_true (h q rfl)]; rfl
    · exact sorted_tabD r (s + 1) p fun q hq => by have := h q hq; omega
theorem cnt_lt : ∀ (l : List Int) (s : Nat) {x : Int}, x < s → cnt x (tabD s l) = 0
  | [], _, _, _ => rfl
  | n :: r, s, x, h => by
    rw [tabD]
    split
    · rw [cnt, if_neg (by omega), cnt_lt r (s + 1) (by omega)]
    · exact cnt_lt r (s + 1) (by omega)
theorem cnt_ge : ∀ (l : List Int) (s : Nat) {x : Int}, s + (l.length : Int) ≤ x → cnt x (tabD s l) = 0
  | [], _, _, _ => rfl
  | n :: r, s, x, h => by
    rw [List.length_cons] at h
    rw [tabD]
    split
    · rw [cnt, if_neg (by omega), cnt_ge r (s + 1) (by omega)]
    · exact cnt_ge r (s + 1) (by omega)
theorem cnt_at : ∀ (l : List Int) (s i : Nat) (hi : i < l.length), (∀ x ∈ l, 0 ≤ x) → cnt ((s + i : Nat) : Int) (tabD s l) = l[i]
  | n :: r, s, 0, _, h => by
    have := h n (List.mem_cons_self ..)
    rw [tabD, Nat.add_zero]
    split
    · rw [cnt, if_pos rfl]; rfl
    · rw [cnt_lt r (s + 1) (by omega)]; show 0 = n; omega
  | n :: r, s, i + 1, hi, h => by
    have ih := cnt_at r (s + 1) i (by simpa using hi) fun x hx => h x (List.mem_cons_of_mem _ hx)
    rw [show s + 1 + i = s + (i + 1) by omega] at ih
    rw [tabD]
    split
    · rw [cnt, if_neg (by omega), ih]; rfl
    · rw [ih]; rfl
theorem cnt_tabT {seg : List Int} (h : ∀ y ∈ seg, 0 ≤ y ∧ y ≤ 1000) (x : Int) : cnt x (tabT seg) = nIn x seg := by
  have hz : ∀ (l : List Int), (∀ y ∈ l, 0 ≤ y ∧ y ≤ 1000) → (x < 0 ∨ 1000 < x) → nIn x l = 0 := fun l => by
    induction l with
    | nil => intros; rfl
    | cons y r ih =>
      intro h h2
      have := h y (List.mem_cons_self ..)
      rw [nIn, if_neg (by omega), ih (fun z hz => h z (List.mem_cons_of_mem _ hz)) h2]; rfl
  rw [tabT]
  by_cases h1 : x < 0
  · rw [cnt_lt _ 0 (by omega), hz seg h (.inl h1)]
  by_cases h2 : 1000 < x
  · rw [cnt_ge _ 0 (by rw [List.length_map, List.length_range]; omega), hz seg h (.inr h2)]
  have := cnt_at ((List.range 1001).map fun s : Nat => nIn (s : Int) seg) 0 x.toNat (by rw [List.length_map, List.length_range]; omega) (nIn_nn seg)
  rw [Nat.zero_add, List.getElem_map, List.getElem_range, show ((x.toNat : Nat) : Int) = x by omega] at this
  exact this
theorem cnt_fill : ∀ (l : List Int) (s : Nat) (L : List (Int × Int)), (∀ x, (s : Int) ≤ x → cnt x L = 0) → ∀ x, cnt x (fillC L (tabD s l)) = if x < s then cnt x L else cnt x (tabD s l)
  | [], s, L, h, x => by
    rw [tabD, fillC]
    split
    · rfl
    · exact h x (by omega)
  | n :: r, s, L, h, x => by
    rw [tabD]
    split
    · rw [fillC, cnt_fill r (s + 1) (setC s n L) (fun y hy => by rw [cnt_setC, if_neg (by omega)]; exact h y (by omega)) x, cnt_setC, cnt]
      by_cases h1 : x < s
      · rw [if_pos (by omega), if_neg (by omega), if_pos h1]
      · rw [if_neg h1]
        by_cases h2 : x = s
        · rw [if_pos (by omega), if_pos h2, if_pos h2]
        · rw [if_neg (by omega), if_neg h2]
    · rw [cnt_fill r (s + 1) L (fun y hy => h y (by omega)) x]
      by_cases h1 : x < s
      · rw [if_pos (by omega), if_pos h1]
      · rw [if_neg h1]
        split
        · rw [cnt_lt r (s + 1) (by assumption)]; exact h x (by omega)
        · rfl
theorem goC_ok {lo hi : Int} : ∀ (seg : List Int) (C : List (Int × Int)), (∀ x, cnt x C = nIn x seg) → goC false lo hi C seg = true
  | [], _, _ => rfl
  | s :: r, C, h => by
    have h1 := h s
    rw [nIn, if_pos rfl] at h1
    have h2 := nIn_bd s r
    rw [goC, badC, if_neg (by decide), decide_eq_false (by omega), Bool.not_false, Bool.true_and]
    refine goC_ok r _ fun x => ?_
    have h3 := h x
    rw [nIn] at h3
    rw [cnt_setC]
    by_cases hx : x = s
    · subst hx; rw [if_pos rfl]; omega
    · rw [if_neg (by omega)] at h3; rw [if_neg hx]; omega
theorem tabT_ne {seg : List Int} (h : ∀ y ∈ seg, 0 ≤ y ∧ y ≤ 1000) (h0 : 0 < seg.length) : (tabT seg).length ≠ 0 := fun hz => by
  have := sumT_tabT h
  rw [List.length_eq_zero_iff.1 hz, sumT] at this
  omega
theorem tabT_mem {seg : List Int} {p : Int × Int} (hp : p ∈ tabT seg) : (0 ≤ p.1 ∧ p.1 ≤ 1000) ∧ 1 ≤ p.2 ∧ p.2 ≤ seg.length := by
  have := tabD_mem _ 0 hp
  rw [List.length_map, List.length_range] at this
  obtain ⟨s, _, h2⟩ := List.mem_map.1 this.2.2.2
  have := nIn_bd s seg
  omega
theorem agr1_tab {r : Rn} {seg : List Int} (h : ∀ y ∈ seg, 0 ≤ y ∧ y ≤ 1000) (h0 : 0 < seg.length) (ht : r.tab = tabT seg) : agr1 r seg = true := by
  rw [agr1, ht, decide_eq_false (tabT_ne h h0)]
  refine goC_ok seg _ fun x => ?_
  rw [← cnt_tabT h x, tabT, cnt_fill _ 0 [] (fun _ _ => rfl) x]
  split
  · rw [cnt_lt _ 0 (by assumption)]; rfl
  · rfl
theorem oneE_tabT {r : Rn} {seg : List Int} (h : ∀ y ∈ seg, 0 ≤ y ∧ y ≤ 1000) (h0 : 0 < seg.length) (hl : seg.length ≤ 1402560) (ht : r.tab = tabT seg) (h1 : r.to_ = r.from_ + seg.length) (h2 : r.lo = 0) (h3 : r.hi = 0) : oneE r = 0 := by
  rw [oneE, ht, if_neg (tabT_ne h h0), if_neg, if_pos]
  · exact ⟨sorted_tabD _ 0 none (fun q hq => by cases hq), by rw [sumT_tabT h]; omega, h2, h3⟩
  · intro hb
    obtain ⟨p, hp, hb⟩ := List.any_eq_true.1 hb
    have := tabT_mem hp
    rw [badH, decide_eq_true (by omega), decide_eq_true (by omega)] at hb
    cases hb
/-! ### the parts of a history -/
/-- Runs and spans, one for each part of a history from a tick on. -/
def PtL : Int → List Int → List Rn → List Spn → Prop
  | _, hs, [], [] => hs = []
  | f, hs, r :: L, s :: l => ∃ n : Nat, 0 < n ∧ n ≤ hs.length ∧ (r.from_ = f ∧ r.to_ = f + n ∧ r.tab = tabT (hs.take n) ∧ r.lo = 0 ∧ r.hi = 0) ∧ (s.from_ = f ∧ s.to_ = f + n ∧ RightS s ∧ fewS s) ∧ PtL (f + n) (hs.drop n) L l
  | _, _, _, _ => False
theorem PtL.snoc : ∀ {L : List Rn} {l : List Spn} {f : Int} {hs seg : List Int} {r : Rn} {s : Spn}, PtL f hs L l → 0 < seg.length →
    (r.from_ = f + hs.length ∧ r.to_ = f + hs.length + seg.length ∧ r.tab = tabT seg ∧ r.lo = 0 ∧ r.hi = 0) → (s.from_ = f + hs.length ∧ s.to_ = f + hs.length + seg.length ∧ RightS s ∧ fewS s) → PtL f (hs ++ seg) (L ++ [r]) (l ++ [s])
  | [], [], f, hs, seg, r, s, h, h0, h1, h2 => by
    obtain rfl : hs = [] := h
    simp only [List.length_nil, Int.natCast_zero, Int.add_zero] at h1 h2
    exact ⟨seg.length, h0, by simp, by simpa using h1, h2, by simp [PtL]⟩
  | r0 :: L, s0 :: l, f, hs, seg, r, s, ⟨n, k1, k2, k3, k4, k5⟩, h0, h1, h2 => by
    refine ⟨n, k1, by rw [List.length_append]; omega, ?_, k4, ?_⟩
    · rw [List.take_append_of_le_length k2]; exact k3
    · rw [List.drop_append_of_le_length k2]
      have hl : f + n + ((hs.drop n).length : Int) = f + hs.length := by rw [List.length_drop]; omega
      exact PtL.snoc k5 h0 (by rw [hl]; exact h1) (by rw [hl]; exact h2)
  | [], _ :: _, _, _, _, _, _, h, _, _, _ => h.elim
  | _ :: _, [], _, _, _, _, _, h, _, _, _ => h.elim
def tabSum : List Rn → List Spn → Rat
  | r :: L, s :: l => wsum (rateOf s) r.tab + tabSum L l
  | _, _ => 0
theorem worth_late {l : List Spn} {x t st : Int} (h : InOrd x l) (ht : t < x) : worthOf l t st = 0 := by
  rw [worthOf, List.getElem?_eq_none (by rw [h.none ht]; exact Nat.le_refl _)]
theorem volSum_part {s : Spn} {l : List Spn} {f : Int} {n : Nat} (hs : s.from_ = f) (ht : s.to_ = f + n) (h : InOrd f (s :: l)) : ∀ (seg : List Int), seg.length = n → volSum (s :: l) f seg = segSum (rateOf s) seg := fun seg hn => by
  rw [volSum_sep (s :: l) (rateOf s) (fun _ => 0) seg f fun t h1 h2 x _ => ?_]
  · rw [show tS (fun _ => (0 : Rat)) f seg.length = 0 from ?_, Rat.add_zero]
    generalize seg.length = m
    clear hn hs ht h
    induction m generalizing f with
    | zero => rfl
    | succ m ih => rw [tS, ih, Rat.add_zero]
  · rw [worth_cons h, if_pos (by rw [inS, decide_eq_true (by omega), decide_eq_true (by omega)]; rfl), worth_late h.2.2 (by omega)]
theorem volSum_skip {s : Spn} {l : List Spn} {x : Int} (h : InOrd x (s :: l)) : ∀ (hs : List Int) (f : Int), s.to_ ≤ f → volSum (s :: l) f hs = volSum l f hs
  | [], _, _ => rfl
  | y :: r, f, hf => by
    rw [volSum, volSum, volSum_skip h r (f + 1) (by omega), worth_cons h, if_neg (by rw [inS, decide_eq_false (show ¬ f < s.to_ by omega), Bool.and_false]; decide), Rat.zero_add]
structure PtsOk (f : Int) (hs : List Int) (L : List Rn) (l : List Spn) : Prop where
  ord : InOrd f l
  rng : ∀ s ∈ l, (f ≤ s.from_ ∧ s.to_ ≤ f + hs.length) ∧ RightS s ∧ fewS s
  chn : Chn f L
  int : ∀ r ∈ L, inT r = true
  one : ∀ r ∈ L, oneE r = 0
  len : L.length = l.length
  fin : ∀ (h : 0 < L.length), (L[L.length - 1]).to_ = f + hs.length
  nil : L.length = 0 → hs = []
  sep : ∀ r ∈ L, r.tab.length ≠ 0 ∧ f ≤ r.from_ ∧ ∃ s, ∀ t, r.from_ ≤ t → t < r.to_ → ∀ st, worthOf l t st = rateOf s st
  sum : volSum l f (firstS L) = tabSum L l ∧ volSum l f hs = tabSum L l
  tbl : ∀ k (h1 : k < L.length) (h2 : k < l.length), L[k].from_ = l[k].from_ ∧ L[k].to_ = l[k].to_
theorem PtL.ok : ∀ {L : List Rn} {l : List Spn} {f : Int} {hs : List Int}, PtL f hs L l → 0 ≤ f → f + hs.length ≤ 1402560 → (∀ y ∈ hs, 0 ≤ y ∧ y ≤ 1000) → PtsOk f hs L l
  | [], [], f, hs, h, _, _, _ => by
    obtain rfl : hs = [] := h
    exact { ord := trivial, rng := fun s h => by (cases h), chn := trivial, int := fun s h => by (cases h), one := fun s h => by (cases h), len := rfl, fin := fun h => absurd h (Nat.lt_irrefl _), nil := fun _ => rfl, sep := fun s h => by (cases h), sum := ⟨rfl, rfl⟩, tbl := fun k h1 => absurd h1 (Nat.not_lt_zero _) }
  | r :: L, s :: l, f, hs, ⟨n, k1, k2, ⟨a1, a2, a3, a4, a5⟩, ⟨b1, b2, b3, b4⟩, k5⟩, h0, h1, h2 => by
    have hd : ((hs.drop n).length : Int) = hs.length - n := by rw [List.length_drop]; omega
    have ih := PtL.ok k5 (by omega) (by omega) fun y hy => h2 y (List.mem_of_mem_drop hy)
    have hseg : ∀ y ∈ hs.take n, 0 ≤ y ∧ y ≤ 1000 := fun y hy => h2 y (List.mem_of_mem_take hy)
    have hlen : (hs.take n).length = n := by rw [List.length_take]; omega
    have ho : InOrd f (s :: l) := ⟨by omega, by omega, by rw [b2]; exact ih.ord⟩
    have h1e : oneE r = 0 := oneE_tabT hseg (by omega) (by omega) a3 (by rw [hlen]; omega) a4 a5
    have hin : inT r = true := decide_eq_true (by omega)
    have hne : r.tab.length ≠ 0 := by rw [a3]; exact tabT_ne hseg (by omega)
    have hst : stagesR r = tabS r.tab := by rw [stagesR, if_neg hne]
    have hsl : (stagesR r).length = n := by have := stagesR_len hin h1e; omega
    have hpos : ∀ x ∈ r.tab, 1 ≤ x.2 := fun x hx => by rw [a3] at hx; exact (tabT_mem hx).2.1
    exact {
      ord := ho
      rng := fun x hx => by
        rcases List.mem_cons.1 hx with rfl | hx
        · exact ⟨⟨by omega, by omega⟩, b3, b4⟩
        · have := ih.rng x hx; exact ⟨⟨by omega, by omega⟩, this.2⟩
      chn := ⟨a1, by rw [a2]; exact ih.chn⟩
      int := fun x hx => by
        rcases List.mem_cons.1 hx with rfl | hx
        · exact hin
        · exact ih.int x hx
      one := fun x hx => by
        rcases List.mem_cons.1 hx with rfl | hx
        · exact h1e
        · exact ih.one x hx
      len := by rw [List.length_cons, List.length_cons, ih.len]
      fin := fun h => by
        rcases Nat.eq_zero_or_pos L.length with hz | hz
        · have := ih.nil hz
          have hd2 := hd
          rw [this, List.length_nil] at hd2
          obtain rfl := List.length_eq_zero_iff.1 hz
          show r.to_ = _
          omega
        · have := ih.fin hz
          have e : ((r :: L)[(r :: L).length - 1]'(by rw [List.length_cons]; omega)) = L[L.length - 1] := by
            simp only [List.length_cons, Nat.add_sub_cancel]
            rw [List.getElem_cons, dif_neg (by omega)]
          rw [e, this]; omega
      nil := fun h => by rw [List.length_cons] at h; omega
      sep := fun x hx => by
        rcases List.mem_cons.1 hx with rfl | hx
        · exact ⟨hne, by omega, s, fun t t1 t2 st => by rw [worth_cons ho, if_pos (by rw [inS, decide_eq_true (by omega), decide_eq_true (by omega)]; rfl), worth_late ho.2.2 (by omega), Rat.add_zero]⟩
        · obtain ⟨c1, c2, s1, c3⟩ := ih.sep x hx
          exact ⟨c1, by omega, s1, fun t t1 t2 st => by rw [worth_cons ho, if_neg (by rw [inS, decide_eq_false (show ¬ t < s.to_ by omega), Bool.and_false]; decide), Rat.zero_add]; exact c3 t t1 t2 st⟩
      sum := by
        have e1 : volSum (s :: l) f (stagesR r) = wsum (rateOf s) r.tab := by rw [volSum_part b1 b2 ho _ hsl, hst, segSum_tab _ _ hpos]
        have e2 : volSum (s :: l) f (hs.take n) = wsum (rateOf s) r.tab := by rw [volSum_part b1 b2 ho _ hlen, a3, wsum_tabT _ hseg]
        constructor
        · rw [firstS, volSum_app, e1, hsl, volSum_skip ho _ _ (by omega), ih.sum.1, tabSum]
        · conv => lhs; rw [← List.take_append_drop n hs]
          rw [volSum_app, e2, hlen, volSum_skip ho _ _ (by omega), ih.sum.2, tabSum]
      tbl := fun k q1 q2 => by
        cases k with
        | zero => exact ⟨by show r.from_ = s.from_; omega, by show r.to_ = s.to_; omega⟩
        | succ k => exact ih.tbl k (by simpa using q1) (by simpa using q2) }
  | [], _ :: _, _, _, h, _, _, _ => h.elim
  | _ :: _, [], _, _, h, _, _, _ => h.elim
theorem PtL.agr {f0 : Int} {hs0 : List Int} (h3 : ∀ y ∈ hs0, 0 ≤ y ∧ y ≤ 1000) : ∀ {L : List Rn} {l : List Spn} {d : Nat}, PtL (f0 + d) (hs0.drop d) L l → agrL f0 hs0 L = true
  | [], [], _, _ => rfl
  | r :: L, s :: l, d, ⟨n, k1, k2, ⟨a1, a2, a3, a4, a5⟩, _, k5⟩ => by
    rw [agrL, show (r.from_ - f0).toNat = d by omega, show (r.to_ - r.from_).toNat = n by omega]
    rw [agr1_tab (seg := (hs0.drop d).take n) (fun y hy => h3 y (List.mem_of_mem_drop (List.mem_of_mem_take hy))) (by rw [List.length_take]; omega) a3, Bool.true_and]
    refine PtL.agr h3 (l := l) (d := d + n) ?_
    rw [List.drop_drop] at k5
    rw [show f0 + ((d + n : Nat) : Int) = f0 + d + n by omega]
    exact k5
  | [], _ :: _, _, h => h.elim
  | _ :: _, [], _, h => h.elim
section
variable {f : Int} {hs : List Int} {L : List Rn} {l : List Spn} (h : PtsOk f hs L l) (hf : 0 ≤ f) (hn : hs.length ≤ 1000) (hb : f + hs.length ≤ 1402560) (hL : L.length ≤ 100)
include h hf hn hb hL
theorem PtsOk.runs : runsErr L = 0 := by
  rw [runsErr, if_neg (by omega), rnErr_chn h.chn (fun q hq => by cases hq) h.int h.one, if_neg (by decide), if_neg]
  rw [lenT]
  rcases Nat.eq_zero_or_pos L.length with hz | hz
  · rw [List.getElem?_eq_none (by omega)]; exact (by decide : ¬ (40000 : Int) < 0)
  · rw [List.getElem?_eq_getElem hz, List.getElem?_eq_getElem (show L.length - 1 < L.length by omega)]
    have := (h.sep _ (List.getElem_mem hz)).2.1
    have := h.fin hz
    dsimp only
    omega
theorem PtsOk.spans : spansErr l = 0 := by
  rw [spansErr, if_neg (by have := h.len; omega)]
  exact spErr_iff.2 ⟨fun s hs => (h.rng s hs).2.1, h.ord.mono hf⟩
theorem PtsOk.fewS : ∀ s ∈ l, Proofs.YthkdfpbjkpgckaaGreatDoor.fewS s := fun s hs => (h.rng s hs).2.2
theorem PtsOk.right : ∀ s ∈ l, RightS s := fun s hs => (h.rng s hs).2.1
theorem PtsOk.takeB : ∀ r ∈ L, takeB l r := fun r hr => by
  rw [takeB_iff (h.int r hr) h.ord (fun s hs => (h.rng s hs).2.1)]
  obtain ⟨h1, _, s, h3⟩ := h.sep r hr
  have h4 := h.int r hr
  rw [inT, decide_eq_true_eq] at h4
  rintro (⟨h2, _⟩ | ⟨_, k, h0, hk, _, j, _, hj, hne⟩)
  · exact h1 h2
  · rw [h3 _ (Int.le_refl _) (by omega), h3 _ (by omega) hj, h3 _ (Int.le_refl _) (by omega), h3 _ (by omega) hj] at hne
    exact hne (Rat.add_comm _ _)
theorem PtsOk.exact : exE L l = (rQ (tabSum L l), 0) := by
  rw [exE, h.runs hf hn hb hL, if_neg (by decide), h.spans hf hn hb hL, if_neg (by decide), if_neg, if_pos (h.takeB hf hn hb hL), takeS_eq h.ord (h.right hf hn hb hL) L f h.chn h.int h.one (h.takeB hf hn hb hL), h.sum.1]
  intro hx
  obtain ⟨s, hs1, hs2⟩ := List.any_eq_true.1 hx
  have h1 := (h.rng s hs1).1
  have hz : 0 < L.length := by rw [h.len]; exact List.length_pos_of_mem hs1
  rw [outX, List.getElem?_eq_getElem hz, List.getElem?_eq_getElem (show L.length - 1 < L.length by omega)] at hs2
  have h2 := h.fin hz
  have h3 : L[0].from_ = f := by
    have := h.chn
    cases L with
    | nil => cases hz
    | cons r t => exact this.1
  dsimp only at hs2
  rw [Bool.or_eq_true, decide_eq_true_eq, decide_eq_true_eq] at hs2
  omega
theorem PtsOk.value (hr : ∀ y ∈ hs, 0 ≤ y ∧ y ≤ 1000) : volE f hs l = (rQ (tabSum L l), 0) := by
  have h2 : rightH f hs = true := by
    rw [rightH, decide_eq_true (by omega), Bool.true_and]
    have h3 : hs.any badSt = false := List.any_eq_false.2 fun y hy => by rw [badSt, decide_eq_true (hr y hy)]; decide
    rw [h3]; rfl
  rw [volE, h.spans hf hn hb hL, if_neg (by decide), h2, if_neg (by decide), if_neg, h.sum.2]
  intro hx
  obtain ⟨s, hs1, hs2⟩ := List.any_eq_true.1 hx
  have h1 := (h.rng s hs1).1
  rw [outH, Bool.or_eq_true, decide_eq_true_eq, decide_eq_true_eq] at hs2
  omega
theorem PtsOk.table (k : Nat) (h1 : k < L.length) (h2 : k < l.length) : tableE L[k] l[k] = (rQ (wsum (rateOf l[k]) L[k].tab), 0) := by
  have k1 := h.int _ (List.getElem_mem h1)
  have k2 := h.one _ (List.getElem_mem h1)
  have k3 := (h.sep _ (List.getElem_mem h1)).1
  have k4 := (h.rng _ (List.getElem_mem h2)).2.1
  have k5 := h.tbl k h1 h2
  have k8 := h.runs hf hn hb hL
  have k6 : runsErr [L[k]] = 0 := by
    rw [runsErr, if_neg (by simp), rnErr_chn (L := [L[k]]) (p := none) (f := L[k].from_) ⟨rfl, trivial⟩ (fun q hq => by cases hq) (fun r hr => by rw [List.mem_singleton.1 hr]; exact k1) (fun r hr => by rw [List.mem_singleton.1 hr]; exact k2), if_neg (by decide), if_neg]
    have k7 := (h.sep _ (List.getElem_mem h1)).2.1
    have k9 := (h.rng _ (List.getElem_mem h2)).1
    show ¬ 40000 < L[k].to_ - L[k].from_
    omega
  rw [tableE, k6, if_neg (by decide), if_neg (fun h => h k4), if_neg (by omega), if_neg k3]
end
theorem tabSum_drop : ∀ (k : Nat) (L : List Rn) (l : List Spn) (h1 : k < L.length) (h2 : k < l.length), tabSum (L.drop k) (l.drop k) = wsum (rateOf l[k]) L[k].tab + tabSum (L.drop (k + 1)) (l.drop (k + 1))
  | k, L, l, h1, h2 => by
    rw [List.drop_eq_getElem_cons h1, List.drop_eq_getElem_cons h2, tabSum]
theorem fewQ_seg {s : Spn} (hf : fewS s) (hR : RightS s) : ∀ (hs : List Int), (∀ x ∈ hs, 0 ≤ x ∧ x ≤ 1000) → fewQ (1 + 141 * hs.length) (rQ (segSum (rateOf s) hs))
  | [], _ => fewQ_zero
  | x :: hs, h => by
    have h1 := fewQ_seg hf hR hs fun y hy => h y (List.mem_cons_of_mem _ hy)
    have h2 := h x (List.mem_cons_self ..)
    rw [segSum]
    exact fewQ_le (fewQ_add (fewQ_rate hf hR h2.1 h2.2) h1 (by decide) (by omega)) (by rw [List.length_cons]; omega)
theorem PtL.few : ∀ {L : List Rn} {l : List Spn} {f : Int} {hs : List Int}, PtL f hs L l → (∀ y ∈ hs, 0 ≤ y ∧ y ≤ 1000) → ∀ k (h1 : k < L.length) (h2 : k < l.length), fewQ (1 + 141 * hs.length) (rQ (wsum (rateOf l[k]) L[k].tab)) ∧ L[k].tab.length ≤ hs.length
  | r :: L, s :: l, f, hs, ⟨n, k1, k2, ⟨a1, a2, a3, a4, a5⟩, ⟨b1, b2, b3, b4⟩, k5⟩, h, k, h1, h2 => by
    cases k with
    | zero =>
      have hseg : ∀ y ∈ hs.take n, 0 ≤ y ∧ y ≤ 1000 := fun y hy => h y (List.mem_of_mem_take hy)
      have := fewQ_seg b4 b3 (hs.take n) hseg
      show fewQ _ (rQ (wsum (rateOf s) r.tab)) ∧ r.tab.length ≤ _
      rw [a3]
      refine ⟨by rw [wsum_tabT _ hseg]; exact fewQ_le this (by rw [List.length_take]; omega), ?_⟩
      have hq : ∀ t : List (Int × Int), (∀ p ∈ t, 1 ≤ p.2) → (t.length : Int) ≤ sumT t := fun t => by
        induction t with
        | nil => intro _; exact Int.le_refl _
        | cons p t ih =>
          intro hp
          have := ih fun x hx => hp x (List.mem_cons_of_mem _ hx)
          have := hp p (List.mem_cons_self ..)
          rw [List.length_cons, sumT]; omega
      have := hq (tabT (hs.take n)) fun p hp => (tabT_mem hp).2.1
      rw [sumT_tabT hseg, List.length_take] at this
      omega
    | succ k =>
      have := PtL.few k5 (fun y hy => h y (List.mem_of_mem_drop hy)) k (by simpa using h1) (by simpa using h2)
      rw [List.length_drop] at this
      exact ⟨fewQ_le this.1 (by omega), Nat.le_trans this.2 (Nat.sub_le _ _)⟩
  | [], _ :: _, _, _, h, _, _, _, _ => h.elim
  | _ :: _, [], _, _, h, _, _, _, _ => h.elim
end Go.Proofs.YthkdfpbjkpgckaaGreatDoor
