/-
  Plain laws: the volume of cut and of scaled spans, and of the raw runs of a history.
-/
import Derived.Test.YthkdfpbjkpgckaaGreatDoorM10
set_option linter.unusedVariables false
set_option linter.unusedSimpArgs false
set_option linter.unusedSectionVars false
namespace Go.Proofs.YthkdfpbjkpgckaaGreatDoor
open Go.RowKit Go.Sl Go.Num
theorem spErr_iff {l : List Spn} {z : Int} : spErr z l = 0 ↔ (∀ s ∈ l, RightS s) ∧ InOrd z l := by
  constructor
  · exact fun h => ⟨spErr_ok h, inOrd_of h⟩
  · induction l generalizing z with
    | nil => exact fun _ => rfl
    | cons s l ih =>
      rintro ⟨h1, h2, h3, h4⟩
      have h5 := h1 s (List.mem_cons_self ..)
      rw [spErr, if_neg (by simp [h5]; omega)]
      exact ih ⟨fun t ht => h1 t (List.mem_cons_of_mem _ ht), h4⟩
theorem InOrd.cut {x y : Int} : ∀ {l : List Spn} {z : Int}, InOrd z l → InOrd z (cutL x y l)
  | [], _, _ => trivial
  | s :: l, z, h => by
    have h1 := InOrd.cut (x := x) (y := y) h.2.2
    have := h.1
    have := h.2.1
    rw [cutL]
    split
    · rename_i hc
      exact ⟨by show z ≤ max s.from_ x; omega, hc, h1.mono (by show min s.to_ y ≤ s.to_; omega)⟩
    · exact h1.mono (by omega)
theorem right_cut {x y : Int} (hx : 0 ≤ x) : ∀ {l : List Spn}, (∀ s ∈ l, RightS s) → ∀ s ∈ cutL x y l, RightS s
  | [], _, s, hs => by cases hs
  | s0 :: l, h, s, hs => by
    have h1 := right_cut (x := x) (y := y) hx fun t ht => h t (List.mem_cons_of_mem s0 ht)
    have h2 := h s0 (List.mem_cons_self ..)
    rw [cutL] at hs
    split at hs
    · rename_i hc
      rcases List.mem_cons.1 hs with rfl | hs
      · refine ⟨⟨?_, hc, ?_, h2.1.2.2.2⟩, h2.2⟩
        · have := h2.1.1; show 0 ≤ max s0.from_ x; omega
        · have := h2.1.2.2.1; show min s0.to_ y ≤ 1402560; omega
      · exact h1 s hs
    · exact h1 s hs
theorem spansErr_cut {x y : Int} {l : List Spn} (hx : 0 ≤ x) (h : spansErr l = 0) : spansErr (cutL x y l) = 0 := by
  have ⟨h1, h2⟩ := spansErr_ok h
  rw [spansErr] at h ⊢
  rw [if_neg (by omega)] at h
  rw [if_neg (by have := cutL_len (x := x) (y := y) l; omega)]
  exact spErr_iff.2 ⟨right_cut hx h2, (inOrd_of h).cut⟩
theorem cutL_in {x y : Int} : ∀ {l : List Spn}, ∀ s ∈ cutL x y l, x ≤ s.from_ ∧ s.to_ ≤ y ∧ ∃ s0 ∈ l, s0.from_ ≤ s.from_ ∧ s.to_ ≤ s0.to_
  | [], s, hs => by cases hs
  | s0 :: l, s, hs => by
    have key : s ∈ cutL x y l → x ≤ s.from_ ∧ s.to_ ≤ y ∧ ∃ s1 ∈ s0 :: l, s1.from_ ≤ s.from_ ∧ s.to_ ≤ s1.to_ := fun h => let ⟨g1, g2, s1, g3, g4⟩ := cutL_in s h; ⟨g1, g2, s1, List.mem_cons_of_mem _ g3, g4⟩
    rw [cutL] at hs
    split at hs
    · rcases List.mem_cons.1 hs with rfl | hs
      · refine ⟨?_, ?_, s0, List.mem_cons_self .., ?_, ?_⟩
        · show x ≤ max s0.from_ x; omega
        · show min s0.to_ y ≤ y; omega
        · show s0.from_ ≤ max s0.from_ x; omega
        · show min s0.to_ y ≤ s0.to_; omega
      · exact key hs
    · exact key hs
theorem inS_cut (x y t : Int) (s : Spn) : inS t (cutS x y s) = (decide (max s.from_ x ≤ t) && decide (t < min s.to_ y)) := rfl
theorem worth_nil (t st : Int) : worthOf [] t st = 0 := rfl
theorem worth_cut {x y t st : Int} : ∀ {l : List Spn} {z : Int}, InOrd z l → worthOf (cutL x y l) t st = if x ≤ t ∧ t < y then worthOf l t st else 0
  | [], _, _ => by rw [cutL, worth_nil]; split <;> rfl
  | s :: l, z, h => by
    have ih := worth_cut (x := x) (y := y) (t := t) (st := st) h.2.2
    have hI := h.cut (x := x) (y := y)
    rw [worth_cons h]
    rw [cutL] at hI ⊢
    split
    · rename_i hc
      rw [if_pos hc] at hI
      rw [worth_cons hI, ih, show rateOf (cutS x y s) st = rateOf s st from rfl]
      by_cases hxy : x ≤ t ∧ t < y
      · have e : inS t (cutS x y s) = inS t s := by
          rw [Bool.eq_iff_iff, inS_cut, inS]
          simp only [Bool.and_eq_true, decide_eq_true_eq]
          constructor <;> intro h <;> omega
        rw [if_pos hxy, if_pos hxy, e]
      · rw [if_neg hxy, if_neg hxy, if_neg (by simp only [inS_cut, Bool.and_eq_true, decide_eq_true_eq]; intro h; omega), Rat.add_zero]
    · rename_i hc
      rw [ih]
      by_cases hxy : x ≤ t ∧ t < y
      · rw [if_pos hxy, if_pos hxy, if_neg (by simp [inS]; omega), Rat.zero_add]
      · rw [if_neg hxy, if_neg hxy]
theorem volSum_cut {m y z : Int} {l : List Spn} (h : InOrd z l) : ∀ (hs : List Int) (f : Int), 0 ≤ f → f + hs.length ≤ y → volSum (cutL 0 m l) f hs + volSum (cutL m y l) f hs = volSum l f hs
  | [], f, _, _ => by simp only [volSum]; exact Rat.add_zero _
  | x :: hs, f, h1, h2 => by
    rw [List.length_cons] at h2
    have ih := volSum_cut (m := m) (y := y) h hs (f + 1) (by omega) (by omega)
    rw [volSum, volSum, volSum, worth_cut h, worth_cut h, ← ih]
    by_cases hm : f < m
    · rw [if_pos ⟨h1, hm⟩, if_neg (by omega)]; grind
    · rw [if_neg (by omega), if_pos (by omega)]; grind
/-! ### scaled spans -/
theorem InOrd.scale {q : Rat} : ∀ {l : List Spn} {z : Int}, InOrd z l → InOrd z (l.map (scaleS q))
  | [], _, _ => trivial
  | s :: l, _, h => ⟨h.1, h.2.1, InOrd.scale h.2.2⟩
theorem rate_scale (q : Rat) (s : Spn) (st : Int) : rateOf (scaleS q s) st = rateOf s st * q := by
  show qR (rQ (qR s.wt * q)) * curveFlow s.pts (st + s.dat) = qR s.wt * curveFlow s.pts (st + s.dat) * q
  rw [qR_rQ]; grind
theorem worth_scale {q : Rat} {t st : Int} : ∀ {l : List Spn} {z : Int}, InOrd z l → worthOf (l.map (scaleS q)) t st = worthOf l t st * q
  | [], _, _ => by rw [List.map_nil, worth_nil]; grind
  | s :: l, z, h => by
    have hI := h.scale (q := q)
    rw [List.map_cons] at hI ⊢
    rw [worth_cons h, worth_cons hI, worth_scale h.2.2, rate_scale, show inS t (scaleS q s) = inS t s from rfl]
    split <;> grind
theorem volSum_scale {q : Rat} {l : List Spn} {z : Int} (h : InOrd z l) : ∀ (hs : List Int) (f : Int), volSum (l.map (scaleS q)) f hs = volSum l f hs * q
  | [], _ => by rw [volSum, volSum]; grind
  | x :: hs, f => by rw [volSum, volSum, volSum_scale h hs (f + 1), worth_scale h]; grind
theorem spansErr_scale {q : Rat} {l : List Spn} (h : spansErr l = 0) : spansErr (l.map (scaleS q)) = 0 := by
  have ⟨h1, h2⟩ := spansErr_ok h
  rw [spansErr] at h ⊢
  rw [if_neg (by omega)] at h
  rw [if_neg (by rw [List.length_map]; omega)]
  refine spErr_iff.2 ⟨fun s hs => ?_, (inOrd_of h).scale⟩
  obtain ⟨s0, h3, rfl⟩ := List.mem_map.1 hs
  have h4 := h2 s0 h3
  exact ⟨h4.1, rQ_valid _, h4.2.2⟩
/-! ### raw runs -/
/-- Runs of one stage that follow one another from f to e. -/
def Chq : Int → List (Int × Int × Int) → Int → Prop
  | f, [], e => f = e
  | f, p :: t, e => p.1 = f ∧ f < p.2.1 ∧ Chq p.2.1 t e
def exS : List (Int × Int × Int) → List Int
  | [] => []
  | p :: t => List.replicate (p.2.1 - p.1).toNat p.2.2 ++ exS t
theorem Chq.app : ∀ {o : List (Int × Int × Int)} {f e : Int} {p : Int × Int × Int}, Chq f (o ++ [p]) e ↔ Chq f o p.1 ∧ p.1 < p.2.1 ∧ p.2.1 = e
  | [], f, e, p => by
    simp only [List.nil_append, Chq]
    constructor
    · rintro ⟨rfl, h2, h3⟩; exact ⟨rfl, h2, h3⟩
    · rintro ⟨rfl, h2, h3⟩; exact ⟨rfl, h2, h3⟩
  | q :: o, f, e, p => by
    simp only [List.cons_append, Chq, Chq.app (o := o), and_assoc]
theorem exS_app : ∀ (o : List (Int × Int × Int)) (t : List (Int × Int × Int)), exS (o ++ t) = exS o ++ exS t
  | [], _ => rfl
  | p :: o, t => by rw [List.cons_append, exS, exS, exS_app o t, List.append_assoc]
theorem ofStep_ok {o : List (Int × Int × Int)} {f k s : Int} (h : Chq f o k) : Chq f (ofStep o k s) (k + 1) ∧ exS (ofStep o k s) = exS o ++ [s] := by
  rcases nil_or_snoc o with rfl | ⟨o, p, rfl⟩
  · obtain rfl : f = k := h
    refine ⟨⟨rfl, by show f < f + 1; omega, rfl⟩, ?_⟩
    show List.replicate (f + 1 - f).toNat s ++ [] = [s]
    rw [show (f + 1 - f).toNat = 1 from by omega]; rfl
  · obtain ⟨h1, h2, h3⟩ := Chq.app.1 h
    rw [ofStep, List.getLast?_concat]
    dsimp only
    split
    · rename_i hs
      rw [List.dropLast_concat]
      refine ⟨Chq.app.2 ⟨h1, by show p.1 < k + 1; omega, rfl⟩, ?_⟩
      rw [exS_app, exS_app, exS, exS, exS, exS, hs, List.append_nil, List.append_nil, List.append_assoc]
      congr 1
      dsimp only
      rw [show (k + 1 - p.1).toNat = (p.2.1 - p.1).toNat + 1 from by omega, List.replicate_succ']
    · refine ⟨Chq.app.2 ⟨h, by show k < k + 1; omega, rfl⟩, ?_⟩
      rw [exS_app (o ++ [p]), exS, exS, List.append_nil]
      congr 1
      show List.replicate (k + 1 - k).toNat s = [s]
      rw [show (k + 1 - k).toNat = 1 from by omega]; rfl
theorem ofL_ok : ∀ {hs : List Int} {o : List (Int × Int × Int)} {f k : Int}, Chq f o k → Chq f (ofL k hs o) (k + hs.length) ∧ exS (ofL k hs o) = exS o ++ hs
  | [], o, f, k, h => by rw [ofL, List.append_nil]; exact ⟨by simpa using h, rfl⟩
  | s :: hs, o, f, k, h => by
    have ⟨h1, h2⟩ := ofStep_ok (s := s) h
    have ⟨h3, h4⟩ := ofL_ok (hs := hs) h1
    rw [ofL, List.length_cons, h4, h2, List.append_assoc]
    exact ⟨by rw [show k + ((hs.length + 1 : Nat) : Int) = k + 1 + hs.length from by omega]; exact h3, rfl⟩
/-- What raw runs are: in order, each of one stage between 0 and 1000, and together the stages. -/
theorem raw_ok : ∀ {L : List Rn} {f e : Int}, Chq f (L.map key) e → (∀ r ∈ L, rawR r (stg r)) → Chn f L ∧ f ≤ e ∧ firstS L = exS (L.map key) ∧ ((exS (L.map key)).length : Int) = e - f ∧ (∀ r ∈ L, f ≤ r.from_ ∧ r.from_ < r.to_ ∧ r.to_ ≤ e) ∧ ∀ r ∈ L, stg r ∈ exS (L.map key)
  | [], f, e, h, _ => by
    obtain rfl : f = e := h
    exact ⟨trivial, Int.le_refl _, rfl, by show (0 : Int) = f - f; omega, fun r hr => (by cases hr), fun r hr => (by cases hr)⟩
  | r :: L, f, e, h, hr => by
    obtain ⟨h1, h2, h3⟩ := h
    have ⟨g1, g2, g3, g4, g5, g6⟩ := raw_ok (L := L) h3 fun x hx => hr x (List.mem_cons_of_mem _ hx)
    have ⟨k1, k2, k3⟩ := hr r (List.mem_cons_self ..)
    dsimp only [key] at h1 h2 h3 g1 g2 g4 g5
    refine ⟨⟨h1, g1⟩, by omega, ?_, ?_, ?_, ?_⟩
    · rw [firstS, g3, List.map_cons, exS, stagesR, if_neg (by rw [k1]; exact Nat.succ_ne_zero _), k1, tabS_cons]
      show (_ ++ []) ++ _ = _
      rw [List.append_nil]; rfl
    · rw [List.map_cons, exS, List.length_append, List.length_replicate]
      dsimp only [key]
      omega
    · intro x hx
      rcases List.mem_cons.1 hx with rfl | hx
      · exact ⟨by omega, by omega, by omega⟩
      · have := g5 x hx; omega
    · intro x hx
      rw [List.map_cons, exS, List.mem_append]
      rcases List.mem_cons.1 hx with rfl | hx
      · left
        rw [List.mem_replicate]
        exact ⟨by dsimp only [key]; omega, rfl⟩
      · exact .inr (g6 x hx)
theorem oneE_raw {r : Rn} (h : rawR r (stg r)) (h1 : 0 ≤ stg r ∧ stg r ≤ 1000) (h2 : 0 ≤ r.from_ ∧ r.from_ < r.to_ ∧ r.to_ ≤ 1402560) : oneE r = 0 := by
  obtain ⟨k1, k2, k3⟩ := h
  rw [oneE, k1, if_neg (by exact Nat.succ_ne_zero _)]
  rw [if_neg (by simp [badH]; omega), if_pos ⟨rfl, by simp [sumT], k2, k3⟩]
theorem rnErr_chn : ∀ {L : List Rn} {p : Option Rn} {f : Int}, Chn f L → (∀ q, p = some q → q.to_ = f) → (∀ r ∈ L, inT r = true) → (∀ r ∈ L, oneE r = 0) → rnErr p L = 0
  | [], _, _, _, _, _, _ => rfl
  | r :: L, p, f, h, hp, h1, h2 => by
    have m := List.mem_cons_self (a := r) (l := L)
    have h3 := rnErr_chn (p := some r) h.2 (fun q hq => by cases hq; rfl) (fun x hx => h1 x (List.mem_cons_of_mem _ hx)) fun x hx => h2 x (List.mem_cons_of_mem _ hx)
    have h4 := h1 r m
    have h5 := h2 r m
    have h6 := h.1
    cases p with
    | none =>
      show (if inT r = false then (3 : Int) else if false = true then 1 else if oneE r ≠ 0 then oneE r else rnErr (some r) L) = 0
      rw [h4, if_neg (by decide), if_neg (by decide), h5, if_neg (by decide)]; exact h3
    | some q =>
      have h7 := hp q rfl
      show (if inT r = false then (3 : Int) else if decide (r.from_ ≠ q.to_) = true then 1 else if oneE r ≠ 0 then oneE r else rnErr (some r) L) = 0
      rw [h4, if_neg (by decide), if_neg (by simp; omega), h5, if_neg (by decide)]; exact h3
theorem takeB_raw {l : List Spn} {r : Rn} (h : rawR r (stg r)) : takeB l r := by
  unfold takeB okE
  rw [h.1]
  intro e _ x hx
  rw [List.mem_singleton.1 hx]
theorem raw_ex {f : Int} {hs : List Int} {l : List Spn} {L : List Rn} (hL : RawsOf L (ofL f hs [])) (hn : L.length ≤ 1000) (h : (volE f hs l).2 = 0) : exE L l = volE f hs l := by
  rw [volE] at h ⊢
  split at h
  · rename_i h1; exact absurd h h1
  rename_i h1
  split at h
  · cases h
  rename_i h2
  split at h
  · cases h
  rename_i h3
  rw [Decidable.not_not] at h1
  rw [Bool.not_eq_false] at h2
  rw [if_neg (fun e => e h1), if_neg (by rw [h2]; exact Bool.false_ne_true.symm), if_neg h3]
  obtain ⟨j1, j2⟩ := rightH_ok h2
  have ⟨q1, q2⟩ := ofL_ok (hs := hs) (o := []) (f := f) (k := f) rfl
  rw [← hL.1] at q1 q2
  have ⟨g1, g2, g3, g4, g5, g6⟩ := raw_ok q1 hL.2
  rw [show exS [] ++ hs = hs from rfl] at q2
  have hT : ∀ r ∈ L, inT r = true := fun r hr => by have := g5 r hr; rw [inT, decide_eq_true_eq]; omega
  have hO : ∀ r ∈ L, oneE r = 0 := fun r hr => by
    have := g5 r hr
    have h5 := g6 r hr
    rw [q2] at h5
    obtain ⟨i, hi, h6⟩ := List.getElem_of_mem h5
    exact oneE_raw (hL.2 r hr) (h6 ▸ j2 i hi) (by omega)
  have ⟨_, hR⟩ := spansErr_ok h1
  have hl : InOrd 0 l := inOrd_of (by rw [spansErr] at h1; split at h1 <;> first | cases h1 | exact h1)
  have hE : runsErr L = 0 := by
    rw [runsErr, if_neg (by omega), rnErr_chn g1 (fun q hq => by cases hq) hT hO, if_neg (by decide), if_neg]
    rw [lenT]
    rcases Nat.eq_zero_or_pos L.length with hz | hz
    · rw [List.getElem?_eq_none (by omega)]; exact (by decide : ¬ (40000 : Int) < 0)
    · rw [List.getElem?_eq_getElem hz, List.getElem?_eq_getElem (show L.length - 1 < L.length by omega)]
      have := g5 _ (List.getElem_mem hz)
      have := g5 _ (List.getElem_mem (show L.length - 1 < L.length by omega))
      dsimp only
      omega
  rw [exE, hE, if_neg (by decide), h1, if_neg (by decide), if_neg, if_pos (fun r hr => takeB_raw (hL.2 r hr)), takeS_eq hl hR L f g1 hT hO (fun r hr => takeB_raw (hL.2 r hr)), g3, q2]
  intro hx
  obtain ⟨s, hs1, hs2⟩ := List.any_eq_true.1 hx
  have h6 : ¬ outH f hs.length s = true := fun h => h3 (List.any_eq_true.2 ⟨s, hs1, h⟩)
  simp only [outH, Bool.or_eq_true, decide_eq_true_eq, not_or] at h6
  have h7 := (hR s hs1).1
  rcases Nat.eq_zero_or_pos L.length with hz | hz
  · obtain rfl := List.length_eq_zero_iff.1 hz
    have : f = f + hs.length := q1
    omega
  · have e1 := firstS_end L f hz g1 hT hO
    rw [g3] at e1
    have e2 : (L[0]).from_ = f := by
      cases L with
      | nil => exact absurd hz (Nat.lt_irrefl _)
      | cons r t => exact g1.1
    rw [outX, List.getElem?_eq_getElem hz, List.getElem?_eq_getElem (show L.length - 1 < L.length by omega)] at hs2
    simp only [Bool.or_eq_true, decide_eq_true_eq] at hs2
    omega
/-- The volumes of the two parts, and of the scaled spans. -/
theorem volE_ok {f : Int} {hs : List Int} {l : List Spn} (h : (volE f hs l).2 = 0) : spansErr l = 0 ∧ rightH f hs = true ∧ l.any (outH f hs.length) = false ∧ volE f hs l = (rQ (volSum l f hs), 0) := by
  rw [volE] at h ⊢
  split at h
  · rename_i h1; exact absurd h h1
  rename_i h1
  split at h
  · cases h
  rename_i h2
  split at h
  · cases h
  rename_i h3
  rw [Decidable.not_not] at h1
  rw [Bool.not_eq_false] at h2
  refine ⟨h1, h2, Bool.eq_false_iff.2 h3, ?_⟩
  rw [if_neg (fun e => e h1), if_neg (by rw [h2]; exact Bool.false_ne_true.symm), if_neg h3]
theorem volE_cut {f x y : Int} {hs : List Int} {l : List Spn} (hx : 0 ≤ x) (h : (volE f hs l).2 = 0) : volE f hs (cutL x y l) = (rQ (volSum (cutL x y l) f hs), 0) := by
  obtain ⟨h1, h2, h3, _⟩ := volE_ok h
  rw [volE, spansErr_cut hx h1, if_neg (by decide), h2, if_neg (by decide), if_neg]
  intro h4
  obtain ⟨s, h5, h6⟩ := List.any_eq_true.1 h4
  obtain ⟨_, _, s0, h7, h8⟩ := cutL_in s h5
  have h9 := List.any_eq_false.1 h3 s0 h7
  simp only [outH, Bool.or_eq_true, decide_eq_true_eq, not_or] at h6 h9
  omega
theorem volE_scale {f : Int} {q : Rat} {hs : List Int} {l : List Spn} (h : (volE f hs l).2 = 0) : volE f hs (l.map (scaleS q)) = (rQ (volSum l f hs * q), 0) := by
  obtain ⟨h1, h2, h3, _⟩ := volE_ok h
  have hl : InOrd 0 l := inOrd_of (by rw [spansErr] at h1; split at h1 <;> first | cases h1 | exact h1)
  rw [volE, spansErr_scale h1, if_neg (by decide), h2, if_neg (by decide), if_neg, volSum_scale hl]
  intro h4
  obtain ⟨s, h5, h6⟩ := List.any_eq_true.1 h4
  obtain ⟨s0, h7, rfl⟩ := List.mem_map.1 h5
  exact List.any_eq_false.1 h3 s0 h7 h6
end Go.Proofs.YthkdfpbjkpgckaaGreatDoor
