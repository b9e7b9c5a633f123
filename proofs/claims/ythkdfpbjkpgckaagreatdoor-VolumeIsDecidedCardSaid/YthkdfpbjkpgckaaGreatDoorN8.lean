/-
  Contract of the specification: the exact volume of runs.
-/
import Derived.Test.YthkdfpbjkpgckaaGreatDoorN7
import Derived.Test.YthkdfpbjkpgckaaGreatDoorRows
import Derived.Test.YthkdfpbjkpgckaaGreatDoorTie
import Derived.Test.YthkdfpbjkpgckaaGreatDoorCards
import Derived.ProofKit
import Derived.OpenShut
import Derived.LaidMore
import Derived.Lay
import Derived.Stop.Joined
import Derived.SevenTiedAt
set_option linter.unusedVariables false
set_option linter.unusedSimpArgs false
set_option linter.unusedSectionVars false
namespace Go.Proofs.YthkdfpbjkpgckaaGreatDoor
open Go.RowKit Go.Sl Go.Num
/-- A run whose volume is not decided. -/
def badR (l : List Spn) (r : Rn) : Prop := (r.tab.length = 0 ∧ freeB r l = true) ∨ (r.tab.length ≠ 0 ∧ movP r l)
open Classical in
noncomputable def sExE (rs : List Rn) (l : List Spn) : Q3 × Int :=
  if runsErr rs ≠ 0 then (zero3, runsErr rs) else if spansErr l ≠ 0 then (zero3, spansErr l) else if l.any (outX rs) = true then (zero3, 19) else if ∃ r ∈ rs, badR l r then (zero3, 29) else volE (firstF rs) (firstS rs) l
end Go.Proofs.YthkdfpbjkpgckaaGreatDoor
namespace Go.Proofs.YthkdfpbjkpgckaaGreatDoor
open Go.RowKit Go.Sl Go.Num
/-- The place of the span that has a tick, counted from k; -1 for none. -/
def pl : Int → List Spn → Int → Int
  | _, [], _ => -1
  | k, s :: l, t => if inS t s = true then k else pl (k + 1) l t
/-- The sum over n ticks from one on. -/
def tS (g : Int → Rat) : Int → Nat → Rat
  | _, 0 => 0
  | f, n + 1 => g f + tS g (f + 1) n
theorem tS_congr {g h : Int → Rat} : ∀ (n : Nat) (f : Int), (∀ t, f ≤ t → t < f + n → g t = h t) → tS g f n = tS h f n
  | 0, _, _ => rfl
  | n + 1, f, H => by rw [tS, tS, H f (by omega) (by omega), tS_congr n (f + 1) fun t h1 h2 => H t (by omega) (by omega)]
theorem tS_add (g h : Int → Rat) : ∀ (n : Nat) (f : Int), tS (fun t => g t + h t) f n = tS g f n + tS h f n
  | 0, _ => by simp [tS, Rat.add_zero]
  | n + 1, f => by rw [tS, tS, tS, tS_add g h n]; grind
theorem tS_in (s : Spn) (c : Rat) : ∀ (n : Nat) (f : Int), tS (fun t => if inS t s = true then c else 0) f n = ((max 0 (min s.to_ (f + n) - max s.from_ f) : Int) : Rat) * c
  | 0, f => by
    rw [tS, show max 0 (min s.to_ (f + (0 : Nat)) - max s.from_ f) = (0 : Int) from by omega]; simp
  | n + 1, f => by
    rw [tS, tS_in s c n (f + 1)]
    by_cases h : inS f s = true
    · rw [if_pos h]
      simp only [inS, Bool.and_eq_true, decide_eq_true_eq] at h
      rw [show max 0 (min s.to_ (f + (n + 1 : Nat)) - max s.from_ f) = max 0 (min s.to_ (f + 1 + n) - max s.from_ (f + 1)) + 1 from by omega, Rat.intCast_add]
      grind
    · rw [if_neg h]
      simp only [inS, Bool.and_eq_true, decide_eq_true_eq] at h
      rw [show max 0 (min s.to_ (f + (n + 1 : Nat)) - max s.from_ f) = max 0 (min s.to_ (f + 1 + n) - max s.from_ (f + 1)) from by omega]
      grind
theorem pl_late : ∀ {l : List Spn} {x t : Int} (k : Int), InOrd x l → t < x → pl k l t = -1
  | [], _, _, _, _, _ => rfl
  | s :: l, x, t, k, h, ht => by
    rw [pl, if_neg (by have := h.1; simp [inS]; omega), pl_late (k + 1) h.2.2 (by have := h.1; have := h.2.1; omega)]
theorem pl_cons {g : Int → Rat} {s : Spn} {l : List Spn} {x t k : Int} (h : InOrd x (s :: l)) : g (pl k (s :: l) t) = (if inS t s = true then g k - g (-1) else 0) + g (pl (k + 1) l t) := by
  rw [pl]
  by_cases hi : inS t s = true
  · rw [if_pos hi, if_pos hi, pl_late (k + 1) h.2.2 (by simp only [inS, Bool.and_eq_true, decide_eq_true_eq] at hi; exact hi.2)]; grind
  · rw [if_neg hi, if_neg hi]; grind
/-- Summing over the ticks is summing over the classes. -/
theorem cls_sum {g : Int → Rat} {r : Rn} {n : Nat} (hn : r.to_ = r.from_ + n) : ∀ (l : List Spn) (x k q : Int), InOrd x l → 0 ≤ q → r.to_ - max x r.from_ ≤ q → tS (fun t => g (pl k l t)) r.from_ n + ((q - n : Int) : Rat) * g (-1) = wsum g (clsS r k q l)
  | [], x, k, q, _, hq, _ => by
    have h1 : tS (fun t => g (pl k [] t)) r.from_ n = (n : Rat) * g (-1) := by
      generalize r.from_ = f
      clear hn
      induction n generalizing f with
      | zero => simp [tS]
      | succ n ih => rw [tS, ih, pl, show ((n + 1 : Nat) : Rat) = (n : Rat) + 1 from by simp]; grind
    have e : ((n : Int) : Rat) = (n : Rat) := rfl
    rw [h1, clsS, Rat.intCast_sub, e]
    split
    · rw [wsum, wsum]; grind
    · rw [wsum, show q = 0 from by omega]; simp; grind
  | s :: l, x, k, q, h, hq, h1 => by
    rw [tS_congr n r.from_ (h := fun t => (if inS t s = true then g k - g (-1) else 0) + g (pl (k + 1) l t)) fun t _ _ => pl_cons h, tS_add, tS_in, clsS, ← hn]
    have := h.1
    have := h.2.1
    split
    · rename_i ho
      rw [ovl] at ho
      rw [← cls_sum hn l s.to_ (k + 1) q h.2.2 hq (by omega), show max 0 (min s.to_ r.to_ - max s.from_ r.from_) = (0 : Int) from by omega]
      simp; grind
    · rename_i ho
      rw [ovl] at ho
      rw [wsum, ← cls_sum hn l s.to_ (k + 1) (q - ovl r s) h.2.2 (by rw [ovl]; omega) (by rw [ovl]; omega)]
      show ((max 0 (min s.to_ r.to_ - max s.from_ r.from_) : Int) : Rat) * (g k - g (-1)) + tS (fun t => g (pl (k + 1) l t)) r.from_ n + ((q - n : Int) : Rat) * g (-1) = ((ovl r s : Int) : Rat) * g k + (tS (fun t => g (pl (k + 1) l t)) r.from_ n + ((q - ovl r s - n : Int) : Rat) * g (-1))
      rw [show max 0 (min s.to_ r.to_ - max s.from_ r.from_) = ovl r s from by rw [ovl]; omega, show q - ovl r s - n = (q - n) - ovl r s from by omega, Rat.intCast_sub (q - n)]
      grind
theorem tS_pos {P : Int → Prop} [DecidablePred P] : ∀ (n : Nat) (f : Int), 0 ≤ tS (fun t => if P t then 1 else 0) f n ∧ (0 < tS (fun t => if P t then 1 else 0) f n ↔ ∃ i : Nat, i < n ∧ P (f + i))
  | 0, f => ⟨Rat.le_refl, by simp [tS]⟩
  | n + 1, f => by
    have ⟨h1, h2⟩ := tS_pos (P := P) n (f + 1)
    rw [tS]
    have h3 : (∃ i : Nat, i < n + 1 ∧ P (f + i)) ↔ P f ∨ ∃ i : Nat, i < n ∧ P (f + 1 + i) := by
      constructor
      · rintro ⟨i, hi, hp⟩
        cases i with
        | zero => left; simpa using hp
        | succ i => right; exact ⟨i, by omega, by rw [show f + 1 + (i : Int) = f + (i + 1 : Nat) from by omega]; exact hp⟩
      · rintro (hp | ⟨i, hi, hp⟩)
        · exact ⟨0, by omega, by simpa using hp⟩
        · exact ⟨i + 1, by omega, by rw [show f + ((i + 1 : Nat) : Int) = f + 1 + (i : Int) from by omega]; exact hp⟩
    rw [h3, ← h2]
    split
    · rename_i hp; exact ⟨by grind, by constructor <;> intro _ <;> first | exact .inl hp | grind⟩
    · rename_i hp
      rw [Rat.zero_add]
      exact ⟨h1, by simp [hp]⟩
theorem wsum_pos {P : Int → Prop} [DecidablePred P] : ∀ (L : List (Int × Int)), (∀ e ∈ L, 0 < e.2) → 0 ≤ wsum (fun t => if P t then 1 else 0) L ∧ (0 < wsum (fun t => if P t then 1 else 0) L ↔ ∃ e ∈ L, P e.1)
  | [], _ => ⟨Rat.le_refl, by simp [wsum]⟩
  | (y, m) :: L, h => by
    have ⟨h1, h2⟩ := wsum_pos (P := P) L fun e he => h e (List.mem_cons_of_mem _ he)
    have h3 : (0 : Rat) < (m : Rat) := by have := h _ (List.mem_cons_self ..); exact_mod_cast this
    rw [wsum]
    have h4 : (∃ e ∈ (y, m) :: L, P e.1) ↔ P y ∨ ∃ e ∈ L, P e.1 := by simp
    rw [h4, ← h2]
    split
    · rename_i hp; exact ⟨by grind, by constructor <;> intro _ <;> first | exact .inl hp | grind⟩
    · rename_i hp
      rw [Rat.mul_zero, Rat.zero_add]
      exact ⟨h1, by simp [hp]⟩
theorem rn_to {r : Rn} (h : inT r = true) : r.to_ = r.from_ + (r.to_ - r.from_).toNat := by
  rw [inT, decide_eq_true_eq] at h; omega
theorem cls_pos {r : Rn} {l : List Spn} (h : inT r = true) (hR : ∀ s ∈ l, RightS s) : ∀ e ∈ clsL l r, 0 < e.2 := by
  rw [inT, decide_eq_true_eq] at h
  exact fun e he => (clsS_ok (l0 := l) l 0 (r.to_ - r.from_) (Int.le_refl _) (by omega) (by omega) (fun s hs => by have := (hR s hs).1; omega) e he).2.2.1
theorem clsL_sum {g : Int → Rat} {r : Rn} {l : List Spn} {x : Int} (h : inT r = true) (hl : InOrd x l) : tS (fun t => g (pl 0 l t)) r.from_ (r.to_ - r.from_).toNat = wsum g (clsL l r) := by
  have h1 := rn_to h
  rw [inT, decide_eq_true_eq] at h
  rw [clsL, ← cls_sum h1 l x 0 (r.to_ - r.from_) hl (by omega) (by omega), show r.to_ - r.from_ - ((r.to_ - r.from_).toNat : Int) = 0 from by omega]
  simp; grind
theorem clsL_ex {P : Int → Prop} {r : Rn} {l : List Spn} {x : Int} (h : inT r = true) (hl : InOrd x l) (hR : ∀ s ∈ l, RightS s) : (∃ e ∈ clsL l r, P e.1) ↔ ∃ i : Nat, i < (r.to_ - r.from_).toNat ∧ P (pl 0 l (r.from_ + i)) := by
  haveI : DecidablePred P := fun _ => Classical.propDecidable _
  rw [← (wsum_pos (P := P) (clsL l r) (cls_pos h hR)).2, ← clsL_sum h hl]
  exact (tS_pos (P := fun t => P (pl 0 l t)) _ _).2
theorem pl_worth {l : List Spn} {t st : Int} : worthOf l t st = ofR l (pl 0 l t) st := by
  have key : ∀ (m l0 : List Spn) (k : Nat), l0.drop k = m → (match m[spanAt m t]? with | none => 0 | some s => rateOf s st) = ofR l0 (pl k m t) st := by
    intro m
    induction m with
    | nil => intro l0 k _; rw [pl, ofR, if_pos (by decide)]; rfl
    | cons s m ih =>
      intro l0 k hd
      have hk : k < l0.length := by
        rcases Nat.lt_or_ge k l0.length with h | h
        · exact h
        · rw [List.drop_eq_nil_of_le h] at hd; cases hd
      rw [List.drop_eq_getElem_cons hk] at hd
      injection hd with h1 h2
      rw [pl]
      unfold spanAt at *
      rw [List.findIdx_cons]
      by_cases hi : inS t s = true
      · rw [if_pos hi, hi, ofR_at hk, h1]; rfl
      · rw [if_neg hi, Bool.eq_false_iff.2 hi, ← Int.natCast_succ, ← ih l0 (k + 1) h2]; rfl
  rw [worthOf]
  exact key l l 0 rfl
/-! ### the law of the volume -/
theorem volSum_app (l : List Spn) : ∀ (a b : List Int) (f : Int), volSum l f (a ++ b) = volSum l f a + volSum l (f + a.length) b
  | [], b, f => by rw [volSum, List.nil_append, Rat.zero_add]; simp
  | y :: a, b, f => by rw [List.cons_append, volSum, volSum, volSum_app l a b (f + 1), List.length_cons, show f + ((a.length + 1 : Nat) : Int) = f + 1 + a.length from by omega]; grind
theorem volSum_rep (l : List Spn) (x : Int) : ∀ (n : Nat) (f : Int), volSum l f (List.replicate n x) = tS (fun t => worthOf l t x) f n
  | 0, _ => rfl
  | n + 1, f => by rw [List.replicate_succ, volSum, tS, volSum_rep l x n]
theorem volSum_sep (l : List Spn) (A B : Int → Rat) : ∀ (hs : List Int) (f : Int), (∀ t, f ≤ t → t < f + hs.length → ∀ x ∈ hs, worthOf l t x = A x + B t) → volSum l f hs = segSum A hs + tS B f hs.length
  | [], _, _ => by rw [volSum, segSum]; simp [tS, Rat.add_zero]
  | y :: hs, f, h => by
    rw [volSum, segSum, List.length_cons, tS, h f (by omega) (by rw [List.length_cons]; omega) y (List.mem_cons_self ..), volSum_sep l A B hs (f + 1) fun t h1 h2 x hx => h t (by omega) (by rw [List.length_cons]; omega) x (List.mem_cons_of_mem _ hx)]
    grind
theorem segSum_app (g : Int → Rat) : ∀ (a b : List Int), segSum g (a ++ b) = segSum g a + segSum g b
  | [], b => by rw [List.nil_append, segSum, Rat.zero_add]
  | y :: a, b => by rw [List.cons_append, segSum, segSum, segSum_app g a b, Rat.add_assoc]
theorem segSum_rep (g : Int → Rat) (x : Int) : ∀ n : Nat, segSum g (List.replicate n x) = (n : Rat) * g x
  | 0 => by simp [segSum]
  | n + 1 => by rw [List.replicate_succ, segSum, segSum_rep g x n, show ((n + 1 : Nat) : Rat) = (n : Rat) + 1 from by simp]; grind
theorem segSum_tab (g : Int → Rat) : ∀ (t : List (Int × Int)), (∀ x ∈ t, 1 ≤ x.2) → segSum g (tabS t) = wsum g t
  | [], _ => rfl
  | (x, m) :: t, h => by
    have h1 := h _ (List.mem_cons_self ..)
    dsimp only at h1
    have e : ((m.toNat : Nat) : Rat) = (m : Rat) := by
      show ((m.toNat : Int) : Rat) = (m : Rat)
      rw [Int.toNat_of_nonneg (by omega)]
    rw [tabS_cons, segSum_app, segSum_rep, segSum_tab g t fun x hx => h x (List.mem_cons_of_mem _ hx), wsum, e]
theorem tabS_len : ∀ (t : List (Int × Int)), (∀ x ∈ t, 1 ≤ x.2) → ((tabS t).length : Int) = sumT t
  | [], _ => rfl
  | x :: t, h => by
    have h1 := tabS_len t fun y hy => h y (List.mem_cons_of_mem _ hy)
    have h2 := h x (List.mem_cons_self ..)
    rw [tabS_cons, List.length_append, List.length_replicate, sumT]; omega
theorem tabS_mem {t : List (Int × Int)} {x : Int} (h : x ∈ tabS t) : ∃ m, (x, m) ∈ t := by
  obtain ⟨⟨y, m⟩, h1, h2⟩ := List.mem_flatMap.1 h
  rw [List.mem_replicate] at h2
  exact ⟨m, h2.2 ▸ h1⟩
theorem stagesR_len {r : Rn} (h : inT r = true) (h1 : oneE r = 0) : ((stagesR r).length : Int) = r.to_ - r.from_ := by
  rw [inT, decide_eq_true_eq] at h
  rw [stagesR]
  split
  · rw [List.length_replicate]; omega
  · rename_i h0
    obtain ⟨e1, _, e3, _⟩ := oneE_tab h1 h0
    rw [tabS_len _ fun x hx => (e1 x hx).2.1, e3]
theorem stagesR_bd {r : Rn} (h1 : oneE r = 0) : ∀ x ∈ stagesR r, 0 ≤ x ∧ x ≤ 1000 := by
  rw [stagesR]
  split
  · rename_i h0
    obtain ⟨e1, e2, e3⟩ := oneE_gap h1 h0
    intro x hx
    rw [(List.mem_replicate.1 hx).2]; omega
  · rename_i h0
    intro x hx
    obtain ⟨m, hm⟩ := tabS_mem hx
    exact ((oneE_tab h1 h0).1 _ hm).1
theorem takeB_iff {l : List Spn} {r : Rn} {x : Int} (h : inT r = true) (hl : InOrd x l) (hR : ∀ s ∈ l, RightS s) : takeB l r ↔ ¬ badR l r := by
  have hT := h
  rw [inT, decide_eq_true_eq] at hT
  cases ht : r.tab with
  | nil =>
    have hb : badR l r ↔ freeB r l = true := by rw [badR, ht]; simp
    have he : takeB l r ↔ ¬ ∃ e ∈ clsL l r, ofR l e.1 r.lo ≠ ofR l e.1 r.hi := by
      unfold takeB okE
      rw [ht]
      constructor
      · rintro h1 ⟨e, he, h2⟩; exact h2 (h1 e he)
      · intro h1 e he; exact Classical.byContradiction fun h2 => h1 ⟨e, he, h2⟩
    rw [hb, he, clsL_ex (P := fun k => ofR l k r.lo ≠ ofR l k r.hi) h hl hR, freeB, List.any_eq_true]
    simp only [List.mem_range, decide_eq_true_eq, pl_worth]
  | cons y t =>
    have hb : badR l r ↔ movP r l := by rw [badR, ht]; simp
    rw [hb]
    have hd : ∀ (z : Int × Int), z ∈ r.tab → ∀ c : Rat, (∀ e ∈ clsL l r, ofR l e.1 z.1 - ofR l e.1 y.1 = c) ↔ ∀ i : Nat, i < (r.to_ - r.from_).toNat → worthOf l (r.from_ + i) z.1 - worthOf l (r.from_ + i) y.1 = c := by
      intro z _ c
      have := clsL_ex (P := fun k => ofR l k z.1 - ofR l k y.1 ≠ c) h hl hR
      simp only [pl_worth]
      constructor
      · intro h1 i hi
        exact Classical.byContradiction fun h2 => by obtain ⟨e, he, h3⟩ := this.2 ⟨i, hi, h2⟩; exact h3 (h1 e he)
      · intro h1 e he
        exact Classical.byContradiction fun h2 => by obtain ⟨i, hi, h3⟩ := this.1 ⟨e, he, h2⟩; exact h3 (h1 i hi)
    have hne : ∃ e ∈ clsL l r, True := (clsL_ex (P := fun _ => True) h hl hR).2 ⟨0, by omega, trivial⟩
    have hhd : (clsL l r).headD (0, 0) ∈ clsL l r := by
      obtain ⟨e, he, _⟩ := hne
      cases hc : clsL l r with
      | nil => rw [hc] at he; cases he
      | cons a b => exact List.mem_cons_self ..
    have hk : takeB l r ↔ ∀ z ∈ r.tab, ∃ c, ∀ e ∈ clsL l r, ofR l e.1 z.1 - ofR l e.1 y.1 = c := by
      unfold takeB okE
      rw [ht]
      constructor
      · intro h1 z hz
        exact ⟨ofR l ((clsL l r).headD (0, 0)).1 z.1 - ofR l ((clsL l r).headD (0, 0)).1 y.1, fun e he => by have := h1 e he z hz; grind⟩
      · intro h1 e he z hz
        obtain ⟨c, hc⟩ := h1 z hz
        have := hc e he
        have := hc _ hhd
        grind
    have hm : (¬ movP r l) ↔ ∀ z ∈ r.tab, ∀ i : Nat, i < (r.to_ - r.from_).toNat → worthOf l (r.from_ + i) z.1 - worthOf l (r.from_ + i) y.1 = worthOf l r.from_ z.1 - worthOf l r.from_ y.1 := by
      have hp : 0 < r.tab.length := by rw [ht]; exact Nat.zero_lt_succ _
      have h0 : r.tab[0] = y := by simp [ht]
      constructor
      · intro h1 z hz i hi
        obtain ⟨k, hk, rfl⟩ := List.getElem_of_mem hz
        refine Classical.byContradiction fun h2 => h1 ⟨k, hp, hk, ?_, i, ?_, by omega, ?_⟩
        · rcases Nat.eq_zero_or_pos k with rfl | h3
          · exact absurd (by rw [h0]; grind) h2
          · exact h3
        · rcases Nat.eq_zero_or_pos i with rfl | h3
          · exact absurd (by simp) h2
          · exact h3
        · rw [h0]
          intro h3; apply h2; grind
      · rintro h1 ⟨k, _, hk, _, j, _, hj, h2⟩
        have := h1 _ (List.getElem_mem hk) j (by omega)
        rw [h0] at h2
        apply h2; grind
    rw [hk, hm]
    constructor
    · intro h1 z hz i hi
      obtain ⟨c, hc⟩ := h1 z hz
      have h2 := (hd z hz c).1 hc
      have := h2 i hi
      have := h2 0 (by omega)
      simp only [Int.natCast_zero, Int.add_zero] at this
      grind
    · intro h1 z hz
      exact ⟨_, (hd z hz _).2 (h1 z hz)⟩
theorem takeV_eq {l : List Spn} {r : Rn} {x : Int} (h : inT r = true) (h1 : oneE r = 0) (hl : InOrd x l) (hb : takeB l r) (hR : ∀ s ∈ l, RightS s) : takeV l r = volSum l r.from_ (stagesR r) := by
  have hT := h
  rw [inT, decide_eq_true_eq] at hT
  cases ht : r.tab with
  | nil =>
    rw [takeV, ht, stagesR, if_pos (by rw [ht]; rfl), volSum_rep]
    simp only [pl_worth]
    exact (clsL_sum (g := fun k => ofR l k r.lo) h hl).symm
  | cons y t =>
    have h0 : r.tab.length ≠ 0 := by rw [ht]; exact Nat.succ_ne_zero _
    obtain ⟨e1, _, e3, _⟩ := oneE_tab h1 h0
    have hlen := tabS_len _ fun x hx => (e1 x hx).2.1
    unfold takeB okE at hb
    rw [ht] at hb
    dsimp only at hb
    rw [takeV, ht, stagesR, if_neg h0]
    dsimp only
    rw [← ht, ← segSum_tab _ _ fun x hx => (e1 x hx).2.1, ← clsL_sum h hl, show (r.to_ - r.from_).toNat = (tabS r.tab).length from by omega]
    rw [volSum_sep l (ofR l ((clsL l r).headD (0, 0)).1) (fun t => ofR l (pl 0 l t) y.1 - ofR l ((clsL l r).headD (0, 0)).1 y.1)]
    intro t ht1 ht2 z hz
    obtain ⟨m, hm⟩ := tabS_mem hz
    have hall : ¬ ∃ e ∈ clsL l r, ofR l e.1 z - ofR l ((clsL l r).headD (0, 0)).1 z ≠ ofR l e.1 y.1 - ofR l ((clsL l r).headD (0, 0)).1 y.1 := by
      rintro ⟨e, he, h5⟩
      exact h5 (hb e he (z, m) (ht ▸ hm))
    rw [clsL_ex (P := fun k => ofR l k z - ofR l ((clsL l r).headD (0, 0)).1 z ≠ ofR l k y.1 - ofR l ((clsL l r).headD (0, 0)).1 y.1) h hl hR] at hall
    have h6 := Classical.byContradiction fun h7 => hall ⟨(t - r.from_).toNat, by omega, h7⟩
    rw [show r.from_ + ((t - r.from_).toNat : Int) = t from by omega] at h6
    rw [pl_worth]; grind
/-! ### the runs together -/
/-- The runs follow one another from a tick on. -/
def Chn : Int → List Rn → Prop
  | _, [] => True
  | f, r :: t => r.from_ = f ∧ Chn r.to_ t
theorem chn_of : ∀ {l : List Rn} {p : Option Rn}, rnErr p l = 0 → Chn (match p with | none => firstF l | some q => q.to_) l
  | [], _, _ => trivial
  | r :: t, p, h => by
    have h5 : rnErr (some r) t = 0 ∧ ∀ q, p = some q → r.from_ = q.to_ := by
      cases p with
      | none =>
        have h6 : (if inT r = false then 3 else if false = true then 1 else if oneE r ≠ 0 then oneE r else rnErr (some r) t) = 0 := h
        split at h6
        · cases h6
        rw [if_neg (by decide)] at h6
        split at h6
        · rename_i h3; exact absurd h6 h3
        exact ⟨h6, fun q e => by cases e⟩
      | some q =>
        have h6 : (if inT r = false then 3 else if decide (r.from_ ≠ q.to_) = true then 1 else if oneE r ≠ 0 then oneE r else rnErr (some r) t) = 0 := h
        split at h6
        · cases h6
        split at h6
        · cases h6
        rename_i h2
        split at h6
        · rename_i h3; exact absurd h6 h3
        exact ⟨h6, fun q' e => by cases e; simpa using h2⟩
    refine ⟨?_, chn_of (p := some r) h5.1⟩
    cases p with
    | none => rfl
    | some q => exact h5.2 q rfl
theorem takeS_eq {l : List Spn} {x : Int} (hl : InOrd x l) (hR : ∀ s ∈ l, RightS s) : ∀ (rs : List Rn) (f : Int), Chn f rs → (∀ r ∈ rs, inT r = true) → (∀ r ∈ rs, oneE r = 0) → (∀ r ∈ rs, takeB l r) → takeS l rs = volSum l f (firstS rs)
  | [], _, _, _, _, _ => rfl
  | r :: t, f, h, h1, h2, h3 => by
    have m := List.mem_cons_self (a := r) (l := t)
    rw [takeS, firstS, volSum_app, takeV_eq (h1 r m) (h2 r m) hl (h3 r m) hR, takeS_eq hl hR t r.to_ h.2 (fun y hy => h1 y (List.mem_cons_of_mem _ hy)) (fun y hy => h2 y (List.mem_cons_of_mem _ hy)) (fun y hy => h3 y (List.mem_cons_of_mem _ hy)),
      stagesR_len (h1 r m) (h2 r m), h.1]
    congr 2; have := h.1; omega
theorem firstS_end : ∀ (rs : List Rn) (f : Int) (hp : 0 < rs.length), Chn f rs → (∀ r ∈ rs, inT r = true) → (∀ r ∈ rs, oneE r = 0) → f + (firstS rs).length = (rs[rs.length - 1]).to_
  | [r], f, _, h, h1, h2 => by
    have m := List.mem_cons_self (a := r) (l := [])
    have := stagesR_len (h1 r m) (h2 r m)
    have := h.1
    simp only [firstS, List.append_nil, List.length_singleton, Nat.sub_self, List.getElem_cons_zero]
    omega
  | r :: s :: t, f, _, h, h1, h2 => by
    have m := List.mem_cons_self (a := r) (l := s :: t)
    have h3 := stagesR_len (h1 r m) (h2 r m)
    have h4 := h.1
    have h5 := firstS_end (s :: t) r.to_ (Nat.zero_lt_succ _) h.2 (fun y hy => h1 y (List.mem_cons_of_mem _ hy)) (fun y hy => h2 y (List.mem_cons_of_mem _ hy))
    rw [firstS, List.length_append]
    simp only [List.length_cons, Nat.add_sub_cancel, List.getElem_cons_succ] at h5 ⊢
    omega
theorem firstS_bd {rs : List Rn} (h : ∀ r ∈ rs, oneE r = 0) : ∀ x ∈ firstS rs, 0 ≤ x ∧ x ≤ 1000 := by
  induction rs with
  | nil => intro x hx; cases hx
  | cons r t ih =>
    intro x hx
    rw [firstS, List.mem_append] at hx
    rcases hx with hx | hx
    · exact stagesR_bd (h r (List.mem_cons_self ..)) x hx
    · exact ih (fun y hy => h y (List.mem_cons_of_mem _ hy)) x hx
theorem exE_eq (rs : List Rn) (l : List Spn) : exE rs l = sExE rs l := by
  rw [exE, sExE]
  split
  · rfl
  rename_i h1
  rw [Decidable.not_not] at h1
  split
  · rfl
  rename_i h2
  rw [Decidable.not_not] at h2
  split
  · rfl
  rename_i h3
  have ⟨_, k5, k7⟩ := runsErr_ok h1
  have k6 := runsErr_one h1
  have hch : Chn (firstF rs) rs := chn_of (p := none) (runsErr_rn h1)
  have ⟨h4, hR⟩ := spansErr_ok h2
  have hl : InOrd 0 l := inOrd_of (by rw [spansErr] at h2; split at h2 <;> first | cases h2 | exact h2)
  have hB : (∃ r ∈ rs, badR l r) ↔ ¬ ∀ r ∈ rs, takeB l r := by
    constructor
    · rintro ⟨r, hr, hb⟩ h; exact (takeB_iff (k5 r hr) hl hR).1 (h r hr) hb
    · intro h
      exact Classical.byContradiction fun h5 => h fun r hr => (takeB_iff (k5 r hr) hl hR).2 fun hb => h5 ⟨r, hr, hb⟩
  by_cases h5 : ∀ r ∈ rs, takeB l r
  · rw [if_pos h5, if_neg (by rw [hB]; exact fun h => h h5), takeS_eq hl hR rs _ hch k5 k6 h5, volE, if_neg (fun e => e h2)]
    have hbd := firstS_bd k6
    have hrt : rightH (firstF rs) (firstS rs) = true ∧ l.any (outH (firstF rs) (firstS rs).length) = false := by
      rcases Nat.eq_zero_or_pos rs.length with hz | hz
      · obtain rfl := List.length_eq_zero_iff.1 hz
        refine ⟨by decide, ?_⟩
        cases l with
        | nil => rfl
        | cons s l => exact absurd (by simp [outX]) h3
      · have he := firstS_end rs _ hz hch k5 k6
        have hf : firstF rs = rs[0].from_ := by
          cases rs with
          | nil => exact absurd hz (Nat.lt_irrefl _)
          | cons r t => rfl
        have hlast := k5 _ (List.getElem_mem (show rs.length - 1 < rs.length by omega))
        have hfst := k5 _ (List.getElem_mem hz)
        rw [inT, decide_eq_true_eq] at hlast hfst
        rw [lenT, List.getElem?_eq_getElem hz, List.getElem?_eq_getElem (show rs.length - 1 < rs.length by omega)] at k7
        dsimp only at k7
        constructor
        · rw [rightH, Bool.and_eq_true, decide_eq_true_eq]
          refine ⟨by omega, ?_⟩
          rw [Bool.not_eq_true', List.any_eq_false]
          intro x hx
          have := hbd x hx
          simp [badSt]; omega
        · rw [List.any_eq_false]
          intro s hs
          have h6 : ¬ outX rs s = true := fun h => h3 (List.any_eq_true.2 ⟨s, hs, h⟩)
          rw [outX, List.getElem?_eq_getElem hz, List.getElem?_eq_getElem (show rs.length - 1 < rs.length by omega)] at h6
          simp only [Bool.or_eq_true, decide_eq_true_eq, not_or] at h6
          simp only [outH, Bool.or_eq_true, decide_eq_true_eq, not_or]
          omega
    rw [hrt.1, hrt.2, if_neg (by decide), if_neg (by decide)]
  · rw [if_neg h5, if_pos (hB.2 h5)]
end Go.Proofs.YthkdfpbjkpgckaaGreatDoor
namespace Go.Proofs.YthkdfpbjkpgckaaGreatDoor
open Go.RowKit Go.Sl Go.Num
theorem lof_holds (m n : Int) (w : World) (h1 : -999999999999999 ≤ m) (h2 : m ≤ 999999999999999) (h3 : -999999999999999 ≤ n) (h4 : n ≤ 999999999999999) (h0 : n ≠ 0) :
    Calls Tryz.prog 39 #[.int .i64 m, .int .i64 n] w fun e w' => e = .returned (qA (rQ ((m : Rat) / (n : Rat)))) ∧ Below w.heap.size w w' := by
  have hm := fun w' (_ : Below w.heap.size w w') => make_holds m n w' h1 h2 h3 h4 h0
  generalize rQ ((m : Rat) / (n : Rat)) = Q at *
  refine enterA [(0, .int .i64 m), (1, .int .i64 n)] Tryz.func39 Tryz.ntmps39 ?_
  all_goals (refine go ?_; and_intros <;> (try exact trivial) <;> intros)
  repeat' ((first | (refine G.cvb hm ?_)) <;> (refine go ?_; and_intros <;> (try exact trivial) <;> intros))
  all_goals refine ret1b Tryz.func39 Tryz.results39 ?_
  all_goals rfl
theorem is_holds (a : Q3) (e n : Int) (w : World) (h1 : -999999999999999 ≤ n) (h2 : n ≤ 999999999999999) :
    Calls Tryz.prog 41 #[qA a, .int .i64 e, .int .i64 n] w fun r w' => r = .returned (.bool (decide (e = 0 ∧ a = rQ (n : Rat)))) ∧ Below w.heap.size w w' := by
  have hi := fun w' (_ : Below w.heap.size w w') => int_holds n w' h1 h2
  generalize rQ (n : Rat) = Q at *
  by_cases h3 : e = 0
  · subst h3
    by_cases h4 : a = Q
    · skip
      refine enterA [(0, qA a), (1, .int .i64 0), (2, .int .i64 n)] Tryz.func41 Tryz.ntmps41 ?_
      all_goals (refine go ?_; and_intros <;> (try exact trivial) <;> intros)
      repeat' ((first | (refine G.cvb hi ?_) | (apply G.eqR a Q; rfl; rfl; rfl; all_goals intro h; all_goals try (exact absurd h4 h))) <;> (refine go ?_; and_intros <;> (try exact trivial) <;> intros))
      all_goals refine ret1b Tryz.func41 Tryz.results41 ?_
      all_goals simp [h4]
    · skip
      refine enterA [(0, qA a), (1, .int .i64 0), (2, .int .i64 n)] Tryz.func41 Tryz.ntmps41 ?_
      all_goals (refine go ?_; and_intros <;> (try exact trivial) <;> intros)
      repeat' ((first | (refine G.cvb hi ?_) | (apply G.eqR a Q; rfl; rfl; rfl; all_goals intro h; all_goals try (exact absurd h h4))) <;> (refine go ?_; and_intros <;> (try exact trivial) <;> intros))
      all_goals refine ret1b Tryz.func41 Tryz.results41 ?_
      all_goals simp [h4]
  · skip
    refine enterA [(0, qA a), (1, .int .i64 e), (2, .int .i64 n)] Tryz.func41 Tryz.ntmps41 ?_
    all_goals (refine go ?_; and_intros <;> (try exact trivial) <;> intros)
    repeat' ((first | (refine G.cvb hi ?_)) <;> (refine go ?_; and_intros <;> (try exact trivial) <;> intros))
    all_goals refine ret1b Tryz.func41 Tryz.results41 ?_
    all_goals simp [h3]
theorem blkSlA {w0 w : World} {M : List Row} {A : Type} {f : A → List Value} {sz b tot : Nat} {e : TypeId} {l : List A} (hw : Sat w0 M w) (hf : ∀ x, (f x).length = sz) (hm : Row.blk b e (flat f l) tot ∈ M := by (repeat (first | exact List.Mem.head _ | apply List.Mem.tail))) : SlAt w (some ⟨b, 0, none⟩) sz (l.map f) ∧ w0.heap.size ≤ b := ⟨SlAt.ofBlk hf hw hm, ((hw.old _ hm).2 _ rfl).1⟩
/-- The points of the documentation's curve, and its spans. -/
def hPts : List Pnt := [(0, zero3), (10, rQ ((100 : Int) : Rat))]
def hSp1 (x : Option Addr) (y : Nat) : Spn := ⟨10, 14, rQ ((1 : Int) : Rat), 0, hPts, x, y⟩
def hSp2 (u : Q3) (x : Option Addr) (y : Nat) : Spn := ⟨14, 20, u, 1, hPts, x, y⟩
def hSpans (u : Q3) (x : Option Addr) (y : Nat) : List Spn := [hSp1 x y, hSp2 u x y]
theorem spans_holds (u : Q3) (w : World) :
    Calls Tryz.prog 38 #[qA u] w fun r w' => ∃ (a x : Nat), r = .returned (.slice (some ⟨a, 0, none⟩) 2 2) ∧ SpansAt w' (some ⟨a, 0, none⟩) (hSpans u (some ⟨x, 0, none⟩) 2) ∧ w.heap.size ≤ a ∧ w.heap.size ≤ x ∧ Below w.heap.size w w' := by
  have hi1 := fun w' (_ : Below w.heap.size w w') => int_holds 1 w' (by decide) (by decide)
  have hi2 := fun w' (_ : Below w.heap.size w w') => int_holds 100 w' (by decide) (by decide)
  unfold hSpans hSp1 hSp2 hPts
  generalize rQ ((1 : Int) : Rat) = Q1 at *
  generalize rQ ((100 : Int) : Rat) = Q2 at *
  refine enterA [(0, qA u)] Tryz.func38 Tryz.ntmps38 ?_
  all_goals (refine goR ?_; and_intros <;> (try exact trivial) <;> intros)
  repeat' ((first | (refine G.cvb (vs := [.int .i64 1]) hi1 ?_) | (refine G.cvb (vs := [.int .i64 100]) hi2 ?_) | (apply G.sliceL; rfl; rfl; rfl; rfl; rfl; rfl; rfl; rfl; intro Bs) | (apply J.regA (.q 0 <| .q 1 <| .q 2 <| .q 3 <| .q 4 <| .q 5 <| .r 6 <| .q 7 <| .nil); exact Tryz.mixed; decide +kernel) | (apply J.regQ; exact Tryz.mixed; decide +kernel) | (apply J.regL'; exact Tryz.mixed; decide +kernel)) <;> (refine goR ?_; and_intros <;> (try exact trivial) <;> intros))
  (refine ret1 Tryz.func38 Tryz.results38 ?_; intro w' hw)
  rename_i B1 B2 B3
  have ⟨m1, m2⟩ := blkSlA (f := spV) (sz := 7) (b := Bs) (e := 59) (tot := 14) (l := [⟨10, 14, Q1, 0, [(0, zero3), (10, Q2)], some ⟨B2, 0, none⟩, 2⟩, ⟨14, 20, u, 1, [(0, zero3), (10, Q2)], some ⟨B2, 0, none⟩, 2⟩]) hw (fun _ => rfl)
  have ⟨m3, m4⟩ := blkSlA (f := ptV) (sz := 4) (b := B2) (e := 126) (tot := 8) (l := [(0, zero3), (10, Q2)]) hw (fun _ => rfl)
  refine ⟨Bs, B2, rfl, ⟨m1, fun s hs => ?_⟩, m2, m4, hw.below⟩
  rcases List.mem_cons.1 hs with rfl | hs
  · exact m3
  · rw [List.mem_singleton.1 hs]; exact m3
end Go.Proofs.YthkdfpbjkpgckaaGreatDoor
namespace Go.Proofs.YthkdfpbjkpgckaaGreatDoor
open Go.RowKit Go.Sl Go.Num
def half : Q3 := rQ (((1 : Int) : Rat) / ((2 : Int) : Rat))
def one1 : Q3 := rQ ((1 : Int) : Rat)
def hHs : List Int := [1, 2, 3, 4, 5, 5, 5, 5, 5, 5]
theorem ex1 : rateE (hSp2 half none 0) 3 = (rQ ((20 : Int) : Rat), 0) := by decide +kernel
theorem ex2 : volE 10 hHs (hSpans half none 0) = (rQ ((280 : Int) : Rat), 0) := by decide +kernel
theorem ex3 : volE 11 hHs (hSpans half none 0) = (zero3, 19) := by decide +kernel
theorem ex4 : tableE ⟨10, 14, [(1, 3), (7, 1)], none, 0, 0, 0⟩ (hSp1 none 0) = (rQ ((100 : Int) : Rat), 0) := by decide +kernel
theorem ex5 : tableE ⟨10, 15, [(1, 5)], none, 0, 0, 0⟩ (hSp1 none 0) = (zero3, 3) := by decide +kernel
theorem ex6 : tableE ⟨10, 12, [], none, 0, 3, 3⟩ (hSp1 none 0) = (rQ ((60 : Int) : Rat), 0) := by decide +kernel
theorem ex7 : tableE ⟨10, 12, [], none, 0, 3, 4⟩ (hSp1 none 0) = (zero3, 29) := by decide +kernel
theorem ex8 : exE [⟨10, 14, [(1, 3), (7, 1)], none, 0, 0, 0⟩, ⟨14, 20, [(2, 6)], none, 0, 0, 0⟩] (hSpans half none 0) = (rQ ((190 : Int) : Rat), 0) := by decide +kernel
theorem ex9 : exE [⟨10, 20, [(1, 9), (7, 1)], none, 0, 0, 0⟩] (hSpans half none 0) = (zero3, 29) := by decide +kernel
theorem ex10 : exE [⟨10, 20, [(1, 9), (7, 1)], none, 0, 0, 0⟩] (hSpans one1 none 0) = (rQ ((220 : Int) : Rat), 0) := by decide +kernel
theorem ex11 : spansErr (hSpans half none 0) = 0 := by decide +kernel
theorem ex12 : ∀ s ∈ hSpans half none 0, fewS s := by decide +kernel
theorem ex12b : ∀ s ∈ hSpans one1 none 0, fewS s := by decide +kernel
/-! ### where the points and tables lie does not matter -/
def bare (s : Spn) : Spn := { s with adr := none, cap := 0 }
def rbare (r : Rn) : Rn := { r with adr := none, cap := 0 }
theorem spErr_bare : ∀ (l : List Spn) (x : Int), spErr x (l.map bare) = spErr x l
  | [], _ => rfl
  | s :: l, x => by
    show (if (!decide (RightS (bare s)) || decide (s.from_ < x)) = true then 1 else spErr s.to_ (l.map bare)) = _
    rw [spErr_bare l]; rfl
theorem spansErr_bare (l : List Spn) : spansErr (l.map bare) = spansErr l := by rw [spansErr, spansErr, spErr_bare, List.length_map]
theorem worthOf_bare (l : List Spn) (t x : Int) : worthOf (l.map bare) t x = worthOf l t x := by
  unfold worthOf spanAt
  rw [List.findIdx_map, List.getElem?_map]
  show (match (l[List.findIdx (inS t) l]?).map bare with | none => 0 | some s => rateOf s x) = _
  cases l[List.findIdx (inS t) l]? <;> rfl
theorem volSum_bare (l : List Spn) : ∀ (hs : List Int) (f : Int), volSum (l.map bare) f hs = volSum l f hs
  | [], _ => rfl
  | y :: hs, f => by rw [volSum, volSum, worthOf_bare, volSum_bare l hs]
theorem volE_bare (l : List Spn) (f : Int) (hs : List Int) : volE f hs (l.map bare) = volE f hs l := by
  unfold volE
  rw [spansErr_bare, List.any_map, volSum_bare]; rfl
theorem rnErr_bare : ∀ (l : List Rn) (p : Option Rn), rnErr (p.map rbare) (l.map rbare) = rnErr p l
  | [], _ => rfl
  | r :: l, p => by
    have := rnErr_bare l (some r)
    cases p with
    | none =>
      show (if inT r = false then 3 else if false = true then 1 else if oneE r ≠ 0 then oneE r else rnErr ((some r).map rbare) (l.map rbare)) = _
      rw [this]; rfl
    | some q =>
      show (if inT r = false then 3 else if decide (r.from_ ≠ q.to_) = true then 1 else if oneE r ≠ 0 then oneE r else rnErr ((some r).map rbare) (l.map rbare)) = _
      rw [this]; rfl
theorem lenT_bare (l : List Rn) : lenT (l.map rbare) = lenT l := by
  unfold lenT
  rw [List.getElem?_map, List.getElem?_map, List.length_map]
  cases l[0]? <;> cases l[l.length - 1]? <;> rfl
theorem runsErr_bare (l : List Rn) : runsErr (l.map rbare) = runsErr l := by
  have := rnErr_bare l none
  rw [Option.map_none] at this
  rw [runsErr, runsErr, this, lenT_bare, List.length_map]
theorem firstS_bare : ∀ l : List Rn, firstS (l.map rbare) = firstS l
  | [] => rfl
  | r :: l => by rw [List.map_cons, firstS, firstS, firstS_bare l]; rfl
theorem firstF_bare (l : List Rn) : firstF (l.map rbare) = firstF l := by cases l <;> rfl
theorem outX_bare (rs : List Rn) (s : Spn) : outX (rs.map rbare) (bare s) = outX rs s := by
  unfold outX
  rw [List.getElem?_map, List.getElem?_map, List.length_map]
  cases rs[0]? <;> cases rs[rs.length - 1]? <;> rfl
theorem badR_bare (l : List Spn) (r : Rn) : badR (l.map bare) (rbare r) ↔ badR l r := by
  unfold badR freeB movP
  simp only [worthOf_bare]
  exact Iff.rfl
theorem exE_bare (rs : List Rn) (l : List Spn) : exE (rs.map rbare) (l.map bare) = exE rs l := by
  rw [exE_eq, exE_eq]
  unfold sExE
  have h1 : (l.map bare).any (outX (rs.map rbare)) = l.any (outX rs) := by
    rw [List.any_map]; congr 1; funext s; exact outX_bare rs s
  have h2 : (∃ r ∈ rs.map rbare, badR (l.map bare) r) ↔ ∃ r ∈ rs, badR l r := by
    constructor
    · rintro ⟨r, hr, hb⟩
      obtain ⟨q, hq, rfl⟩ := List.mem_map.1 hr
      exact ⟨q, hq, (badR_bare l q).1 hb⟩
    · rintro ⟨r, hr, hb⟩
      exact ⟨_, List.mem_map_of_mem hr, (badR_bare l r).2 hb⟩
  rw [runsErr_bare, spansErr_bare, h1, firstS_bare, firstF_bare, volE_bare]
  by_cases hb : ∃ r ∈ rs, badR l r
  · rw [if_pos hb, if_pos (h2.2 hb)]
  · rw [if_neg hb, if_neg fun h => hb (h2.1 h)]
theorem tableE_bare (r : Rn) (s : Spn) : tableE (rbare r) (bare s) = tableE r s := by
  have h := runsErr_bare [r]
  rw [List.map_cons, List.map_nil] at h
  unfold tableE
  rw [h]; rfl
theorem hSpans_bare (u : Q3) (x : Option Addr) (y : Nat) : (hSpans u x y).map bare = hSpans u none 0 := rfl
theorem few_h (x : Option Addr) (y : Nat) : ∀ s ∈ hSpans half x y, fewS s := fun s hs => ex12 (bare s) (by rw [← hSpans_bare half x y]; exact List.mem_map_of_mem hs)
theorem few_h1 (x : Option Addr) (y : Nat) : ∀ s ∈ hSpans one1 x y, fewS s := fun s hs => ex12b (bare s) (by rw [← hSpans_bare one1 x y]; exact List.mem_map_of_mem hs)
theorem hs_val (x : Option Addr) (y : Nat) : volE 10 hHs (hSpans half x y) = (rQ ((280 : Int) : Rat), 0) := by rw [← volE_bare]; exact ex2
theorem hs_gap (x : Option Addr) (y : Nat) : volE 11 hHs (hSpans half x y) = (zero3, 19) := by rw [← volE_bare]; exact ex3
theorem hs_chk (x : Option Addr) (y : Nat) : spansErr (hSpans half x y) = 0 := by rw [← spansErr_bare]; exact ex11
theorem hs_t1 (a x : Option Addr) (c y : Nat) : tableE ⟨10, 14, [(1, 3), (7, 1)], a, c, 0, 0⟩ (hSp1 x y) = (rQ ((100 : Int) : Rat), 0) := by rw [← tableE_bare]; exact ex4
theorem hs_t2 (a x : Option Addr) (c y : Nat) : tableE ⟨10, 15, [(1, 5)], a, c, 0, 0⟩ (hSp1 x y) = (zero3, 3) := by rw [← tableE_bare]; exact ex5
theorem hs_t3 (a x : Option Addr) (c y : Nat) : tableE ⟨10, 12, [], a, c, 3, 3⟩ (hSp1 x y) = (rQ ((60 : Int) : Rat), 0) := by rw [← tableE_bare]; exact ex6
theorem hs_t4 (a x : Option Addr) (c y : Nat) : tableE ⟨10, 12, [], a, c, 3, 4⟩ (hSp1 x y) = (zero3, 29) := by rw [← tableE_bare]; exact ex7
theorem hs_e1 (a b x : Option Addr) (c d y : Nat) : exE [⟨10, 14, [(1, 3), (7, 1)], a, c, 0, 0⟩, ⟨14, 20, [(2, 6)], b, d, 0, 0⟩] (hSpans half x y) = (rQ ((190 : Int) : Rat), 0) := by rw [← exE_bare]; exact ex8
theorem hs_e2 (a x : Option Addr) (c y : Nat) : exE [⟨10, 20, [(1, 9), (7, 1)], a, c, 0, 0⟩] (hSpans half x y) = (zero3, 29) := by rw [← exE_bare]; exact ex9
theorem hs_e3 (a x : Option Addr) (c y : Nat) : exE [⟨10, 20, [(1, 9), (7, 1)], a, c, 0, 0⟩] (hSpans one1 x y) = (rQ ((220 : Int) : Rat), 0) := by rw [← exE_bare]; exact ex10
theorem hs_cut (x : Option Addr) (y : Nat) : cutE 12 15 (hSpans half x y) = ([{ hSp1 x y with from_ := 12 }, { hSp2 half x y with to_ := 15 }], 0) := by
  rw [cutE, if_neg (fun e => e (hs_chk x y)), if_neg (by decide)]; rfl
theorem ex13b : rQ (qR (rQ ((1 : Int) : Rat)) * qR (rQ ((2 : Int) : Rat))) = rQ ((2 : Int) : Rat) := by decide +kernel
theorem ex13c : rQ (qR half * qR (rQ ((2 : Int) : Rat))) = one1 := by decide +kernel
theorem ex14 : validQ (rQ ((2 : Int) : Rat)) := by decide +kernel
theorem hs_scale (x : Option Addr) (y : Nat) : scaleE (rQ ((2 : Int) : Rat)) (hSpans half x y) = ([{ hSp1 x y with wt := rQ ((2 : Int) : Rat) }, hSp2 one1 x y], 0) := by
  rw [scaleE, if_neg (fun e => e (hs_chk x y)), if_neg (fun e => e ex14)]
  show ([{ hSp1 x y with wt := rQ (qR (rQ ((1 : Int) : Rat)) * qR (rQ ((2 : Int) : Rat))) }, { hSp2 half x y with wt := rQ (qR half * qR (rQ ((2 : Int) : Rat))) }], (0 : Int)) = _
  rw [ex13b, ex13c]; rfl
theorem ex15 : fewQ 40 (rQ ((2 : Int) : Rat)) := by decide +kernel
end Go.Proofs.YthkdfpbjkpgckaaGreatDoor
namespace Go.Proofs.YthkdfpbjkpgckaaGreatDoor
open Go.RowKit Go.Sl Go.Num
theorem G.spn {C : Ctx} {st : List (Nat × Value)} {M : List Row} {k : List Item} {q q' : Md} {all rest : List Oper} {d : Nat} {ty : TypeId} {pos : String} {after : Array Edge} {gd : Option (Nat × Bool)} {args : List Operand} {at_ : Array TypeId} (u : Q3)
    (h : ∀ a x : Nat, G q' C all ((d, .slice (some ⟨a, 0, none⟩) 2 2) :: st) (slRow C.w0.heap.size (some ⟨a, 0, none⟩) 7 ((hSpans u (some ⟨x, 0, none⟩) 2).map spV) :: slRow C.w0.heap.size (some ⟨x, 0, none⟩) 4 (hPts.map ptV) :: M) rest k)
    (hP : C.P = Tryz.prog := by rfl) (ha : evL st args = some [qA u] := by rfl) (hs : sideB all st gd d C.N q.ext = some q' := by rfl) :
    G q C all st M ({ dst := some d, op := .call { callee := .value (.func 38), args := args.toArray, argTypes := at_ }, type := ty, pos, after, guard := gd } :: rest) k := by
  obtain ⟨P, b, PHI, N0, w0, D⟩ := C
  dsimp only at hP; subst hP
  obtain ⟨g1, g2, g3⟩ := sideB_ok hs
  refine G.call0 (X := Nat × Nat) (v := fun x => .slice (some ⟨x.1, 0, none⟩) 2 2) (Mn := fun y => [slRow w0.heap.size (some ⟨y.1, 0, none⟩) 7 ((hSpans u (some ⟨y.2, 0, none⟩) 2).map spV), slRow w0.heap.size (some ⟨y.2, 0, none⟩) 4 (hPts.map ptV)]) g1 g2 g3 ha (fun w hw => (spans_holds u w).mono fun e w' he => ?_) fun y => h y.1 y.2
  obtain ⟨a, x, rfl, ⟨h1, h2⟩, f1, f2, h3⟩ := he
  have nl : ∀ {b : Nat}, w.heap.size ≤ b → ∀ p, some (⟨b, 0, none⟩ : Addr) = some p → ∀ r ∈ M, ¬ r.lock p.block := fun hf p hp r hr hl => by
    cases hp
    have := ((hw.old r hr).2 _ (Row.lock_sup hl)).2
    dsimp only at this
    omega
  have k1 := (hw.ext h3).addSl (h2 _ (List.mem_cons_self ..)) (nl f2)
  refine ⟨(a, x), rfl, k1.addSl h1 fun p hp r hr => ?_⟩
  rcases List.mem_cons.1 hr with rfl | hr
  · exact fun h => h
  · exact nl f1 p hp r hr
theorem spOf {w0 w : World} {M : List Row} {N a x : Nat} {u : Q3} (hw : Sat w0 M w) (h1 : slRow N (some ⟨a, 0, none⟩) 7 ((hSpans u (some ⟨x, 0, none⟩) 2).map spV) ∈ M := by (repeat (first | exact List.Mem.head _ | apply List.Mem.tail))) (h2 : slRow N (some ⟨x, 0, none⟩) 4 (hPts.map ptV) ∈ M := by (repeat (first | exact List.Mem.head _ | apply List.Mem.tail))) : SpansAt w (some ⟨a, 0, none⟩) (hSpans u (some ⟨x, 0, none⟩) 2) := by
  refine ⟨hw.sl h1, fun s hs => ?_⟩
  rcases List.mem_cons.1 hs with rfl | hs
  · exact hw.sl h2
  · rw [List.mem_singleton.1 hs]; exact hw.sl h2
theorem ofHalf (w : World) : Calls Tryz.prog 39 #[.int .i64 1, .int .i64 2] w fun e w' => e = .returned (qA half) ∧ Below w.heap.size w w' := lof_holds 1 2 w (by decide) (by decide) (by decide) (by decide) (by decide)
theorem int1 (w : World) : Calls Tryz.prog 40 #[.int .i64 1] w fun e w' => e = .returned (qA one1) ∧ Below w.heap.size w w' := int_holds 1 w (by decide) (by decide)
theorem ex1' {x : Option Addr} {y : Nat} : rateE (hSp2 half x y) 3 = (rQ ((20 : Int) : Rat), 0) := ex1
theorem ldS0 {C : Ctx} {M : List Row} {a x N : Nat} (hP : C.P = Tryz.prog := by rfl) (h1 : slRow N (some ⟨a, 0, none⟩) 7 ((hSpans half (some ⟨x, 0, none⟩) 2).map spV) ∈ M := by (repeat (first | exact List.Mem.head _ | apply List.Mem.tail))) : LdV C M 59 ⟨a, 0 + 0 * 7, none⟩ (spA (hSp1 (some ⟨x, 0, none⟩) 2)) := by
  obtain ⟨P, b, PHI, N0, w0, D⟩ := C
  dsimp only at hP; subst hP
  exact LdV.aggSl (i := 0) h1 (show 0 < 2 by decide) rfl
theorem ldS1 {C : Ctx} {M : List Row} {a x N : Nat} (hP : C.P = Tryz.prog := by rfl) (h1 : slRow N (some ⟨a, 0, none⟩) 7 ((hSpans half (some ⟨x, 0, none⟩) 2).map spV) ∈ M := by (repeat (first | exact List.Mem.head _ | apply List.Mem.tail))) : LdV C M 59 ⟨a, 0 + 1 * 7, none⟩ (spA (hSp2 half (some ⟨x, 0, none⟩) 2)) := by
  obtain ⟨P, b, PHI, N0, w0, D⟩ := C
  dsimp only at hP; subst hP
  exact LdV.aggSl (i := 1) h1 (show 1 < 2 by decide) rfl
theorem cvIs {a : Q3} {n : Int} (h : a = rQ ((n : Int) : Rat)) (h1 : -999999999999999 ≤ n) (h2 : n ≤ 999999999999999) (w : World) : Calls Tryz.prog 41 #[qA a, .int .i64 0, .int .i64 n] w fun e w' => e = .returned (.bool true) ∧ Below w.heap.size w w' := by
  have := is_holds a 0 n w h1 h2
  rw [decide_eq_true ⟨rfl, h⟩] at this; exact this
theorem cvRate {w0 w : World} {M : List Row} {N x : Nat} {Q : Q3} (hQ : rateE (hSp2 half (some ⟨x, 0, none⟩) 2) 3 = (Q, 0)) (hw : Sat w0 M w) (h2 : slRow N (some ⟨x, 0, none⟩) 4 (hPts.map ptV) ∈ M := by (repeat (first | exact List.Mem.head _ | apply List.Mem.tail))) :
    Calls Tryz.prog 20 #[spA (hSp2 half (some ⟨x, 0, none⟩) 2), .int .i64 3] w fun e w' => e = .returned (.tuple #[qA Q, .int .i64 0]) ∧ Below w.heap.size w w' := by
  have := vRate_holds (hSp2 half (some ⟨x, 0, none⟩) 2) 3 w (hw.sl h2) (few_h (some ⟨x, 0, none⟩) 2 _ (List.mem_cons_of_mem _ (List.mem_cons_self ..)))
  rw [hQ] at this; exact this
theorem cvVal {w0 w : World} {M : List Row} {N a x b tot : Nat} {f E : Int} {Q : Q3} (hQ : volE f hHs (hSpans half (some ⟨x, 0, none⟩) 2) = (Q, E)) (hw : Sat w0 M w) (h1 : slRow N (some ⟨a, 0, none⟩) 7 ((hSpans half (some ⟨x, 0, none⟩) 2).map spV) ∈ M := by (repeat (first | exact List.Mem.head _ | apply List.Mem.tail))) (h2 : slRow N (some ⟨x, 0, none⟩) 4 (hPts.map ptV) ∈ M := by (repeat (first | exact List.Mem.head _ | apply List.Mem.tail))) (h3 : Row.blk b 3 (flat isV hHs) tot ∈ M := by (repeat (first | exact List.Mem.head _ | apply List.Mem.tail))) :
    Calls Tryz.prog 11 #[.agg #[.int .i64 f, .slice (some ⟨b, 0, none⟩) 10 10], .slice (some ⟨a, 0, none⟩) 2 2] w fun e w' => e = .returned (.tuple #[qA Q, .int .i64 E]) ∧ Below w.heap.size w w' := by
  have := val_holds f (some ⟨b, 0, none⟩) (some ⟨a, 0, none⟩) hHs (hSpans half (some ⟨x, 0, none⟩) 2) 10 2 w (SlAt.ofBlk (fun _ => rfl) hw h3) (spOf hw h1 h2) (few_h _ _) (by decide) (by decide)
  rw [hQ] at this; exact this
theorem cvTab {w0 w : World} {M : List Row} {N x b tot : Nat} {f t E : Int} {T : List (Int × Int)} {Q : Q3} (hQ : tableE ⟨f, t, T, some ⟨b, 0, none⟩, T.length, 0, 0⟩ (hSp1 (some ⟨x, 0, none⟩) 2) = (Q, E)) (hT : T.length ≤ 64) (hw : Sat w0 M w) (h2 : slRow N (some ⟨x, 0, none⟩) 4 (hPts.map ptV) ∈ M := by (repeat (first | exact List.Mem.head _ | apply List.Mem.tail))) (h3 : Row.blk b 88 (flat hoV T) tot ∈ M := by (repeat (first | exact List.Mem.head _ | apply List.Mem.tail))) :
    Calls Tryz.prog 22 #[rnA ⟨f, t, T, some ⟨b, 0, none⟩, T.length, 0, 0⟩, spA (hSp1 (some ⟨x, 0, none⟩) 2)] w fun e w' => e = .returned (.tuple #[qA Q, .int .i64 E]) ∧ Below w.heap.size w w' := by
  have := vTable_holds ⟨f, t, T, some ⟨b, 0, none⟩, T.length, 0, 0⟩ (hSp1 (some ⟨x, 0, none⟩) 2) w (SlAt.ofBlk (f := hoV) (fun _ => rfl) hw h3) (hw.sl h2) hT (few_h (some ⟨x, 0, none⟩) 2 _ (List.mem_cons_self ..))
  rw [hQ] at this; exact this
theorem cvGap {w0 w : World} {M : List Row} {N x : Nat} {f t lo hi E : Int} {Q : Q3} (hQ : tableE ⟨f, t, [], none, 0, lo, hi⟩ (hSp1 (some ⟨x, 0, none⟩) 2) = (Q, E)) (hw : Sat w0 M w) (h2 : slRow N (some ⟨x, 0, none⟩) 4 (hPts.map ptV) ∈ M := by (repeat (first | exact List.Mem.head _ | apply List.Mem.tail))) :
    Calls Tryz.prog 22 #[rnA ⟨f, t, [], none, 0, lo, hi⟩, spA (hSp1 (some ⟨x, 0, none⟩) 2)] w fun e w' => e = .returned (.tuple #[qA Q, .int .i64 E]) ∧ Below w.heap.size w w' := by
  have := vTable_holds ⟨f, t, [], none, 0, lo, hi⟩ (hSp1 (some ⟨x, 0, none⟩) 2) w (fun h => absurd h (Nat.lt_irrefl 0)) (hw.sl h2) (Nat.zero_le _) (few_h (some ⟨x, 0, none⟩) 2 _ (List.mem_cons_self ..))
  rw [hQ] at this; exact this
theorem cvEx2 {w0 w : World} {M : List Row} {N a x b b1 b2 tot t1 t2 : Nat} {f m t E : Int} {T1 T2 : List (Int × Int)} {u Q : Q3} (hQ : exE [⟨f, m, T1, some ⟨b1, 0, none⟩, T1.length, 0, 0⟩, ⟨m, t, T2, some ⟨b2, 0, none⟩, T2.length, 0, 0⟩] (hSpans u (some ⟨x, 0, none⟩) 2) = (Q, E)) (hT1 : T1.length ≤ 64) (hT2 : T2.length ≤ 64) (hf : ∀ s ∈ hSpans u (some ⟨x, 0, none⟩) 2, fewS s) (hw : Sat w0 M w) (h1 : slRow N (some ⟨a, 0, none⟩) 7 ((hSpans u (some ⟨x, 0, none⟩) 2).map spV) ∈ M := by (repeat (first | exact List.Mem.head _ | apply List.Mem.tail))) (h2 : slRow N (some ⟨x, 0, none⟩) 4 (hPts.map ptV) ∈ M := by (repeat (first | exact List.Mem.head _ | apply List.Mem.tail)))
    (h3 : Row.blk b 28 (flat rnV [⟨f, m, T1, some ⟨b1, 0, none⟩, T1.length, 0, 0⟩, ⟨m, t, T2, some ⟨b2, 0, none⟩, T2.length, 0, 0⟩]) tot ∈ M := by (repeat (first | exact List.Mem.head _ | apply List.Mem.tail))) (h4 : Row.blk b1 88 (flat hoV T1) t1 ∈ M := by (repeat (first | exact List.Mem.head _ | apply List.Mem.tail))) (h5 : Row.blk b2 88 (flat hoV T2) t2 ∈ M := by (repeat (first | exact List.Mem.head _ | apply List.Mem.tail))) :
    Calls Tryz.prog 24 #[.slice (some ⟨b, 0, none⟩) 2 2, .slice (some ⟨a, 0, none⟩) 2 2] w fun e w' => e = .returned (.tuple #[qA Q, .int .i64 E]) ∧ Below w.heap.size w w' := by
  have := exact_holds (some ⟨b, 0, none⟩) (some ⟨a, 0, none⟩) [⟨f, m, T1, some ⟨b1, 0, none⟩, T1.length, 0, 0⟩, ⟨m, t, T2, some ⟨b2, 0, none⟩, T2.length, 0, 0⟩] (hSpans u (some ⟨x, 0, none⟩) 2) 2 2 w ⟨SlAt.ofBlk (fun _ => rfl) hw h3, fun r hr => by
    rcases List.mem_cons.1 hr with rfl | hr
    · exact SlAt.ofBlk (f := hoV) (fun _ => rfl) hw h4
    · rw [List.mem_singleton.1 hr]; exact SlAt.ofBlk (f := hoV) (fun _ => rfl) hw h5⟩ (spOf hw h1 h2) hf (fun r hr => by
    rcases List.mem_cons.1 hr with rfl | hr
    · exact hT1
    · rw [List.mem_singleton.1 hr]; exact hT2) (by simp)
  rw [hQ] at this; exact this
theorem cvEx1 {w0 w : World} {M : List Row} {N a x b b1 tot t1 : Nat} {f m E : Int} {T1 : List (Int × Int)} {u Q : Q3} (hQ : exE [⟨f, m, T1, some ⟨b1, 0, none⟩, T1.length, 0, 0⟩] (hSpans u (some ⟨x, 0, none⟩) 2) = (Q, E)) (hT1 : T1.length ≤ 64) (hf : ∀ s ∈ hSpans u (some ⟨x, 0, none⟩) 2, fewS s) (hw : Sat w0 M w) (h1 : slRow N (some ⟨a, 0, none⟩) 7 ((hSpans u (some ⟨x, 0, none⟩) 2).map spV) ∈ M := by (repeat (first | exact List.Mem.head _ | apply List.Mem.tail))) (h2 : slRow N (some ⟨x, 0, none⟩) 4 (hPts.map ptV) ∈ M := by (repeat (first | exact List.Mem.head _ | apply List.Mem.tail)))
    (h3 : Row.blk b 28 (flat rnV [⟨f, m, T1, some ⟨b1, 0, none⟩, T1.length, 0, 0⟩]) tot ∈ M := by (repeat (first | exact List.Mem.head _ | apply List.Mem.tail))) (h4 : Row.blk b1 88 (flat hoV T1) t1 ∈ M := by (repeat (first | exact List.Mem.head _ | apply List.Mem.tail))) :
    Calls Tryz.prog 24 #[.slice (some ⟨b, 0, none⟩) 1 1, .slice (some ⟨a, 0, none⟩) 2 2] w fun e w' => e = .returned (.tuple #[qA Q, .int .i64 E]) ∧ Below w.heap.size w w' := by
  have := exact_holds (some ⟨b, 0, none⟩) (some ⟨a, 0, none⟩) [⟨f, m, T1, some ⟨b1, 0, none⟩, T1.length, 0, 0⟩] (hSpans u (some ⟨x, 0, none⟩) 2) 1 2 w ⟨SlAt.ofBlk (fun _ => rfl) hw h3, fun r hr => by
    rw [List.mem_singleton.1 hr]; exact SlAt.ofBlk (f := hoV) (fun _ => rfl) hw h4⟩ (spOf hw h1 h2) hf (fun r hr => by
    rw [List.mem_singleton.1 hr]; exact hT1) (by simp)
  rw [hQ] at this; exact this
theorem cvChk {w0 w : World} {M : List Row} {N a x : Nat} (hw : Sat w0 M w) (h1 : slRow N (some ⟨a, 0, none⟩) 7 ((hSpans half (some ⟨x, 0, none⟩) 2).map spV) ∈ M := by (repeat (first | exact List.Mem.head _ | apply List.Mem.tail))) (h2 : slRow N (some ⟨x, 0, none⟩) 4 (hPts.map ptV) ∈ M := by (repeat (first | exact List.Mem.head _ | apply List.Mem.tail))) :
    Calls Tryz.prog 17 #[.slice (some ⟨a, 0, none⟩) 2 2] w fun e w' => e = .returned (.int .i64 0) ∧ Below w.heap.size w w' := by
  have := vCheck_holds (some ⟨a, 0, none⟩) (hSpans half (some ⟨x, 0, none⟩) 2) 2 w (spOf hw h1 h2) (few_h _ _)
  rw [hs_chk] at this; exact this
theorem cvCut {w0 w : World} {M : List Row} {N a x : Nat} (hw : Sat w0 M w) (h1 : slRow N (some ⟨a, 0, none⟩) 7 ((hSpans half (some ⟨x, 0, none⟩) 2).map spV) ∈ M := by (repeat (first | exact List.Mem.head _ | apply List.Mem.tail))) (h2 : slRow N (some ⟨x, 0, none⟩) 4 (hPts.map ptV) ∈ M := by (repeat (first | exact List.Mem.head _ | apply List.Mem.tail))) :
    Calls Tryz.prog 13 #[.slice (some ⟨a, 0, none⟩) 2 2, .agg #[.int .i64 12, .int .i64 15]] w (RetO Tryz.prog w 59 7 2 [.int .i64 12, .int .i64 14, .bool (rQ ((1 : Int) : Rat)).neg, .string (bs (rQ ((1 : Int) : Rat)).num), .string (bs (rQ ((1 : Int) : Rat)).den), .int .i64 0, .slice (some ⟨x, 0, none⟩) 2 2, .int .i64 14, .int .i64 15, .bool half.neg, .string (bs half.num), .string (bs half.den), .int .i64 1, .slice (some ⟨x, 0, none⟩) 2 2] (fun u => .tuple #[u, .int .i64 0])) := by
  have := vCut_holds (some ⟨a, 0, none⟩) (hSpans half (some ⟨x, 0, none⟩) 2) 2 12 15 w (spOf hw h1 h2) (few_h _ _)
  rw [hs_cut] at this; exact this
theorem cvScale {w0 w : World} {M : List Row} {N a x : Nat} (hw : Sat w0 M w) (h1 : slRow N (some ⟨a, 0, none⟩) 7 ((hSpans half (some ⟨x, 0, none⟩) 2).map spV) ∈ M := by (repeat (first | exact List.Mem.head _ | apply List.Mem.tail))) (h2 : slRow N (some ⟨x, 0, none⟩) 4 (hPts.map ptV) ∈ M := by (repeat (first | exact List.Mem.head _ | apply List.Mem.tail))) :
    Calls Tryz.prog 15 #[.slice (some ⟨a, 0, none⟩) 2 2, qA (rQ ((2 : Int) : Rat))] w (RetO Tryz.prog w 59 7 2 [.int .i64 10, .int .i64 14, .bool (rQ ((2 : Int) : Rat)).neg, .string (bs (rQ ((2 : Int) : Rat)).num), .string (bs (rQ ((2 : Int) : Rat)).den), .int .i64 0, .slice (some ⟨x, 0, none⟩) 2 2, .int .i64 14, .int .i64 20, .bool one1.neg, .string (bs one1.num), .string (bs one1.den), .int .i64 1, .slice (some ⟨x, 0, none⟩) 2 2] (fun u => .tuple #[u, .int .i64 0])) := by
  have := vScale_holds (some ⟨a, 0, none⟩) (hSpans half (some ⟨x, 0, none⟩) 2) 2 (rQ ((2 : Int) : Rat)) w (spOf hw h1 h2) (few_h _ _) ex15
  rw [hs_scale] at this; exact this
end Go.Proofs.YthkdfpbjkpgckaaGreatDoor
namespace Go.Proofs.YthkdfpbjkpgckaaGreatDoor
open Go.RowKit Go.Sl Go.Num
attribute [local irreducible] rQ half one1 volE tableE exE rateE hSpans Calls
set_option maxRecDepth 20000 in
set_option maxHeartbeats 4000000 in
theorem sanity_holds (w : World) : Calls Tryz.prog 10 #[] w fun e w' => e = .returned (.bool true) ∧ Below w.heap.size w w' := by
  have hh := fun w' (_ : Below w.heap.size w w') => ofHalf w'
  have n1 := fun w' (_ : Below w.heap.size w w') => int1 w'
  have n2 := fun w' (_ : Below w.heap.size w w') => int_holds 2 w' (by decide) (by decide)
  have i20 := fun w' (_ : Below w.heap.size w w') => cvIs (n := 20) rfl (by decide) (by decide) w'
  have i280 := fun w' (_ : Below w.heap.size w w') => cvIs (n := 280) rfl (by decide) (by decide) w'
  have i100 := fun w' (_ : Below w.heap.size w w') => cvIs (n := 100) rfl (by decide) (by decide) w'
  have i60 := fun w' (_ : Below w.heap.size w w') => cvIs (n := 60) rfl (by decide) (by decide) w'
  have i190 := fun w' (_ : Below w.heap.size w w') => cvIs (n := 190) rfl (by decide) (by decide) w'
  have i220 := fun w' (_ : Below w.heap.size w w') => cvIs (n := 220) rfl (by decide) (by decide) w'
  refine enterA [] Tryz.func10 Tryz.ntmps10 ?_
  all_goals (refine go ?_; and_intros <;> (try exact trivial) <;> intros)
  repeat' ((first | (refine G.cvb (vs := [.int .i64 1]) n1 ?_) | (refine G.cvb (vs := [.int .i64 2]) n2 ?_) | (refine G.cvb hh ?_) | (refine G.spn half ?_; intro a1 x1) | (refine G.spn one1 ?_; intro a2 x2) | (apply G.sliceL; rfl; rfl; rfl; rfl; rfl; rfl; rfl; rfl; intro Bs) | (apply G.ld; rfl; exact ldS1; rfl) | (apply G.ld; rfl; exact ldS0; rfl) | (apply G.cV (g := 20); rfl; rfl; exact fun w' hw => cvRate ex1' hw) | (apply G.cV (g := 11); rfl; rfl; exact fun w' hw => cvVal (hs_val _ _) hw) | (apply G.cV (g := 11); rfl; rfl; exact fun w' hw => cvVal (hs_gap _ _) hw) | (apply G.cV (g := 22); rfl; rfl; exact fun w' hw => cvTab (T := [(1, 3), (7, 1)]) (hs_t1 _ _ _ _) (Nat.le_of_ble_eq_true rfl) hw) | (apply G.cV (g := 22); rfl; rfl; exact fun w' hw => cvTab (T := [(1, 5)]) (hs_t2 _ _ _ _) (Nat.le_of_ble_eq_true rfl) hw) | (apply G.cV (g := 22); rfl; rfl; exact fun w' hw => cvGap (lo := 3) (hi := 3) (hs_t3 _ _ _ _) hw) | (apply G.cV (g := 22); rfl; rfl; exact fun w' hw => cvGap (lo := 3) (hi := 4) (hs_t4 _ _ _ _) hw) | (apply G.cV (g := 24); rfl; rfl; exact fun w' hw => cvEx2 (hs_e1 _ _ _ _ _ _) (Nat.le_of_ble_eq_true rfl) (Nat.le_of_ble_eq_true rfl) (few_h _ _) hw) | (apply G.cV (g := 24); rfl; rfl; exact fun w' hw => cvEx1 (u := half) (a := a1) (hs_e2 _ _ _ _) (Nat.le_of_ble_eq_true rfl) (few_h _ _) hw) | (apply G.cV (g := 24); rfl; rfl; exact fun w' hw => cvEx1 (u := one1) (a := a2) (hs_e3 _ _ _ _) (Nat.le_of_ble_eq_true rfl) (few_h1 _ _) hw) | (apply G.cO (g := 13) (fun u => .tuple #[u, .int .i64 0]); rfl; rfl; exact fun w' hw => cvCut hw; intro uc; refine G.ownOpen RAt.au (Nat.zero_lt_succ 1) ?_; intro g1 p1 hg1 hp1 hv; subst hv) | (apply G.cO (g := 15) (fun u => .tuple #[u, .int .i64 0]); rfl; rfl; exact fun w' hw => cvScale hw; intro us; refine G.ownOpen RAt.au (Nat.zero_lt_succ 1) ?_; intro g2 p2 hg2 hp2 hv; subst hv) | (refine G.cvb (vs := [qA (rQ ((20 : Int) : Rat)), .int .i64 0, .int .i64 20]) i20 ?_) | (refine G.cvb (vs := [qA (rQ ((280 : Int) : Rat)), .int .i64 0, .int .i64 280]) i280 ?_) | (refine G.cvb (vs := [qA (rQ ((100 : Int) : Rat)), .int .i64 0, .int .i64 100]) i100 ?_) | (refine G.cvb (vs := [qA (rQ ((60 : Int) : Rat)), .int .i64 0, .int .i64 60]) i60 ?_) | (refine G.cvb (vs := [qA (rQ ((190 : Int) : Rat)), .int .i64 0, .int .i64 190]) i190 ?_) | (refine G.cvb (vs := [qA (rQ ((220 : Int) : Rat)), .int .i64 0, .int .i64 220]) i220 ?_) | (apply G.eqR one1 one1; rfl; rfl; rfl; all_goals intro h; all_goals try (exact absurd rfl h)) | (apply G.cV (g := 17); rfl; rfl; exact fun w' hw => cvChk hw)) <;> (refine go ?_; and_intros <;> (try exact trivial) <;> intros))
  all_goals refine ret1b Tryz.func10 Tryz.results10 ?_
  all_goals rfl
end Go.Proofs.YthkdfpbjkpgckaaGreatDoor
namespace Go.Sl
open Go.RowKit Go.ChangeShapes Go.WideShapes
theorem list1 {A : Type} {l : List A} (h : l.length = 1) : ∃ a, l = [a] := by
  match l, h with
  | [a], _ => exact ⟨a, rfl⟩
theorem Reads.struct1 {P : Program} {T : TypeId} {A1 : Type} {f1 : A1 → List Value} {G1 : World → A1 → Prop} {d1 : Field} {n : Nat} (ht : P.underlying T = some (.struct #[d1])) (hn : P.cellsOf T = n) (hT : tight P #[d1] n = true) (h1 : Reads P d1.type f1 G1) :
    Reads P T f1 G1 := .mk fun enc w fuel cs x hx => by
  obtain ⟨hj, hl, hf⟩ := Reads.struct ht hn hT hx
  obtain ⟨p1, hp⟩ := list1 hl
  rw [hp] at hj hf
  obtain ⟨_, _, r1⟩ := hf 0 d1 p1 rfl rfl
  obtain ⟨a1, rfl, g1⟩ := h1.go enc w _ _ _ r1
  exact ⟨a1, by rw [hj]; simp, g1⟩
end Go.Sl
namespace Go.Proofs.YthkdfpbjkpgckaaGreatDoor
open Go.RowKit Go.Sl Go.Num Go.ChangeShapes Go.WideShapes
theorem own : ownKnob Tryz.prog.godebug = none := by kernel_rfl
theorem laidOut : laidOutB Tryz.prog = true := by kernel_rfl
theorem rInt : Reads Tryz.prog 3 isV (fun _ _ => True) := (Reads.int Tryz.underlying3).mono fun _ _ _ => trivial
theorem rStr : Reads Tryz.prog 9 (fun l : List UInt8 => [.string (bs l)]) (fun _ _ => True) := (Reads.string Tryz.underlying9).turn fun _ s _ => ⟨s.data.toList, by rw [bs_of], trivial⟩
theorem rBool : Reads Tryz.prog 4 (fun b : Bool => [.bool b]) (fun _ _ => True) := Reads.bool Tryz.underlying4
theorem rRat : Reads Tryz.prog 32 (fun a : Q3 => [.bool a.neg, .string (bs a.num), .string (bs a.den)]) (fun _ _ => True) := (Reads.struct3 (n := 3) Tryz.underlying32 (by kernel_rfl) (by kernel_rfl) rBool rStr rStr).turn fun _ a _ => ⟨⟨a.1, a.2.1, a.2.2⟩, rfl, trivial⟩
theorem rPoint : Reads Tryz.prog 126 ptV (fun _ _ => True) := (Reads.struct2 (n := 4) Tryz.underlying126 (by kernel_rfl) (by kernel_rfl) rInt rRat).turn fun _ a _ => ⟨a, rfl, trivial⟩
theorem rPoints : Reads Tryz.prog 55 (fun s : Sld Pnt => [s.v]) (fun w s => SlAt w s.ad 4 (s.l.map ptV)) := (Reads.slice (sz := 4) Tryz.underlying55 (by kernel_rfl) (by decide) rPoint).mono fun _ _ h => h.1
theorem rCurve : Reads Tryz.prog 57 (fun s : Sld Pnt => [s.v]) (fun w s => SlAt w s.ad 4 (s.l.map ptV)) := Reads.struct1 (n := 1) Tryz.underlying57 (by kernel_rfl) (by kernel_rfl) rPoints
theorem rSpan : Reads Tryz.prog 59 spV PtsAt := (Reads.struct5 (n := 7) Tryz.underlying59 (by kernel_rfl) (by kernel_rfl) rInt rInt rRat rInt rCurve).turn fun _ a h => ⟨⟨a.1, a.2.1, a.2.2.1, a.2.2.2.1, a.2.2.2.2.l, a.2.2.2.2.ad, a.2.2.2.2.cap⟩, rfl, h.2.2.2.2⟩
theorem rSpans : Reads Tryz.prog 25 (fun s : Sld Spn => [s.v]) (fun w s => SpansAt w s.ad s.l) := (Reads.slice (sz := 7) Tryz.underlying25 (by kernel_rfl) (by decide) rSpan).mono fun _ _ h => ⟨h.1, h.2.2.2⟩
theorem rHold : Reads Tryz.prog 88 hoV (fun _ _ => True) := (Reads.struct2 (n := 2) Tryz.underlying88 (by kernel_rfl) (by kernel_rfl) rInt rInt).turn fun _ a _ => ⟨a, rfl, trivial⟩
theorem rHolds : Reads Tryz.prog 26 (fun s : Sld (Int × Int) => [s.v]) (fun w s => SlAt w s.ad 2 (s.l.map hoV)) := (Reads.slice (sz := 2) Tryz.underlying26 (by kernel_rfl) (by decide) rHold).mono fun _ _ h => h.1
theorem rRun : Reads Tryz.prog 28 rnV TabAt := (Reads.struct5 (n := 5) Tryz.underlying28 (by kernel_rfl) (by kernel_rfl) rInt rInt rHolds rInt rInt).turn fun _ a h => ⟨⟨a.1, a.2.1, a.2.2.1.l, a.2.2.1.ad, a.2.2.1.cap, a.2.2.2.1, a.2.2.2.2⟩, rfl, h.2.2.1⟩
theorem rRuns : Reads Tryz.prog 37 (fun s : Sld Rn => [s.v]) (fun w s => RunsAt w s.ad s.l) := (Reads.slice (sz := 5) Tryz.underlying37 (by kernel_rfl) (by decide) rRun).mono fun _ _ h => ⟨h.1, h.2.2.2⟩
end Go.Proofs.YthkdfpbjkpgckaaGreatDoor
/-
  The law VolumeExactAsSpecified holds: for every input the call returns true, and the arguments read afterwards as they read before.
-/
namespace Go.Proofs.YthkdfpbjkpgckaaGreatDoor
open Go.RowKit Go.Sl Go.ChangeShapes Go.WideShapes Go.ChangeAt
abbrev laidL : List (String × DataW Unit) := [("unicode/utf8.acceptRanges", Rows.laid_unicode_utf8_acceptRanges), ("unicode/utf8.first", Rows.laid_unicode_utf8_first)]
end Go.Proofs.YthkdfpbjkpgckaaGreatDoor
namespace Go.Proofs.YthkdfpbjkpgckaaGreatDoor
open Go.RowKit Go.Sl Go.Num
theorem spErr_iff {l : List Spn} {z : Int} : spErr z l = 0 ↔ (∀ s ∈ l, RightS s) ∧ InOrd z l := by
  constructor
  · exact fun h => ⟨spErr_ok h, inOrd_of h⟩
  · induction l generalizing z with
    | nil => exact fun _ => rfl
    | cons s l ih =>
      rintro ⟨h1, h2, h3, h4⟩
      have h5 := h1 s (List.mem_cons_self ..)
      rw [spErr, if_neg (by simp [h5]; omega)]
      exact ih ⟨fun t ht => h1 t (List.mem_cons_of_mem _ ht), h4⟩
/-! ### scaled spans -/
/-! ### raw runs -/
theorem rnErr_chn : ∀ {L : List Rn} {p : Option Rn} {f : Int}, Chn f L → (∀ q, p = some q → q.to_ = f) → (∀ r ∈ L, inT r = true) → (∀ r ∈ L, oneE r = 0) → rnErr p L = 0
  | [], _, _, _, _, _, _ => rfl
  | r :: L, p, f, h, hp, h1, h2 => by
    have m := List.mem_cons_self (a := r) (l := L)
    have h3 := rnErr_chn (p := some r) h.2 (fun q hq => by cases hq; rfl) (fun x hx => h1 x (List.mem_cons_of_mem _ hx)) fun x hx => h2 x (List.mem_cons_of_mem _ hx)
    have h4 := h1 r m
    have h5 := h2 r m
    have h6 := h.1
    cases p with
    | none =>
      show (if inT r = false then (3 : Int) else if false = true then 1 else if oneE r ≠ 0 then oneE r else rnErr (some r) L) = 0
      rw [h4, if_neg (by decide), if_neg (by decide), h5, if_neg (by decide)]; exact h3
    | some q =>
      have h7 := hp q rfl
      show (if inT r = false then (3 : Int) else if decide (r.from_ ≠ q.to_) = true then 1 else if oneE r ≠ 0 then oneE r else rnErr (some r) L) = 0
      rw [h4, if_neg (by decide), if_neg (by simp; omega), h5, if_neg (by decide)]; exact h3
end Go.Proofs.YthkdfpbjkpgckaaGreatDoor
namespace Go.Proofs.YthkdfpbjkpgckaaGreatDoor
open Go.RowKit Go.Sl Go.Num
/-- A count is set. -/
def setC (x n : Int) : List (Int × Int) → List (Int × Int)
  | [] => [(x, n)]
  | (y, m) :: r => if x = y then (x, n) :: r else (y, m) :: setC x n r
theorem put_setC (x n : Int) : ∀ L : List (Int × Int), putM x (.int .i64 n) (L.map iv) = (setC x n L).map iv
  | [] => rfl
  | (y, m) :: r => by
    rw [List.map_cons, iv, putM, setC]
    split
    · rfl
    · rw [put_setC x n r]; rfl
theorem cnt_setC (x y n : Int) : ∀ L : List (Int × Int), cnt x (setC y n L) = if x = y then n else cnt x L
  | [] => rfl
  | (z, m) :: r => by
    rw [setC]
    by_cases h : y = z
    · subst h
      rw [if_pos rfl, cnt, cnt]
      by_cases h2 : x = y
      · rw [if_pos h2, if_pos h2]
      · rw [if_neg h2, if_neg h2, if_neg h2]
    · rw [if_neg h, cnt, cnt, cnt_setC x y n r]
      by_cases h2 : x = z
      · rw [if_pos h2, if_pos h2, if_neg (by omega)]
      · rw [if_neg h2, if_neg h2]
def fillC (L : List (Int × Int)) : List (Int × Int) → List (Int × Int)
  | [] => L
  | (s, t) :: r => fillC (setC s t L) r
theorem fillC_bd {m : Int} (hm : 0 ≤ m) : ∀ (tab L : List (Int × Int)), (∀ x, 0 ≤ cnt x L ∧ cnt x L ≤ m) → (∀ p ∈ tab, 0 ≤ p.2 ∧ p.2 ≤ m) → ∀ x, 0 ≤ cnt x (fillC L tab) ∧ cnt x (fillC L tab) ≤ m
  | [], _, h, _, x => h x
  | (s, t) :: r, L, h, h2, x => fillC_bd hm r (setC s t L) (fun y => by
      have := h2 _ (List.mem_cons_self ..)
      rw [cnt_setC]
      split
      · exact this
      · exact h y) (fun p hp => h2 p (List.mem_cons_of_mem _ hp)) x
/-- Does a stage not fit. -/
def badC (g : Bool) (lo hi : Int) (L : List (Int × Int)) (s : Int) : Bool := if g = true then !decide (lo ≤ s ∧ s ≤ hi) else decide (cnt s L = 0)
def goC (g : Bool) (lo hi : Int) : List (Int × Int) → List Int → Bool
  | _, [] => true
  | L, s :: r => !badC g lo hi L s && goC g lo hi (setC s (cnt s L - 1) L) r
def agr1 (r : Rn) (seg : List Int) : Bool := goC (decide (r.tab.length = 0)) r.lo r.hi (fillC [] r.tab) seg
def agrL (f : Int) (hs : List Int) : List Rn → Bool
  | [] => true
  | r :: t => agr1 r ((hs.drop (r.from_ - f).toNat).take (r.to_ - r.from_).toNat) && agrL f hs t
def agreeB (rs : List Rn) (f : Int) (hs : List Int) : Bool :=
  if runsErr rs ≠ 0 ∨ rightH f hs = false then false else match rs[0]?, rs[rs.length - 1]? with
  | some a, some b => if f ≠ a.from_ ∨ (hs.length : Int) ≠ b.to_ - f then false else agrL f hs rs
  | _, _ => decide (hs.length = 0)
theorem chn_in : ∀ {L : List Rn} {f : Int} (hp : 0 < L.length), Chn f L → (∀ r ∈ L, inT r = true) → ∀ (k : Nat) (hk : k < L.length), f ≤ L[k].from_ ∧ L[k].from_ < L[k].to_ ∧ L[k].to_ ≤ (L[L.length - 1]).to_
  | [r], f, _, h, h1, k, hk => by
    have h2 := h1 r (List.mem_cons_self ..)
    rw [inT, decide_eq_true_eq] at h2
    have := h.1
    obtain rfl : k = 0 := by rw [List.length_singleton] at hk; omega
    simp only [List.length_singleton, Nat.sub_self, List.getElem_cons_zero]
    omega
  | r :: s :: t, f, _, h, h1, k, hk => by
    have h2 := h1 r (List.mem_cons_self ..)
    rw [inT, decide_eq_true_eq] at h2
    have h3 := h.1
    have h4 := chn_in (L := s :: t) (Nat.zero_lt_succ _) h.2 fun x hx => h1 x (List.mem_cons_of_mem _ hx)
    simp only [List.length_cons, Nat.add_sub_cancel, List.getElem_cons_succ] at h4 ⊢
    cases k with
    | zero =>
      have := h4 0 (by omega)
      simp only [List.getElem_cons_zero] at this ⊢
      omega
    | succ k =>
      have := h4 k (by simpa using hk)
      simp only [List.getElem_cons_succ]
      omega
set_option maxHeartbeats 4000000 in
theorem agree_holds (a b : Option Addr) (rs : List Rn) (f : Int) (hs : List Int) (c d : Nat) (w : World) (hA : RunsAt w a rs) (hB : SlAt w b 1 (hs.map isV)) (hfr : ∀ r ∈ rs, r.tab.length ≤ 64) (hcap : hs.length ≤ d) (hl : hs.length ≤ 1000000000) :
    Calls Tryz.prog 34 #[.slice a rs.length c, .agg #[.int .i64 f, .slice b hs.length d]] w fun e w' => e = .returned (.bool (agreeB rs f hs)) ∧ Below w.heap.size w w' := by
  have hc := fun w' (hb : Below w.heap.size w w') => vRuns_holds a rs c w' (hA.below hb) hfr
  have hr := fun w' (hb : Below w.heap.size w w') => hRight_holds f b hs d w' (hB.below hb) hl
  rw [agreeB]
  by_cases h1 : ¬ runsErr rs = 0
  · rw [if_pos (.inl h1)]
    generalize runsErr rs = E at *
    refine enterA [(0, .slice a rs.length c), (1, .agg #[.int .i64 f, .slice b hs.length d])] Tryz.func34 Tryz.ntmps34 ?_
    all_goals (refine go ?_; and_intros <;> (try exact trivial) <;> intros)
    repeat' ((first | (refine G.cvb hc ?_)) <;> (refine go ?_; and_intros <;> (try exact trivial) <;> intros))
    all_goals refine ret1b Tryz.func34 Tryz.results34 ?_
    all_goals rfl
  rw [Decidable.not_not] at h1
  have ⟨_, k5, _⟩ := runsErr_ok h1
  have k6 := runsErr_one h1
  have hch : Chn (firstF rs) rs := chn_of (p := none) (runsErr_rn h1)
  by_cases h2 : rightH f hs = false
  · rw [if_pos (.inr h2)]
    rw [h1] at hc
    rw [h2] at hr
    refine enterA [(0, .slice a rs.length c), (1, .agg #[.int .i64 f, .slice b hs.length d])] Tryz.func34 Tryz.ntmps34 ?_
    all_goals (refine go ?_; and_intros <;> (try exact trivial) <;> intros)
    repeat' ((first | (refine G.cvb hc ?_) | (refine G.cvb hr ?_)) <;> (refine go ?_; and_intros <;> (try exact trivial) <;> intros))
    all_goals refine ret1b Tryz.func34 Tryz.results34 ?_
    all_goals rfl
  rw [if_neg (by rw [h1]; simp [h2])]
  rw [Bool.not_eq_false] at h2
  rw [h1] at hc
  rw [h2] at hr
  obtain ⟨k3, k4⟩ := rightH_ok h2
  clear h1 h2
  rcases Nat.eq_zero_or_pos rs.length with h0 | h0
  · rw [List.getElem?_eq_none (by omega)]
    show Calls _ _ _ _ fun e w' => e = .returned (.bool (decide (hs.length = 0))) ∧ Below w.heap.size w w'
    by_cases h3 : hs.length = 0
    · rw [decide_eq_true h3]
      refine enterA [(0, .slice a rs.length c), (1, .agg #[.int .i64 f, .slice b hs.length d])] Tryz.func34 Tryz.ntmps34 ?_
      all_goals (refine go ?_; and_intros <;> (try exact trivial) <;> intros)
      repeat' ((first | (refine G.cvb hc ?_) | (refine G.cvb hr ?_)) <;> (refine go ?_; and_intros <;> (try exact trivial) <;> intros))
      all_goals refine ret1b Tryz.func34 Tryz.results34 ?_
      all_goals exact ret_bool (by first | (rw [decide_eq_true (by omega)]) | rfl)
    · rw [decide_eq_false h3]
      refine enterA [(0, .slice a rs.length c), (1, .agg #[.int .i64 f, .slice b hs.length d])] Tryz.func34 Tryz.ntmps34 ?_
      all_goals (refine go ?_; and_intros <;> (try exact trivial) <;> intros)
      repeat' ((first | (refine G.cvb hc ?_) | (refine G.cvb hr ?_)) <;> (refine go ?_; and_intros <;> (try exact trivial) <;> intros))
      all_goals refine ret1b Tryz.func34 Tryz.results34 ?_
      all_goals exact ret_bool (by first | (rw [decide_eq_false (by omega)]) | rfl)
  rw [List.getElem?_eq_getElem h0, List.getElem?_eq_getElem (show rs.length - 1 < rs.length by omega)]
  dsimp only
  have hin := chn_in h0 hch k5
  have hz : (rs.length : Int) - 1 = ((rs.length - 1 : Nat) : Int) := by omega
  have hfF : firstF rs = rs[0].from_ := by
    cases rs with
    | nil => exact absurd h0 (Nat.lt_irrefl _)
    | cons r t => rfl
  rw [hfF] at hin
  obtain ⟨ba, oa, rfl, hra⟩ := SlAt.all hA.1 (by omega)
  have r1 := hra 0 h0
  have r2 := hra (rs.length - 1) (by omega)
  have i1 := k5 _ (List.getElem_mem h0)
  have i2 := k5 _ (List.getElem_mem (show rs.length - 1 < rs.length by omega))
  rw [inT, decide_eq_true_eq] at i1 i2
  refine enterA [(0, .slice (some ⟨ba, oa, none⟩) rs.length c), (1, .agg #[.int .i64 f, .slice b hs.length d])] Tryz.func34 Tryz.ntmps34 ?_
  by_cases h3 : f ≠ rs[0].from_ ∨ (hs.length : Int) ≠ (rs[rs.length - 1]).to_ - f
  · rw [if_pos h3]
    clear hin hfF hch
    generalize rs[0] = x at *
    generalize rs[rs.length - 1] = y at *
    obtain ⟨f1, u, tab, adr, cap, lo, hi⟩ := x
    obtain ⟨f2, u2, tab2, adr2, cap2, lo2, hi2⟩ := y
    dsimp only [rnV] at *
    rcases h3 with h3 | h3
    · skip
      all_goals (refine go ?_; and_intros <;> (try exact trivial) <;> intros)
      repeat' ((first | (refine G.cvb hc ?_) | (refine G.cvb hr ?_) | (apply G.ix; rfl; rfl; exact hz; omega; rfl) | (apply G.ix (i := 0); rfl; rfl; exact rfl; omega; rfl)) <;> (refine go ?_; and_intros <;> (try exact trivial) <;> intros))
      all_goals refine ret1b Tryz.func34 Tryz.results34 ?_
      all_goals rfl
    · skip
      all_goals (refine go ?_; and_intros <;> (try exact trivial) <;> intros)
      repeat' ((first | (refine G.cvb hc ?_) | (refine G.cvb hr ?_) | (apply G.ix; rfl; rfl; exact hz; omega; rfl) | (apply G.ix (i := 0); rfl; rfl; exact rfl; omega; rfl)) <;> (refine go ?_; and_intros <;> (try exact trivial) <;> intros))
      all_goals
        all_goals refine ret1b Tryz.func34 Tryz.results34 ?_
        all_goals rfl
  rw [if_neg h3]
  rw [not_or, Decidable.not_not, Decidable.not_not] at h3
  obtain ⟨h3, h4⟩ := h3
  rw [← h3] at hin
  have hin2 : ∀ (k : Nat) (hk : k < rs.length), f ≤ rs[k].from_ ∧ rs[k].from_ < rs[k].to_ ∧ rs[k].to_ ≤ f + hs.length := fun k hk => by have := hin k hk; omega
  clear hin hfF hch
  have r1' := r1
  have r2' := r2
  rw [show rnV rs[0] = [.int .i64 rs[0].from_, .int .i64 rs[0].to_, .slice rs[0].adr rs[0].tab.length rs[0].cap, .int .i64 rs[0].lo, .int .i64 rs[0].hi] from rfl] at r1'
  rw [show rnV rs[rs.length - 1] = [.int .i64 (rs[rs.length - 1]).from_, .int .i64 (rs[rs.length - 1]).to_, .slice (rs[rs.length - 1]).adr (rs[rs.length - 1]).tab.length (rs[rs.length - 1]).cap, .int .i64 (rs[rs.length - 1]).lo, .int .i64 (rs[rs.length - 1]).hi] from rfl] at r2'
  all_goals (refine go ?_; and_intros <;> (try exact trivial) <;> intros)
  repeat' ((first | (refine G.cvb hc ?_) | (refine G.cvb hr ?_) | (apply G.ix; rfl; rfl; exact hz; omega; rfl) | (apply G.ix (i := 0); rfl; rfl; exact rfl; omega; rfl)) <;> (refine go ?_; and_intros <;> (try exact trivial) <;> intros))
  clear hc hr r1 r2 r1' r2' i1 i2
  generalize hT : agrL f hs rs = T
  refine J.loop (c := _) (0 : Nat) (fun s => rs.length - s) (fun s => [(3, .pointer (some ⟨_, 0, none⟩)), (50, .slice (some ⟨ba, oa, none⟩) rs.length c), (51, .int .i64 rs.length), (52, .int .i64 s)]) (fun s => [.blk _ 24 [.int .i64 f, .slice b hs.length d] 2]) (fun s => s ≤ rs.length ∧ agrL f hs (rs.drop s) = T) ?_ sbT sbL ?_
  · exact ⟨Nat.zero_le _, hT⟩
  clear hT
  intro k ⟨e1, e2⟩ ih
  by_cases hk : k < rs.length
  · have hrk := hra k hk
    have htk := hA.2 _ (List.getElem_mem hk)
    have hik := hin2 k hk
    have hok := k6 _ (List.getElem_mem hk)
    have hik2 := k5 _ (List.getElem_mem hk)
    rw [inT, decide_eq_true_eq] at hik2
    have hlk := hfr _ (List.getElem_mem hk)
    rw [List.drop_eq_getElem_cons hk, agrL] at e2
    have hbd : ∀ x, 0 ≤ cnt x (fillC [] rs[k].tab) ∧ cnt x (fillC [] rs[k].tab) ≤ 1402560 := by
      by_cases ht : rs[k].tab.length = 0
      · rw [List.length_eq_zero_iff.1 ht]; exact fun x => ⟨Int.le_refl _, by show (0 : Int) ≤ 1402560; decide⟩
      · obtain ⟨t1, _⟩ := oneE_tab hok ht
        exact fillC_bd (by decide) _ _ (fun x => ⟨Int.le_refl _, by show (0 : Int) ≤ 1402560; decide⟩) fun p hp => by have := (t1 p hp).2; omega
    have hg := fun w' => gap_holds rs[k] w'
    have ih' := ih (k + 1)
    clear hra hin2 k6 k5 hok ih
    generalize hV : agrL f hs (rs.drop (k + 1)) = V at *
    generalize rs[k] = r at *
    obtain ⟨fr, to, tab, adr, cap, lo, hi⟩ := r
    dsimp only [rnV, rnA, TabAt, agr1] at *
    obtain ⟨p, hp⟩ : ∃ p : Nat, fr = f + p := ⟨(fr - f).toNat, by omega⟩
    obtain ⟨n, hn⟩ : ∃ n : Nat, to = fr + n := ⟨(to - fr).toNat, by omega⟩
    rw [show (fr - f).toNat = p by omega, show (to - fr).toNat = n by omega] at e2
    subst hn
    subst hp
    have hseg : ∀ i (hi : i < n), ((hs.drop p).take n).drop i = hs[p + i] :: ((hs.drop p).take n).drop (i + 1) := fun i hi => by
      rw [List.drop_eq_getElem_cons (by simp; omega)]
      simp
    have hlen : ((hs.drop p).take n).length = n := by simp; omega
    generalize hsg : (hs.drop p).take n = sg at *
    generalize hFL : fillC [] tab = FL at *
    all_goals (refine go ?_; and_intros <;> (try exact trivial) <;> intros)
    repeat' ((first | (apply G.mkm; rfl; intro bq)) <;> (refine go ?_; and_intros <;> (try exact trivial) <;> intros))
    refine J.loop (c := _) ((0, #[], 0, []) : Nat × Array MapEntry × Nat × List (Int × Int)) (fun s => tab.length - s.1) (fun s => [(3, .pointer (some ⟨_, 0, none⟩)), (6, .pointer (some ⟨_, 0, none⟩)), (7, .map (some bq)), (50, .slice (some ⟨ba, oa, none⟩) rs.length c), (51, .int .i64 rs.length), (52, .int .i64 k), (58, .slice adr tab.length cap), (59, .int .i64 tab.length), (60, .int .i64 s.1)]) (fun s => [.obj bq (.map s.2.1 s.2.2.1), .blk _ 28 [.int .i64 (f + p), .int .i64 (f + p + n), .slice adr tab.length cap, .int .i64 lo, .int .i64 hi] 5, .blk _ 24 [.int .i64 f, .slice b hs.length d] 2]) (fun s => s.1 ≤ tab.length ∧ MapIs (Value.int .i64) s.2.1 s.2.2.1 (s.2.2.2.map iv) ∧ fillC s.2.2.2 (tab.drop s.1) = FL) ?_ sbT sbL ?_
    · exact ⟨Nat.zero_le _, MapIs.nil, hFL⟩
    clear hFL
    intro ⟨j, es, ck, Lc⟩ ⟨d1, hI, d2⟩ ih2
    dsimp only at d1 hI d2 ⊢
    by_cases hj : j < tab.length
    · obtain ⟨bt, ot, rfl, hrt⟩ := SlAt.all htk (by omega)
      have hrj := hrt j hj
      rw [List.drop_eq_getElem_cons hj, fillC] at d2
      clear hrt ih'
      generalize tab[j] = z at *
      obtain ⟨zs, zt⟩ := z
      dsimp only [hoV] at *
      all_goals (refine go ?_; and_intros <;> (try exact trivial) <;> intros)
      repeat' ((first | (apply G.mu (kf := Value.int .i64) (a := zs) hI (put_setC zs zt Lc); rfl; rfl; rfl; rfl; (repeat (first | exact RAt.head | apply RAt.tail)); intro es2 c2 hI2)) <;> (refine go ?_; and_intros <;> (try exact trivial) <;> intros))
      exact J.fin (ih2 (j + 1, es2, c2, setC zs zt Lc) ⟨hj, hI2, d2⟩ (by dsimp only; omega))
    obtain rfl : j = tab.length := by omega
    rw [List.drop_length, fillC] at d2
    subst d2
    clear ih2
    by_cases hn0 : hs.length = 0
    · exfalso; omega
    obtain ⟨bb, ob, rfl, hrb⟩ := SlAt.all hB (by omega)
    all_goals (refine go ?_; and_intros <;> (try exact trivial) <;> intros)
    repeat' ((first | (apply G.slp (l := p) (h := p + n) (off := ob + p * 1) (len := n); rfl; rfl; rfl; omega; omega; omega; omega; omega; rfl; omega; rfl)) <;> (refine go ?_; and_intros <;> (try exact trivial) <;> intros))
    refine J.loop (c := _) ((0, es, ck, Lc) : Nat × Array MapEntry × Nat × List (Int × Int)) (fun s => n - s.1) (fun s => [(3, .pointer (some ⟨_, 0, none⟩)), (6, .pointer (some ⟨_, 0, none⟩)), (7, .map (some bq)), (50, .slice (some ⟨ba, oa, none⟩) rs.length c), (51, .int .i64 rs.length), (52, .int .i64 k), (82, .slice (some ⟨bb, ob + p * 1, none⟩) n _), (83, .int .i64 n), (84, .int .i64 s.1)]) (fun s => [.obj bq (.map s.2.1 s.2.2.1), .blk _ 28 [.int .i64 (f + p), .int .i64 (f + p + n), .slice adr tab.length cap, .int .i64 lo, .int .i64 hi] 5, .blk _ 24 [.int .i64 f, .slice (some ⟨bb, ob, none⟩) hs.length d] 2]) (fun s => s.1 ≤ n ∧ MapIs (Value.int .i64) s.2.1 s.2.2.1 (s.2.2.2.map iv) ∧ (goC (decide (tab.length = 0)) lo hi s.2.2.2 (sg.drop s.1) && V) = T ∧ ∀ x, -(s.1 : Int) ≤ cnt x s.2.2.2 ∧ cnt x s.2.2.2 ≤ 1402560) ?_ sbT sbL ?_
    · exact ⟨Nat.zero_le _, hI, e2, fun x => by have := hbd x; dsimp only; omega⟩
    clear hbd e2 hI
    intro ⟨i, es2, ck2, L2⟩ ⟨c1, hI, c2, c3⟩ ih2
    dsimp only at c1 hI c2 c3 ⊢
    by_cases hi2 : i < n
    · have hr1 : RowAt w bb (ob + p * 1 + i * 1) [.int .i64 hs[p + i]] := by
        have := hrb (p + i) (by omega)
        rw [show ob + p * 1 + i * 1 = ob + (p + i) * 1 by omega]; exact this
      rw [hseg i hi2, goC] at c2
      clear hrb
      generalize hs[p + i] = z at *
      have hcz := c3 z
      have hlk2 := get_iv z L2
      have hpt := put_setC z (cnt z L2 - 1) L2
      have hw := fun w' => within_holds z lo hi w'
      have hnx : ∀ x, -((i + 1 : Nat) : Int) ≤ cnt x (setC z (cnt z L2 - 1) L2) ∧ cnt x (setC z (cnt z L2 - 1) L2) ≤ 1402560 := fun x => by
        rw [cnt_setC]
        have := c3 x
        split <;> omega
      clear c3
      by_cases hgp : tab.length = 0
      · rw [decide_eq_true hgp] at hg c2 ih2
        by_cases hwi : lo ≤ z ∧ z ≤ hi
        · rw [decide_eq_true hwi] at hw
          rw [badC, if_pos rfl, decide_eq_true hwi, Bool.not_true, Bool.not_false, Bool.true_and] at c2
          have ih3 := fun es3 c4 hI3 => ih2 (i + 1, es3, c4, setC z (cnt z L2 - 1) L2) ⟨hi2, hI3, c2, hnx⟩ (by dsimp only; omega)
          generalize cnt z L2 = N at *
          all_goals (refine go ?_; and_intros <;> (try exact trivial) <;> intros)
          repeat' ((first | (apply G.cV (g := 72); rfl; rfl; exact fun w' _ => hg w') | (apply G.cV (g := 73); rfl; rfl; exact fun w' _ => hw w') | (apply G.lk (kf := Value.int .i64) (a := z) hI; rfl; rfl; exact mm; exact hlk2; rfl) | (apply G.mu (kf := Value.int .i64) (a := z) hI hpt; rfl; rfl; rfl; rfl; (repeat (first | exact RAt.head | apply RAt.tail)); intro es3 c4 hI3)) <;> (refine go ?_; and_intros <;> (try exact trivial) <;> intros))
          exact J.fin (ih3 es3 c4 hI3)
        · rw [decide_eq_false hwi] at hw
          rw [badC, if_pos rfl, decide_eq_false hwi, Bool.not_false, Bool.not_true, Bool.false_and, Bool.false_and] at c2
          subst c2
          all_goals (refine go ?_; and_intros <;> (try exact trivial) <;> intros)
          repeat' ((first | (apply G.cV (g := 72); rfl; rfl; exact fun w' _ => hg w') | (apply G.cV (g := 73); rfl; rfl; exact fun w' _ => hw w')) <;> (refine go ?_; and_intros <;> (try exact trivial) <;> intros))
          all_goals refine ret1b Tryz.func34 Tryz.results34 ?_
          all_goals rfl
      · rw [decide_eq_false hgp] at hg c2 ih2
        by_cases hc0 : cnt z L2 = 0
        · rw [badC, if_neg (by decide), decide_eq_true hc0, Bool.not_true, Bool.false_and, Bool.false_and] at c2
          subst c2
          rw [hc0] at hlk2
          all_goals (refine go ?_; and_intros <;> (try exact trivial) <;> intros)
          repeat' ((first | (apply G.cV (g := 72); rfl; rfl; exact fun w' _ => hg w') | (apply G.lk (kf := Value.int .i64) (a := z) hI; rfl; rfl; exact mm; exact hlk2; rfl)) <;> (refine go ?_; and_intros <;> (try exact trivial) <;> intros))
          all_goals refine ret1b Tryz.func34 Tryz.results34 ?_
          all_goals rfl
        · rw [badC, if_neg (by decide), decide_eq_false hc0, Bool.not_false, Bool.true_and] at c2
          have ih3 := fun es3 c4 hI3 => ih2 (i + 1, es3, c4, setC z (cnt z L2 - 1) L2) ⟨hi2, hI3, c2, hnx⟩ (by dsimp only; omega)
          generalize cnt z L2 = N at *
          all_goals (refine go ?_; and_intros <;> (try exact trivial) <;> intros)
          repeat' ((first | (apply G.cV (g := 72); rfl; rfl; exact fun w' _ => hg w') | (apply G.lk (kf := Value.int .i64) (a := z) hI; rfl; rfl; exact mm; exact hlk2; rfl) | (apply G.mu (kf := Value.int .i64) (a := z) hI hpt; rfl; rfl; rfl; rfl; (repeat (first | exact RAt.head | apply RAt.tail)); intro es3 c4 hI3)) <;> (refine go ?_; and_intros <;> (try exact trivial) <;> intros))
          exact J.fin (ih3 es3 c4 hI3)
    · obtain rfl : i = n := by omega
      rw [List.drop_eq_nil_of_le (by omega), goC, Bool.true_and] at c2
      clear ih2
      all_goals (refine go ?_; and_intros <;> (try exact trivial) <;> intros)
      exact J.fin (ih' ⟨hk, c2⟩ (by omega))
  · rw [List.drop_eq_nil_of_le (by omega), agrL] at e2
    subst e2
    clear ih
    all_goals (refine go ?_; and_intros <;> (try exact trivial) <;> intros)
    all_goals refine ret1b Tryz.func34 Tryz.results34 ?_
    all_goals rfl
end Go.Proofs.YthkdfpbjkpgckaaGreatDoor
namespace Go.Sl
open Go.RowKit
end Go.Sl
namespace Go.Proofs
open Go.Sl
end Go.Proofs
namespace Go.Proofs.YthkdfpbjkpgckaaGreatDoor
open Go.RowKit Go.Sl Go.Num
/-- How often a stage comes. -/
def nIn (x : Int) : List Int → Int
  | [] => 0
  | y :: r => (if y = x then 1 else 0) + nIn x r
theorem nIn_bd (x : Int) : ∀ l : List Int, 0 ≤ nIn x l ∧ nIn x l ≤ l.length
  | [] => ⟨Int.le_refl _, Int.le_refl _⟩
  | y :: r => by
    have := nIn_bd x r
    rw [nIn, List.length_cons]
    split <;> omega
/-- The stages that come, with their counts. -/
def tabD : Nat → List Int → List (Int × Int)
  | _, [] => []
  | s, n :: r => if 0 < n then ((s : Int), n) :: tabD (s + 1) r else tabD (s + 1) r
def tabT (seg : List Int) : List (Int × Int) := tabD 0 ((List.range 1001).map fun s : Nat => nIn (s : Int) seg)
theorem is_set {p : List Int} {j : Nat} {v : Int} (h : j < p.length) : setL (flat isV p) (0 + j * 1) [.int .i64 v] = flat isV (p.set j v) := flat_set1 isV_len h rfl
theorem is_get : ∀ {p : List Int} {j : Nat} (h : j < p.length), (flat isV p)[0 + j * 1]? = some (.int .i64 p[j])
  | x :: p, 0, _ => rfl
  | x :: p, j + 1, h => by
    have := is_get (p := p) (j := j) (by simpa using h)
    rw [Nat.zero_add, Nat.mul_one] at this ⊢
    rw [flat_cons]
    simpa [isV] using this
end Go.Proofs.YthkdfpbjkpgckaaGreatDoor
namespace Go.Proofs.YthkdfpbjkpgckaaGreatDoor
open Go.RowKit Go.Sl Go.Num
/-! ### tables of counts -/
def dsum (g : Int → Rat) : Nat → List Int → Rat
  | _, [] => 0
  | s, n :: r => (n : Rat) * g s + dsum g (s + 1) r
theorem wsum_tabD (g : Int → Rat) : ∀ (l : List Int) (s : Nat), (∀ x ∈ l, 0 ≤ x) → wsum g (tabD s l) = dsum g s l
  | [], _, _ => rfl
  | n :: r, s, h => by
    have ih := wsum_tabD g r (s + 1) fun x hx => h x (List.mem_cons_of_mem _ hx)
    have := h n (List.mem_cons_self ..)
    rw [tabD, dsum]
    split
    · rw [wsum, ih]
    · obtain rfl : n = 0 := by omega
      rw [ih, Rat.intCast_zero]; grind
theorem dsum_add (g : Int → Rat) (a b : Nat → Int) : ∀ (l : List Nat) (s : Nat), dsum g s (l.map fun x => a x + b x) = dsum g s (l.map a) + dsum g s (l.map b)
  | [], _ => by simp [dsum, Rat.add_zero]
  | x :: l, s => by
    simp only [List.map_cons, dsum]
    rw [dsum_add g a b l (s + 1), Rat.intCast_add]; grind
theorem dsum_zero (g : Int → Rat) : ∀ (l : List Nat) (s : Nat), dsum g s (l.map fun _ => 0) = 0
  | [], _ => rfl
  | x :: l, s => by
    simp only [List.map_cons, dsum]
    rw [dsum_zero g l (s + 1), Rat.intCast_zero]; grind
theorem dsum_ind0 (g : Int → Rat) (y : Int) : ∀ (n s : Nat), y < s → dsum g s ((List.range' s n).map fun x : Nat => if y = (x : Int) then 1 else 0) = 0
  | 0, _, _ => rfl
  | n + 1, s, h => by
    rw [List.range'_succ, List.map_cons, dsum, dsum_ind0 g y n (s + 1) (by omega), if_neg (by omega), Rat.intCast_zero]; grind
theorem dsum_ind (g : Int → Rat) (y : Int) : ∀ (n s : Nat), (s : Int) ≤ y → y < s + n → dsum g s ((List.range' s n).map fun x : Nat => if y = (x : Int) then 1 else 0) = g y
  | 0, _, h1, h2 => by omega
  | n + 1, s, h1, h2 => by
    rw [List.range'_succ, List.map_cons, dsum]
    by_cases h : y = s
    · rw [dsum_ind0 g y n (s + 1) (by omega), if_pos h, h]; simp [Rat.add_zero]
    · rw [dsum_ind g y n (s + 1) (by omega) (by omega), if_neg h]; simp [Rat.zero_add]
theorem dsum_nIn (g : Int → Rat) (n : Nat) : ∀ (seg : List Int), (∀ y ∈ seg, 0 ≤ y ∧ y < n) → dsum g 0 ((List.range' 0 n).map fun x : Nat => nIn (x : Int) seg) = segSum g seg
  | [], _ => dsum_zero g _ 0
  | y :: r, h => by
    have h1 := h y (List.mem_cons_self ..)
    rw [segSum, ← dsum_nIn g n r fun z hz => h z (List.mem_cons_of_mem _ hz), ← dsum_ind g y n 0 (by omega) (by omega), ← dsum_add]
    rfl
theorem nIn_nn (seg : List Int) : ∀ x ∈ (List.range 1001).map fun s : Nat => nIn (s : Int) seg, 0 ≤ x := fun x hx => by
  obtain ⟨s, _, rfl⟩ := List.mem_map.1 hx
  exact (nIn_bd _ seg).1
theorem wsum_tabT (g : Int → Rat) {seg : List Int} (h : ∀ y ∈ seg, 0 ≤ y ∧ y ≤ 1000) : wsum g (tabT seg) = segSum g seg := by
  rw [tabT, wsum_tabD g _ 0 (nIn_nn seg), List.range_eq_range']
  exact dsum_nIn g 1001 seg fun y hy => by have := h y hy; omega
theorem segSum_one : ∀ seg : List Int, segSum (fun _ => 1) seg = ((seg.length : Int) : Rat)
  | [] => rfl
  | y :: r => by rw [segSum, segSum_one r, List.length_cons, show ((r.length + 1 : Nat) : Int) = 1 + (r.length : Int) from by omega, Rat.intCast_add]; rfl
theorem wsum_one : ∀ t : List (Int × Int), wsum (fun _ => 1) t = ((sumT t : Int) : Rat)
  | [] => rfl
  | (x, n) :: t => by rw [wsum, wsum_one t, sumT, Rat.intCast_add]; grind
theorem sumT_tabT {seg : List Int} (h : ∀ y ∈ seg, 0 ≤ y ∧ y ≤ 1000) : sumT (tabT seg) = seg.length := by
  have := wsum_tabT (fun _ => 1) h
  rw [wsum_one, segSum_one] at this
  exact Rat.intCast_inj.1 this
theorem tabD_mem : ∀ (l : List Int) (s : Nat) {p : Int × Int}, p ∈ tabD s l → (s : Int) ≤ p.1 ∧ p.1 < s + l.length ∧ 0 < p.2 ∧ p.2 ∈ l
  | [], _, p, h => by cases h
  | n :: r, s, p, h => by
    rw [tabD] at h
    split at h
    · rcases List.mem_cons.1 h with rfl | h
      · rename_i h1
        exact ⟨Int.le_refl _, by rw [List.length_cons]; dsimp only; omega, h1, List.mem_cons_self ..⟩
      · have := tabD_mem r (s + 1) h
        exact ⟨by omega, by rw [List.length_cons]; omega, this.2.2.1, List.mem_cons_of_mem _ this.2.2.2⟩
    · have := tabD_mem r (s + 1) h
      exact ⟨by omega, by rw [List.length_cons]; omega, this.2.2.1, List.mem_cons_of_mem _ this.2.2.2⟩
theorem sorted_tabD : ∀ (l : List Int) (s : Nat) (p : Option (Int × Int)), (∀ q, p = some q → q.1 < (s : Int)) → sortedT p (tabD s l) = true
  | [], _, p, _ => by rw [tabD]; cases p <;> rfl
  | n :: r, s, p, h => by
    rw [tabD]
    split
    · have ih := sorted_tabD r (s + 1) (some ((s : Int), n)) fun q hq => by cases hq; dsimp only; omega
      cases p with
      | none => show (true && sortedT (some ((s : Int), n)) (tabD (s + 1) r)) = true; rw [ih]; rfl
      | some q => show (decide (q.1 < (s : Int)) && sortedT (some ((s : Int), n)) (tabD (s + 1) r)) = true; rw [ih, decide_eq_true (h q rfl)]; rfl
    · exact sorted_tabD r (s + 1) p fun q hq => by have := h q hq; omega
theorem goC_ok {lo hi : Int} : ∀ (seg : List Int) (C : List (Int × Int)), (∀ x, cnt x C = nIn x seg) → goC false lo hi C seg = true
  | [], _, _ => rfl
  | s :: r, C, h => by
    have h1 := h s
    rw [nIn, if_pos rfl] at h1
    have h2 := nIn_bd s r
    rw [goC, badC, if_neg (by decide), decide_eq_false (by omega), Bool.not_false, Bool.true_and]
    refine goC_ok r _ fun x => ?_
    have h3 := h x
    rw [nIn] at h3
    rw [cnt_setC]
    by_cases hx : x = s
    · subst hx; rw [if_pos rfl]; omega
    · rw [if_neg (by omega)] at h3; rw [if_neg hx]; omega
theorem tabT_ne {seg : List Int} (h : ∀ y ∈ seg, 0 ≤ y ∧ y ≤ 1000) (h0 : 0 < seg.length) : (tabT seg).length ≠ 0 := fun hz => by
  have := sumT_tabT h
  rw [List.length_eq_zero_iff.1 hz, sumT] at this
  omega
theorem tabT_mem {seg : List Int} {p : Int × Int} (hp : p ∈ tabT seg) : (0 ≤ p.1 ∧ p.1 ≤ 1000) ∧ 1 ≤ p.2 ∧ p.2 ≤ seg.length := by
  have := tabD_mem _ 0 hp
  rw [List.length_map, List.length_range] at this
  obtain ⟨s, _, h2⟩ := List.mem_map.1 this.2.2.2
  have := nIn_bd s seg
  omega
theorem oneE_tabT {r : Rn} {seg : List Int} (h : ∀ y ∈ seg, 0 ≤ y ∧ y ≤ 1000) (h0 : 0 < seg.length) (hl : seg.length ≤ 1402560) (ht : r.tab = tabT seg) (h1 : r.to_ = r.from_ + seg.length) (h2 : r.lo = 0) (h3 : r.hi = 0) : oneE r = 0 := by
  rw [oneE, ht, if_neg (tabT_ne h h0), if_neg, if_pos]
  · exact ⟨sorted_tabD _ 0 none (fun q hq => by cases hq), by rw [sumT_tabT h]; omega, h2, h3⟩
  · intro hb
    obtain ⟨p, hp, hb⟩ := List.any_eq_true.1 hb
    have := tabT_mem hp
    rw [badH, decide_eq_true (by omega), decide_eq_true (by omega)] at hb
    cases hb
/-! ### the parts of a history -/
/-- Runs and spans, one for each part of a history from a tick on. -/
def PtL : Int → List Int → List Rn → List Spn → Prop
  | _, hs, [], [] => hs = []
  | f, hs, r :: L, s :: l => ∃ n : Nat, 0 < n ∧ n ≤ hs.length ∧ (r.from_ = f ∧ r.to_ = f + n ∧ r.tab = tabT (hs.take n) ∧ r.lo = 0 ∧ r.hi = 0) ∧ (s.from_ = f ∧ s.to_ = f + n ∧ RightS s ∧ fewS s) ∧ PtL (f + n) (hs.drop n) L l
  | _, _, _, _ => False
def tabSum : List Rn → List Spn → Rat
  | r :: L, s :: l => wsum (rateOf s) r.tab + tabSum L l
  | _, _ => 0
theorem worth_late {l : List Spn} {x t st : Int} (h : InOrd x l) (ht : t < x) : worthOf l t st = 0 := by
  rw [worthOf, List.getElem?_eq_none (by rw [h.none ht]; exact Nat.le_refl _)]
theorem volSum_part {s : Spn} {l : List Spn} {f : Int} {n : Nat} (hs : s.from_ = f) (ht : s.to_ = f + n) (h : InOrd f (s :: l)) : ∀ (seg : List Int), seg.length = n → volSum (s :: l) f seg = segSum (rateOf s) seg := fun seg hn => by
  rw [volSum_sep (s :: l) (rateOf s) (fun _ => 0) seg f fun t h1 h2 x _ => ?_]
  · rw [show tS (fun _ => (0 : Rat)) f seg.length = 0 from ?_, Rat.add_zero]
    generalize seg.length = m
    clear hn hs ht h
    induction m generalizing f with
    | zero => rfl
    | succ m ih => rw [tS, ih, Rat.add_zero]
  · rw [worth_cons h, if_pos (by rw [inS, decide_eq_true (by omega), decide_eq_true (by omega)]; rfl), worth_late h.2.2 (by omega)]
theorem volSum_skip {s : Spn} {l : List Spn} {x : Int} (h : InOrd x (s :: l)) : ∀ (hs : List Int) (f : Int), s.to_ ≤ f → volSum (s :: l) f hs = volSum l f hs
  | [], _, _ => rfl
  | y :: r, f, hf => by
    rw [volSum, volSum, volSum_skip h r (f + 1) (by omega), worth_cons h, if_neg (by rw [inS, decide_eq_false (show ¬ f < s.to_ by omega), Bool.and_false]; decide), Rat.zero_add]
structure PtsOk (f : Int) (hs : List Int) (L : List Rn) (l : List Spn) : Prop where
  ord : InOrd f l
  rng : ∀ s ∈ l, (f ≤ s.from_ ∧ s.to_ ≤ f + hs.length) ∧ RightS s ∧ fewS s
  chn : Chn f L
  int : ∀ r ∈ L, inT r = true
  one : ∀ r ∈ L, oneE r = 0
  len : L.length = l.length
  fin : ∀ (h : 0 < L.length), (L[L.length - 1]).to_ = f + hs.length
  nil : L.length = 0 → hs = []
  sep : ∀ r ∈ L, r.tab.length ≠ 0 ∧ f ≤ r.from_ ∧ ∃ s, ∀ t, r.from_ ≤ t → t < r.to_ → ∀ st, worthOf l t st = rateOf s st
  sum : volSum l f (firstS L) = tabSum L l ∧ volSum l f hs = tabSum L l
  tbl : ∀ k (h1 : k < L.length) (h2 : k < l.length), L[k].from_ = l[k].from_ ∧ L[k].to_ = l[k].to_
theorem PtL.ok : ∀ {L : List Rn} {l : List Spn} {f : Int} {hs : List Int}, PtL f hs L l → 0 ≤ f → f + hs.length ≤ 1402560 → (∀ y ∈ hs, 0 ≤ y ∧ y ≤ 1000) → PtsOk f hs L l
  | [], [], f, hs, h, _, _, _ => by
    obtain rfl : hs = [] := h
    exact { ord := trivial, rng := fun s h => by (cases h), chn := trivial, int := fun s h => by (cases h), one := fun s h => by (cases h), len := rfl, fin := fun h => absurd h (Nat.lt_irrefl _), nil := fun _ => rfl, sep := fun s h => by (cases h), sum := ⟨rfl, rfl⟩, tbl := fun k h1 => absurd h1 (Nat.not_lt_zero _) }
  | r :: L, s :: l, f, hs, ⟨n, k1, k2, ⟨a1, a2, a3, a4, a5⟩, ⟨b1, b2, b3, b4⟩, k5⟩, h0, h1, h2 => by
    have hd : ((hs.drop n).length : Int) = hs.length - n := by rw [List.length_drop]; omega
    have ih := PtL.ok k5 (by omega) (by omega) fun y hy => h2 y (List.mem_of_mem_drop hy)
    have hseg : ∀ y ∈ hs.take n, 0 ≤ y ∧ y ≤ 1000 := fun y hy => h2 y (List.mem_of_mem_take hy)
    have hlen : (hs.take n).length = n := by rw [List.length_take]; omega
    have ho : InOrd f (s :: l) := ⟨by omega, by omega, by rw [b2]; exact ih.ord⟩
    have h1e : oneE r = 0 := oneE_tabT hseg (by omega) (by omega) a3 (by rw [hlen]; omega) a4 a5
    have hin : inT r = true := decide_eq_true (by omega)
    have hne : r.tab.length ≠ 0 := by rw [a3]; exact tabT_ne hseg (by omega)
    have hst : stagesR r = tabS r.tab := by rw [stagesR, if_neg hne]
    have hsl : (stagesR r).length = n := by have := stagesR_len hin h1e; omega
    have hpos : ∀ x ∈ r.tab, 1 ≤ x.2 := fun x hx => by rw [a3] at hx; exact (tabT_mem hx).2.1
    exact {
      ord := ho
      rng := fun x hx => by
        rcases List.mem_cons.1 hx with rfl | hx
        · exact ⟨⟨by omega, by omega⟩, b3, b4⟩
        · have := ih.rng x hx; exact ⟨⟨by omega, by omega⟩, this.2⟩
      chn := ⟨a1, by rw [a2]; exact ih.chn⟩
      int := fun x hx => by
        rcases List.mem_cons.1 hx with rfl | hx
        · exact hin
        · exact ih.int x hx
      one := fun x hx => by
        rcases List.mem_cons.1 hx with rfl | hx
        · exact h1e
        · exact ih.one x hx
      len := by rw [List.length_cons, List.length_cons, ih.len]
      fin := fun h => by
        rcases Nat.eq_zero_or_pos L.length with hz | hz
        · have := ih.nil hz
          have hd2 := hd
          rw [this, List.length_nil] at hd2
          obtain rfl := List.length_eq_zero_iff.1 hz
          show r.to_ = _
          omega
        · have := ih.fin hz
          have e : ((r :: L)[(r :: L).length - 1]'(by rw [List.length_cons]; omega)) = L[L.length - 1] := by
            simp only [List.length_cons, Nat.add_sub_cancel]
            rw [List.getElem_cons, dif_neg (by omega)]
          rw [e, this]; omega
      nil := fun h => by rw [List.length_cons] at h; omega
      sep := fun x hx => by
        rcases List.mem_cons.1 hx with rfl | hx
        · exact ⟨hne, by omega, s, fun t t1 t2 st => by rw [worth_cons ho, if_pos (by rw [inS, decide_eq_true (by omega), decide_eq_true (by omega)]; rfl), worth_late ho.2.2 (by omega), Rat.add_zero]⟩
        · obtain ⟨c1, c2, s1, c3⟩ := ih.sep x hx
          exact ⟨c1, by omega, s1, fun t t1 t2 st => by rw [worth_cons ho, if_neg (by rw [inS, decide_eq_false (show ¬ t < s.to_ by omega), Bool.and_false]; decide), Rat.zero_add]; exact c3 t t1 t2 st⟩
      sum := by
        have e1 : volSum (s :: l) f (stagesR r) = wsum (rateOf s) r.tab := by rw [volSum_part b1 b2 ho _ hsl, hst, segSum_tab _ _ hpos]
        have e2 : volSum (s :: l) f (hs.take n) = wsum (rateOf s) r.tab := by rw [volSum_part b1 b2 ho _ hlen, a3, wsum_tabT _ hseg]
        constructor
        · rw [firstS, volSum_app, e1, hsl, volSum_skip ho _ _ (by omega), ih.sum.1, tabSum]
        · conv => lhs; rw [← List.take_append_drop n hs]
          rw [volSum_app, e2, hlen, volSum_skip ho _ _ (by omega), ih.sum.2, tabSum]
      tbl := fun k q1 q2 => by
        cases k with
        | zero => exact ⟨by show r.from_ = s.from_; omega, by show r.to_ = s.to_; omega⟩
        | succ k => exact ih.tbl k (by simpa using q1) (by simpa using q2) }
  | [], _ :: _, _, _, h, _, _, _ => h.elim
  | _ :: _, [], _, _, h, _, _, _ => h.elim
section
variable {f : Int} {hs : List Int} {L : List Rn} {l : List Spn} (h : PtsOk f hs L l) (hf : 0 ≤ f) (hn : hs.length ≤ 1000) (hb : f + hs.length ≤ 1402560) (hL : L.length ≤ 100)
include h hf hn hb hL
theorem PtsOk.runs : runsErr L = 0 := by
  rw [runsErr, if_neg (by omega), rnErr_chn h.chn (fun q hq => by cases hq) h.int h.one, if_neg (by decide), if_neg]
  rw [lenT]
  rcases Nat.eq_zero_or_pos L.length with hz | hz
  · rw [List.getElem?_eq_none (by omega)]; exact (by decide : ¬ (40000 : Int) < 0)
  · rw [List.getElem?_eq_getElem hz, List.getElem?_eq_getElem (show L.length - 1 < L.length by omega)]
    have := (h.sep _ (List.getElem_mem hz)).2.1
    have := h.fin hz
    dsimp only
    omega
theorem PtsOk.spans : spansErr l = 0 := by
  rw [spansErr, if_neg (by have := h.len; omega)]
  exact spErr_iff.2 ⟨fun s hs => (h.rng s hs).2.1, h.ord.mono hf⟩
theorem PtsOk.fewS : ∀ s ∈ l, Proofs.YthkdfpbjkpgckaaGreatDoor.fewS s := fun s hs => (h.rng s hs).2.2
theorem PtsOk.right : ∀ s ∈ l, RightS s := fun s hs => (h.rng s hs).2.1
theorem PtsOk.takeB : ∀ r ∈ L, takeB l r := fun r hr => by
  rw [takeB_iff (h.int r hr) h.ord (fun s hs => (h.rng s hs).2.1)]
  obtain ⟨h1, _, s, h3⟩ := h.sep r hr
  have h4 := h.int r hr
  rw [inT, decide_eq_true_eq] at h4
  rintro (⟨h2, _⟩ | ⟨_, k, h0, hk, _, j, _, hj, hne⟩)
  · exact h1 h2
  · rw [h3 _ (Int.le_refl _) (by omega), h3 _ (by omega) hj, h3 _ (Int.le_refl _) (by omega), h3 _ (by omega) hj] at hne
    exact hne (Rat.add_comm _ _)
theorem PtsOk.exact : exE L l = (rQ (tabSum L l), 0) := by
  rw [exE, h.runs hf hn hb hL, if_neg (by decide), h.spans hf hn hb hL, if_neg (by decide), if_neg, if_pos (h.takeB hf hn hb hL), takeS_eq h.ord (h.right hf hn hb hL) L f h.chn h.int h.one (h.takeB hf hn hb hL), h.sum.1]
  intro hx
  obtain ⟨s, hs1, hs2⟩ := List.any_eq_true.1 hx
  have h1 := (h.rng s hs1).1
  have hz : 0 < L.length := by rw [h.len]; exact List.length_pos_of_mem hs1
  rw [outX, List.getElem?_eq_getElem hz, List.getElem?_eq_getElem (show L.length - 1 < L.length by omega)] at hs2
  have h2 := h.fin hz
  have h3 : L[0].from_ = f := by
    have := h.chn
    cases L with
    | nil => cases hz
    | cons r t => exact this.1
  dsimp only at hs2
  rw [Bool.or_eq_true, decide_eq_true_eq, decide_eq_true_eq] at hs2
  omega
theorem PtsOk.value (hr : ∀ y ∈ hs, 0 ≤ y ∧ y ≤ 1000) : volE f hs l = (rQ (tabSum L l), 0) := by
  have h2 : rightH f hs = true := by
    rw [rightH, decide_eq_true (by omega), Bool.true_and]
    have h3 : hs.any badSt = false := List.any_eq_false.2 fun y hy => by rw [badSt, decide_eq_true (hr y hy)]; decide
    rw [h3]; rfl
  rw [volE, h.spans hf hn hb hL, if_neg (by decide), h2, if_neg (by decide), if_neg, h.sum.2]
  intro hx
  obtain ⟨s, hs1, hs2⟩ := List.any_eq_true.1 hx
  have h1 := (h.rng s hs1).1
  rw [outH, Bool.or_eq_true, decide_eq_true_eq, decide_eq_true_eq] at hs2
  omega
end
end Go.Proofs.YthkdfpbjkpgckaaGreatDoor
namespace Go.Proofs.YthkdfpbjkpgckaaGreatDoor
open Go.RowKit Go.Sl Go.Num
/-! ### lists that are written -/
def segL (S : List Int) (p n : Nat) : List Int := (S.drop p).take n
theorem segL_len {S : List Int} {p n : Nat} (h : p + n ≤ S.length) : (segL S p n).length = n := by rw [segL, List.length_take, List.length_drop]; omega
theorem segL_get {S : List Int} {p n i : Nat} (h : p + n ≤ S.length) (hi : i < n) : (segL S p n)[i]'(by rw [segL_len h]; exact hi) = S[p + i]'(by omega) := by
  simp [segL]
theorem segL_out {S : List Int} {p n x : Nat} {v : Int} (h : x < p ∨ p + n ≤ x) : segL (S.set x v) p n = segL S p n := by
  rw [segL, List.drop_set]
  split
  · rfl
  · rw [List.take_set, List.set_eq_of_length_le]
    · rfl
    · rw [List.length_take]; omega
theorem segL_in {S : List Int} {p n x : Nat} {v : Int} (h : p ≤ x) : segL (S.set x v) p n = (segL S p n).set (x - p) v := by
  rw [segL, List.drop_set, if_neg (by omega), List.take_set]; rfl
theorem swap_perm (l : List Int) (i j : Nat) (hi : i < l.length) (hj : j < l.length) : ((l.set i l[j]).set j l[i]).Perm l := by
  have h := Array.swap_perm (xs := l.toArray) (i := i) (j := j) (by simpa using hi) (by simpa using hj)
  have h2 := h.toList
  simpa using h2
theorem segSum_perm {g : Int → Rat} {a b : List Int} (h : a.Perm b) : segSum g a = segSum g b := by
  induction h with
  | nil => rfl
  | cons x _ ih => rw [segSum, segSum, ih]
  | swap x y l => rw [segSum, segSum, segSum, segSum]; grind
  | trans _ _ h1 h2 => exact h1.trans h2
theorem nIn_perm {x : Int} {a b : List Int} (h : a.Perm b) : nIn x a = nIn x b := by
  induction h with
  | nil => rfl
  | cons y _ ih => rw [nIn, nIn, ih]
  | swap y z l => rw [nIn, nIn, nIn, nIn]; omega
  | trans _ _ h1 h2 => exact h1.trans h2
theorem nIn_app (x : Int) : ∀ a b : List Int, nIn x (a ++ b) = nIn x a + nIn x b
  | [], b => by rw [List.nil_append, nIn, Int.zero_add]
  | y :: a, b => by rw [List.cons_append, nIn, nIn, nIn_app x a b, Int.add_assoc]
theorem nIn_rep (x y : Int) : ∀ n : Nat, nIn x (List.replicate n y) = if y = x then (n : Int) else 0
  | 0 => by simp [nIn]
  | n + 1 => by
    rw [List.replicate_succ, nIn, nIn_rep x y n]
    split <;> omega
/-! ### sorted tables -/
theorem cnt_low : ∀ (t : List (Int × Int)) (q : Int × Int) {x : Int}, sortedT (some q) t = true → x ≤ q.1 → cnt x t = 0
  | [], _, _, _, _ => rfl
  | p :: t, q, x, h, hx => by
    rw [sortedT, Bool.and_eq_true, decide_eq_true_eq] at h
    obtain ⟨y, n⟩ := p
    rw [cnt, if_neg (by have := h.1; dsimp only at this; omega)]
    exact cnt_low t (y, n) h.2 (by have := h.1; dsimp only at this ⊢; omega)
theorem cnt_fillT : ∀ (t : List (Int × Int)) (q : Int × Int) (L : List (Int × Int)), sortedT (some q) t = true → (∀ x, q.1 < x → cnt x L = 0) → ∀ x, cnt x (fillC L t) = if x ≤ q.1 then cnt x L else cnt x t
  | [], q, L, _, h, x => by
    rw [fillC]
    split
    · rfl
    · exact h x (by omega)
  | (y, n) :: t, q, L, hs, h, x => by
    rw [sortedT, Bool.and_eq_true, decide_eq_true_eq] at hs
    have hy := hs.1
    dsimp only at hy
    rw [fillC, cnt_fillT t (y, n) (setC y n L) hs.2 (fun z hz => by dsimp only at hz; rw [cnt_setC, if_neg (by omega)]; exact h z (by omega)) x, cnt_setC]
    dsimp only
    by_cases h1 : x ≤ q.1
    · rw [if_pos (by omega), if_neg (by omega), if_pos h1]
    · rw [if_neg h1, cnt]
      by_cases h2 : x = y
      · rw [if_pos (by omega), if_pos h2, if_pos h2]
      · rw [if_neg h2, if_neg h2]
        split
        · rw [h x (by omega), cnt_low t (y, n) hs.2 (by dsimp only; omega)]
        · rfl
theorem cnt_fill0 {t : List (Int × Int)} (hs : sortedT none t = true) (x : Int) : cnt x (fillC [] t) = cnt x t := by
  cases t with
  | nil => rfl
  | cons p t =>
    obtain ⟨y, n⟩ := p
    rw [sortedT, Bool.and_eq_true] at hs
    rw [fillC, cnt_fillT t (y, n) (setC y n []) hs.2 (fun z hz => by dsimp only at hz; rw [cnt_setC, if_neg (by omega)]; rfl) x, cnt_setC]
    rw [show cnt x ((y, n) :: t) = if x = y then n else cnt x t from rfl]
    dsimp only
    by_cases h2 : x = y
    · rw [if_pos (by omega), if_pos h2, if_pos h2]
    · rw [if_neg h2, if_neg h2]
      split
      · rw [cnt_low t (y, n) hs.2 (by dsimp only; omega)]; rfl
      · rfl
theorem nIn_tabS : ∀ (t : List (Int × Int)) (q : Option (Int × Int)), sortedT q t = true → (∀ p ∈ t, 1 ≤ p.2) → ∀ x, nIn x (tabS t) = cnt x t
  | [], _, _, _, _ => rfl
  | (y, n) :: t, q, hs, hp, x => by
    have h2 : sortedT (some (y, n)) t = true := by unfold sortedT at hs; rw [Bool.and_eq_true] at hs; exact hs.2
    have h3 := hp _ (List.mem_cons_self ..)
    have ih := nIn_tabS t (some (y, n)) h2 (fun p h => hp p (List.mem_cons_of_mem _ h)) x
    dsimp only at h3
    show nIn x (List.replicate n.toNat y ++ tabS t) = _
    rw [nIn_app, nIn_rep, ih, cnt]
    by_cases h : x = y
    · rw [if_pos h.symm, if_pos h, cnt_low t (y, n) h2 (by dsimp only; omega)]; omega
    · rw [if_neg (fun e => h e.symm), if_neg h, Int.zero_add]
/-! ### agreement -/
/-- The stages of a run's ticks: an order of its table's, or either end of a gap. -/
def AgrP (r : Rn) (seg : List Int) : Prop := if r.tab.length = 0 then (seg.length = (r.to_ - r.from_).toNat ∧ ∀ x ∈ seg, x = r.lo ∨ x = r.hi) else seg.Perm (tabS r.tab)
def AgrA (f : Int) (S : List Int) (rs : List Rn) : Prop := ∀ k (hk : k < rs.length), AgrP rs[k] (segL S (rs[k].from_ - f).toNat (rs[k].to_ - rs[k].from_).toNat)
theorem chn_lt : ∀ {L : List Rn} {f : Int}, Chn f L → (∀ r ∈ L, inT r = true) → ∀ i j (hij : i < j) (hj : j < L.length), f ≤ (L[i]'(by omega)).from_ ∧ (L[i]'(by omega)).to_ ≤ L[j].from_
  | r :: t, f, h, h1, i, j, hij, hj => by
    have h2 := h1 r (List.mem_cons_self ..)
    rw [inT, decide_eq_true_eq] at h2
    have h3 := h.1
    have hlow : ∀ {M : List Rn} {g : Int}, Chn g M → (∀ r ∈ M, inT r = true) → ∀ k (hk : k < M.length), g ≤ M[k].from_ := fun {M} => by
      induction M with
      | nil => intro g _ _ k hk; exact absurd hk (Nat.not_lt_zero _)
      | cons x M ih =>
        intro g hg hM k hk
        have h5 := hM x (List.mem_cons_self ..)
        rw [inT, decide_eq_true_eq] at h5
        have h6 := hg.1
        cases k with
        | zero => show g ≤ x.from_; omega
        | succ k =>
          have := ih hg.2 (fun y hy => hM y (List.mem_cons_of_mem _ hy)) k (by simpa using hk)
          simp only [List.getElem_cons_succ]
          omega
    cases j with
    | zero => omega
    | succ j =>
      cases i with
      | zero =>
        have := hlow h.2 (fun y hy => h1 y (List.mem_cons_of_mem _ hy)) j (by simpa using hj)
        exact ⟨by show f ≤ r.from_; omega, this⟩
      | succ i =>
        have := chn_lt h.2 (fun y hy => h1 y (List.mem_cons_of_mem _ hy)) i j (by omega) (by simpa using hj)
        simp only [List.getElem_cons_succ]
        exact ⟨by omega, this.2⟩
/-- Agreement, run by run. -/
def AgrS : Int → List Int → List Rn → Prop
  | _, S, [] => S = []
  | f, S, r :: t => ∃ n : Nat, r.from_ = f ∧ r.to_ = f + n ∧ n ≤ S.length ∧ AgrP r (S.take n) ∧ AgrS (f + n) (S.drop n) t
theorem AgrA.step {f0 : Int} {S0 : List Int} : ∀ {rs : List Rn} {d : Nat}, Chn (f0 + d) rs → (∀ r ∈ rs, inT r = true) → (∀ r ∈ rs, oneE r = 0) → S0.length = d + (firstS rs).length → (∀ k (hk : k < rs.length), AgrP rs[k] (segL S0 (rs[k].from_ - f0).toNat (rs[k].to_ - rs[k].from_).toNat)) → AgrS (f0 + d) (S0.drop d) rs
  | [], d, _, _, _, hl, _ => by
    rw [firstS, List.length_nil] at hl
    exact List.drop_eq_nil_of_le (by omega)
  | r :: t, d, hc, hT, hO, hl, h => by
    have h1 := hT r (List.mem_cons_self ..)
    have h2 := stagesR_len h1 (hO r (List.mem_cons_self ..))
    rw [inT, decide_eq_true_eq] at h1
    have h3 := hc.1
    rw [firstS, List.length_append] at hl
    have h4 := h 0 (Nat.zero_lt_succ _)
    simp only [List.getElem_cons_zero] at h4
    have h5 : r.to_ = f0 + ((d + (r.to_ - r.from_).toNat : Nat) : Int) := by omega
    have h6 := hc.2
    rw [h5] at h6
    have ih := AgrA.step (rs := t) (d := d + (r.to_ - r.from_).toNat) h6 (fun x hx => hT x (List.mem_cons_of_mem _ hx)) (fun x hx => hO x (List.mem_cons_of_mem _ hx)) (by omega) fun k hk => h (k + 1) (by simpa using hk)
    refine ⟨(r.to_ - r.from_).toNat, h3, by omega, by rw [List.length_drop]; omega, ?_, ?_⟩
    · rw [show (r.from_ - f0).toNat = d by omega] at h4; exact h4
    · rw [List.drop_drop, show f0 + d + (((r.to_ - r.from_).toNat : Nat) : Int) = f0 + ((d + (r.to_ - r.from_).toNat : Nat) : Int) by omega]
      exact ih
theorem AgrP.first {r : Rn} : AgrP r (stagesR r) := by
  rw [AgrP, stagesR]
  split
  · exact ⟨List.length_replicate, fun x hx => .inl (List.eq_of_mem_replicate hx)⟩
  · exact List.Perm.refl _
theorem first_agr {f0 : Int} {S0 : List Int} : ∀ {rs : List Rn} {d : Nat}, Chn (f0 + d) rs → (∀ r ∈ rs, inT r = true) → (∀ r ∈ rs, oneE r = 0) → S0.drop d = firstS rs → AgrA f0 S0 rs
  | [], d, _, _, _, _ => fun k hk => absurd hk (Nat.not_lt_zero _)
  | r :: t, d, hc, hT, hO, hS => by
    have h1 := hT r (List.mem_cons_self ..)
    have h2 := stagesR_len h1 (hO r (List.mem_cons_self ..))
    rw [inT, decide_eq_true_eq] at h1
    have h3 := hc.1
    have h5 : r.to_ = f0 + ((d + (stagesR r).length : Nat) : Int) := by omega
    have h6 := hc.2
    rw [h5] at h6
    rw [firstS] at hS
    have ih := first_agr (rs := t) (d := d + (stagesR r).length) h6 (fun x hx => hT x (List.mem_cons_of_mem _ hx)) (fun x hx => hO x (List.mem_cons_of_mem _ hx)) (by rw [← List.drop_drop, hS, List.drop_left])
    intro k hk
    cases k with
    | zero =>
      show AgrP r (segL S0 (r.from_ - f0).toNat (r.to_ - r.from_).toNat)
      rw [segL, show (r.from_ - f0).toNat = d by omega, hS, show (r.to_ - r.from_).toNat = (stagesR r).length by omega, List.take_left]
      exact AgrP.first
    | succ k => exact ih k (by simpa using hk)
theorem goC_gap {lo hi : Int} : ∀ (seg : List Int) (C : List (Int × Int)), (∀ x ∈ seg, lo ≤ x ∧ x ≤ hi) → goC true lo hi C seg = true
  | [], _, _ => rfl
  | s :: r, C, h => by
    rw [goC, badC, if_pos rfl, decide_eq_true (h s (List.mem_cons_self ..)), Bool.not_true, Bool.not_false, Bool.true_and]
    exact goC_gap r _ fun x hx => h x (List.mem_cons_of_mem _ hx)
theorem AgrP.agr1 {r : Rn} {seg : List Int} (h1 : oneE r = 0) (h : AgrP r seg) : agr1 r seg = true := by
  rw [AgrP] at h
  rw [Proofs.YthkdfpbjkpgckaaGreatDoor.agr1]
  by_cases h0 : r.tab.length = 0
  · have := oneE_gap h1 h0
    rw [if_pos h0] at h
    rw [decide_eq_true h0]
    exact goC_gap seg _ fun x hx => by rcases h.2 x hx with rfl | rfl <;> omega
  · obtain ⟨t1, t2, t3, _⟩ := oneE_tab h1 h0
    rw [if_neg h0] at h
    rw [decide_eq_false h0]
    exact goC_ok seg _ fun x => by rw [cnt_fill0 t2, nIn_perm h, nIn_tabS r.tab none t2 (fun p hp => (t1 p hp).2.1)]
theorem AgrP.bd {r : Rn} {seg : List Int} (h1 : oneE r = 0) (h : AgrP r seg) : ∀ x ∈ seg, 0 ≤ x ∧ x ≤ 1000 := by
  rw [AgrP] at h
  by_cases h0 : r.tab.length = 0
  · have := oneE_gap h1 h0
    rw [if_pos h0] at h
    intro x hx
    rcases h.2 x hx with rfl | rfl <;> omega
  · rw [if_neg h0] at h
    have := stagesR_bd h1
    rw [stagesR, if_neg h0] at this
    exact fun x hx => this x (h.mem_iff.1 hx)
theorem AgrS.agrL {f0 : Int} {S0 : List Int} : ∀ {rs : List Rn} {d : Nat}, (∀ r ∈ rs, oneE r = 0) → AgrS (f0 + d) (S0.drop d) rs → agrL f0 S0 rs = true
  | [], _, _, _ => rfl
  | r :: t, d, hO, ⟨n, h1, h2, h3, h4, h5⟩ => by
    rw [Proofs.YthkdfpbjkpgckaaGreatDoor.agrL, show (r.from_ - f0).toNat = d by omega, show (r.to_ - r.from_).toNat = n by omega, h4.agr1 (hO r (List.mem_cons_self ..)), Bool.true_and]
    rw [List.drop_drop, show f0 + d + (n : Int) = f0 + ((d + n : Nat) : Int) by omega] at h5
    exact AgrS.agrL (fun x hx => hO x (List.mem_cons_of_mem _ hx)) h5
theorem AgrS.bd : ∀ {rs : List Rn} {f : Int} {S : List Int}, (∀ r ∈ rs, oneE r = 0) → AgrS f S rs → ∀ x ∈ S, 0 ≤ x ∧ x ≤ 1000
  | [], _, S, _, h, x, hx => by rw [show S = [] from h] at hx; cases hx
  | r :: t, f, S, hO, ⟨n, h1, h2, h3, h4, h5⟩, x, hx => by
    rw [← List.take_append_drop n S] at hx
    rcases List.mem_append.1 hx with hx | hx
    · exact h4.bd (hO r (List.mem_cons_self ..)) x hx
    · exact AgrS.bd (fun x hx => hO x (List.mem_cons_of_mem _ hx)) h5 x hx
/-! ### what agrees has one volume, if the volume is decided -/
theorem AgrP.vol {l : List Spn} {r : Rn} {seg : List Int} {x : Int} (h : inT r = true) (h1 : oneE r = 0) (hl : InOrd x l) (hR : ∀ s ∈ l, RightS s) (hb : takeB l r) (ha : AgrP r seg) : volSum l r.from_ seg = volSum l r.from_ (stagesR r) := by
  have hlen := stagesR_len h h1
  have hnb := (takeB_iff h hl hR).1 hb
  rw [AgrP] at ha
  by_cases h0 : r.tab.length = 0
  · rw [if_pos h0] at ha
    obtain ⟨a1, a2⟩ := ha
    have hst : stagesR r = List.replicate (r.to_ - r.from_).toNat r.lo := by rw [stagesR, if_pos h0]
    have hfr : ∀ i : Nat, i < (r.to_ - r.from_).toNat → worthOf l (r.from_ + i) r.lo = worthOf l (r.from_ + i) r.hi := fun i hi => by
      by_cases hc : worthOf l (r.from_ + i) r.lo = worthOf l (r.from_ + i) r.hi
      · exact hc
      · exact absurd (Or.inl ⟨h0, List.any_eq_true.2 ⟨i, List.mem_range.2 hi, decide_eq_true hc⟩⟩) hnb
    have e : ∀ (s2 : List Int), s2.length = (r.to_ - r.from_).toNat → (∀ y ∈ s2, y = r.lo ∨ y = r.hi) → volSum l r.from_ s2 = segSum (fun _ => 0) s2 + tS (fun t => worthOf l t r.lo) r.from_ s2.length := fun s2 e1 e2 =>
      volSum_sep l (fun _ => 0) (fun t => worthOf l t r.lo) s2 r.from_ fun t t1 t2 y hy => by
        have := hfr (t - r.from_).toNat (by omega)
        rw [show r.from_ + (((t - r.from_).toNat : Nat) : Int) = t by omega] at this
        rw [Rat.zero_add]
        rcases e2 y hy with rfl | rfl
        · rfl
        · exact this.symm
    have z : ∀ s2 : List Int, segSum (fun _ => (0 : Rat)) s2 = 0 := fun s2 => by
      induction s2 with
      | nil => rfl
      | cons y s2 ih => rw [segSum, ih, Rat.zero_add]
    rw [e seg a1 a2, e (stagesR r) (by rw [hst, List.length_replicate]) (by rw [hst]; exact fun y hy => .inl (List.eq_of_mem_replicate hy)), z, z, a1, hst, List.length_replicate]
  · rw [if_neg h0] at ha
    have hst : stagesR r = tabS r.tab := by rw [stagesR, if_neg h0]
    obtain ⟨t1, _⟩ := oneE_tab h1 h0
    have hp : 0 < r.tab.length := by omega
    have hin := h
    rw [inT, decide_eq_true_eq] at hin
    have hmv : ∀ (k j : Nat) (hk : k < r.tab.length), r.from_ + j < r.to_ → worthOf l r.from_ r.tab[0].1 + worthOf l (r.from_ + j) r.tab[k].1 = worthOf l r.from_ r.tab[k].1 + worthOf l (r.from_ + j) r.tab[0].1 := fun k j hk hj => by
      rcases Nat.eq_zero_or_pos k with rfl | hk0
      · rfl
      rcases Nat.eq_zero_or_pos j with rfl | hj0
      · simp only [Int.natCast_zero, Int.add_zero]; exact Rat.add_comm _ _
      by_cases hc : worthOf l r.from_ r.tab[0].1 + worthOf l (r.from_ + j) r.tab[k].1 = worthOf l r.from_ r.tab[k].1 + worthOf l (r.from_ + j) r.tab[0].1
      · exact hc
      · exact absurd (Or.inr ⟨h0, k, hp, hk, hk0, j, hj0, hj, hc⟩) hnb
    have e : ∀ s2 : List Int, s2.Perm (tabS r.tab) → volSum l r.from_ s2 = segSum (fun y => worthOf l r.from_ y) s2 + tS (fun t => worthOf l t r.tab[0].1 - worthOf l r.from_ r.tab[0].1) r.from_ s2.length := fun s2 e1 =>
      volSum_sep l (fun y => worthOf l r.from_ y) (fun t => worthOf l t r.tab[0].1 - worthOf l r.from_ r.tab[0].1) s2 r.from_ fun t q1 q2 y hy => by
        obtain ⟨m, hm⟩ := tabS_mem (e1.mem_iff.1 hy)
        obtain ⟨k, hk, hk2⟩ := List.getElem_of_mem hm
        have hl2 := e1.length_eq
        rw [← hst] at hl2
        have := hmv k (t - r.from_).toNat hk (by omega)
        rw [show r.from_ + (((t - r.from_).toNat : Nat) : Int) = t by omega, hk2] at this
        dsimp only at this ⊢
        grind
    rw [e seg ha, hst, e _ (List.Perm.refl _), segSum_perm ha, ha.length_eq]
theorem AgrS.vol {l : List Spn} {x : Int} (hl : InOrd x l) (hR : ∀ s ∈ l, RightS s) : ∀ {rs : List Rn} {f : Int} {S : List Int}, (∀ r ∈ rs, inT r = true) → (∀ r ∈ rs, oneE r = 0) → (∀ r ∈ rs, takeB l r) → AgrS f S rs → volSum l f S = volSum l f (firstS rs)
  | [], f, S, _, _, _, h => by rw [show S = [] from h]; rfl
  | r :: t, f, S, hT, hO, hB, ⟨n, h1, h2, h3, h4, h5⟩ => by
    have m := List.mem_cons_self (a := r) (l := t)
    have ih := AgrS.vol hl hR (fun x hx => hT x (List.mem_cons_of_mem _ hx)) (fun x hx => hO x (List.mem_cons_of_mem _ hx)) (fun x hx => hB x (List.mem_cons_of_mem _ hx)) h5
    have h6 := stagesR_len (hT r m) (hO r m)
    have h7 := AgrP.vol (hT r m) (hO r m) hl hR (hB r m) h4
    rw [h1] at h7
    conv => lhs; rw [← List.take_append_drop n S]
    rw [firstS, volSum_app, volSum_app, h7, List.length_take, show f + ((min n S.length : Nat) : Int) = f + n by omega, ih, show (((stagesR r).length : Nat) : Int) = n by omega]
/-! ### stages that are written -/
theorem volSum_set (l : List Spn) (v : Int) : ∀ (S : List Int) (f : Int) (p : Nat) (hp : p < S.length), volSum l f (S.set p v) = volSum l f S + (worthOf l (f + p) v - worthOf l (f + p) S[p])
  | y :: S, f, 0, _ => by
    simp only [List.set_cons_zero, volSum, List.getElem_cons_zero, Int.natCast_zero, Int.add_zero]
    grind
  | y :: S, f, p + 1, hp => by
    rw [List.set_cons_succ, volSum, volSum, volSum_set l v S (f + 1) p (by simpa using hp), show f + 1 + (p : Int) = f + ((p + 1 : Nat) : Int) by omega]
    simp only [List.getElem_cons_succ]
    grind
section
variable {f : Int} {S : List Int} {rs : List Rn} (hc : Chn f rs) (hT : ∀ r ∈ rs, inT r = true)
include hc hT
theorem AgrA.set {p : Nat} {v : Int} {k : Nat} (hk : k < rs.length) (h : AgrA f S rs) (hp1 : (rs[k].from_ - f).toNat ≤ p) (hp2 : p < (rs[k].to_ - f).toNat) (hn : AgrP rs[k] (segL (S.set p v) (rs[k].from_ - f).toNat (rs[k].to_ - rs[k].from_).toNat)) : AgrA f (S.set p v) rs := fun j hj => by
  rcases Nat.lt_trichotomy j k with hlt | rfl | hlt
  · have := chn_lt hc hT j k hlt hk
    have hin := hT _ (List.getElem_mem hj)
    rw [inT, decide_eq_true_eq] at hin
    rw [segL_out (by omega)]; exact h j hj
  · exact hn
  · have := chn_lt hc hT k j hlt hj
    have hin := hT _ (List.getElem_mem hk)
    rw [inT, decide_eq_true_eq] at hin
    rw [segL_out (by omega)]; exact h j hj
theorem AgrA.put {b n i : Nat} {v : Int} {k : Nat} (hk : k < rs.length) (hb : rs[k].from_ = f + b) (hn : rs[k].to_ = rs[k].from_ + n) (hS : b + n ≤ S.length) (h : AgrA f S rs) (hi : i < n) (h0 : rs[k].tab.length = 0) (hv : v = rs[k].lo ∨ v = rs[k].hi) : AgrA f (S.set (b + i) v) rs := by
  refine AgrA.set hc hT hk h (by omega) (by omega) ?_
  have h1 := h k hk
  rw [AgrP, if_pos h0] at h1 ⊢
  rw [segL_in (by omega)]
  refine ⟨by rw [List.length_set]; exact h1.1, fun x hx => ?_⟩
  rcases List.mem_or_eq_of_mem_set hx with hx | rfl
  · exact h1.2 x hx
  · exact hv
theorem AgrA.swap {b n i j : Nat} {k : Nat} (hk : k < rs.length) (hb : rs[k].from_ = f + b) (hn : rs[k].to_ = rs[k].from_ + n) (hS : b + n ≤ S.length) (h : AgrA f S rs) (hi : i < n) (hj : j < n) (h0 : rs[k].tab.length ≠ 0) : AgrA f ((S.set (b + i) (S[b + j]'(by omega))).set (b + j) (S[b + i]'(by omega))) rs := fun z hz => by
  rcases Nat.lt_trichotomy z k with hlt | rfl | hlt
  · have := chn_lt hc hT z k hlt hk
    have hin := hT _ (List.getElem_mem hz)
    rw [inT, decide_eq_true_eq] at hin
    rw [segL_out (by omega), segL_out (by omega)]; exact h z hz
  · have h1 := h z hz
    rw [AgrP, if_neg h0] at h1 ⊢
    have e1 : (rs[z].from_ - f).toNat = b := by omega
    have e2 : (rs[z].to_ - rs[z].from_).toNat = n := by omega
    rw [e1, e2] at h1 ⊢
    rw [segL_in (by omega), segL_in (by omega), show b + i - b = i by omega, show b + j - b = j by omega, ← segL_get hS hi, ← segL_get hS hj]
    exact (swap_perm _ i j (by rw [segL_len hS]; exact hi) (by rw [segL_len hS]; exact hj)).trans h1
  · have := chn_lt hc hT k z hlt hz
    have hin := hT _ (List.getElem_mem hk)
    rw [inT, decide_eq_true_eq] at hin
    rw [segL_out (by omega), segL_out (by omega)]; exact h z hz
end
/-- What an exchange changes. -/
theorem volSum_swap (l : List Spn) (S : List Int) (f : Int) (p q : Nat) (hp : p < S.length) (hq : q < S.length) (hpq : p ≠ q) :
    volSum l f ((S.set p S[q]).set q S[p]) = volSum l f S + (worthOf l (f + p) S[q] - worthOf l (f + p) S[p] + (worthOf l (f + q) S[p] - worthOf l (f + q) S[q])) := by
  rw [volSum_set l _ _ f q (by rw [List.length_set]; exact hq), volSum_set l _ S f p hp, List.getElem_set_ne hpq]
  grind
end Go.Proofs.YthkdfpbjkpgckaaGreatDoor
/-
  The law VolumeOfTables holds, and its tied card: for every input the call returns true, and the arguments read afterwards as they read before.
-/
namespace Go.Proofs.YthkdfpbjkpgckaaGreatDoor
open Go Go.RowKit Go.Sl Go.ChangeShapes Go.WideShapes Go.ChangeAt
theorem rU8 : Reads Tryz.prog 5 (fun n : Nat => [.int .u8 n]) (fun _ n => n ≤ 255) := (Reads.int Tryz.underlying5).turn fun _ n h => by
  have h2 : 0 ≤ n ∧ n ≤ 255 := by rw [Lit.wf, Bool.and_eq_true, decide_eq_true_eq, decide_eq_true_eq] at h; exact h
  exact ⟨n.toNat, by rw [Int.toNat_of_nonneg h2.1], by omega⟩
end Go.Proofs.YthkdfpbjkpgckaaGreatDoor
namespace Go.Proofs.YthkdfpbjkpgckaaGreatDoor
open Go.RowKit Go.Sl Go.Num
theorem mul64_holds (n : Nat) (w : World) (hn : n < 4294967296) :
    Calls Tryz.prog 149 #[.int .u64 1, .int .u64 n] w fun e w' => e = .returned (.tuple #[.int .u64 0, .int .u64 n]) ∧ Below w.heap.size w w' := by
  refine enterA [(0, .int .u64 1), (1, .int .u64 n)] Tryz.func149 Tryz.ntmps149 ?_
  all_goals (refine go ?_; and_intros <;> (try exact trivial) <;> intros)
  repeat' ((first | (apply G.shrK (n := 32) (m := 0); rfl; rfl; rfl; exact shift32 _ (by omega) (by omega); rfl; rfl; rfl) | (apply G.andK; rfl; rfl; exact mask32 _ (by omega) (by omega); rfl; rfl; rfl)) <;> (refine go ?_; and_intros <;> (try exact trivial) <;> intros))
  all_goals refine ret2b Tryz.func149 Tryz.results149 ?_
  all_goals (rw [show (1 : Int) * (n : Int) = n by omega]; rfl)
theorem bmul_holds (n : Nat) (w : World) (hn : n < 4294967296) :
    Calls Tryz.prog 138 #[.int .u64 1, .int .u64 n] w fun e w' => e = .returned (.tuple #[.int .u64 0, .int .u64 n]) ∧ Below w.heap.size w w' := by
  have hm := fun w' (_ : Below w.heap.size w w') => mul64_holds n w' hn
  refine enterA [(0, .int .u64 1), (1, .int .u64 n)] Tryz.func138 Tryz.ntmps138 ?_
  all_goals (refine go ?_; and_intros <;> (try exact trivial) <;> intros)
  repeat' ((first | (refine G.cvb hm ?_)) <;> (refine go ?_; and_intros <;> (try exact trivial) <;> intros))
  all_goals refine ret2b Tryz.func138 Tryz.results138 ?_
  all_goals rfl
theorem isV_one (s : Int) : (isV s).all (·.oneCell') = true := rfl
theorem isRep (x : Int) (n : Nat) : flat isV (List.replicate n x) = List.replicate n (.int .i64 x) := by
  induction n with
  | zero => rfl
  | succ n ih => rw [List.replicate_succ, List.replicate_succ, flat_cons, ih]; rfl
theorem rep_copy (x : Value) (n N : Nat) (z : Value) (hn : n ≤ N) : setL (List.replicate n x ++ List.replicate (N - n) z) n ((List.replicate n x ++ List.replicate (N - n) z).take n |>.take (min (N - n) n)) = List.replicate (n + min (N - n) n) x ++ List.replicate (N - (n + min (N - n) n)) z := by
  rw [List.take_left' List.length_replicate, List.take_replicate, setL_eq _ _ _ (by simp; omega), List.take_left' List.length_replicate, List.length_replicate, List.replicate_append_replicate]
  congr 1
  · congr 1; omega
  · rw [List.drop_append, List.drop_eq_nil_of_le (by simp), List.nil_append, List.length_replicate, List.drop_replicate]; congr 1; omega
theorem rep_zero (N : Nat) : flat (fun x : List Value => x) (List.replicate N [Value.int .i64 0]) = List.replicate N (.int .i64 0) := by
  induction N with
  | zero => rfl
  | succ n ih => rw [List.replicate_succ, List.replicate_succ, flat_cons, ih]; rfl
theorem rep_first (x : Int) (N : Nat) : setL (flat (fun x : List Value => x) (List.replicate N [Value.int .i64 0])) 0 ((flat isV [x]).take (min N 1)) = List.replicate (min N 1) (.int .i64 x) ++ List.replicate (N - min N 1) (.int .i64 0) := by
  rw [rep_zero]
  cases N with
  | zero => rfl
  | succ n => rw [show min (n + 1) 1 = 1 by omega]; rfl
set_option maxHeartbeats 4000000 in
theorem repeat_holds (q : Option Addr) (x : Int) (cq N : Nat) (w : World) (hA : SlAt w q 1 ([x].map isV)) (hN : N ≤ 1402560) :
    Calls Tryz.prog 110 #[.slice q 1 cq, .int .i64 N] w fun e w' => ∃ a' c', e = .returned (.slice a' N c') ∧ SlAt w' a' 1 ((List.replicate N x).map isV) ∧ (∀ p, a' = some p → w.heap.size ≤ p.block) ∧ Below w.heap.size w w' := by
  have hm := fun w' (_ : Below w.heap.size w w') => bmul_holds N w' (by omega)
  have hsrc : ∀ {C : Ctx} {M : List Row}, C.w0 = w → SrcV C M q 1 1 (flat isV [x]) := fun e => SrcV.old isV_len isV_one (by rw [e]; exact hA)
  have hN2 : ∀ n : Nat, n ≤ N → min (N - n) n = N - n ∨ min (N - n) n = n := fun n _ => by omega
  refine enterA [(0, .slice q 1 cq), (1, .int .i64 N)] Tryz.func110 Tryz.ntmps110 ?_
  all_goals (refine go ?_; and_intros <;> (try exact trivial) <;> intros)
  repeat' ((first | (refine G.cvb hm ?_) | (apply G.make (n := N) [.int .i64 0]; rfl; rfl; rfl; rfl; rfl; rfl; rfl; rfl; omega; omega; intro B) | (apply G.cpyM (r := min N 1) (out := List.replicate (min N 1) (.int .i64 x) ++ List.replicate (N - min N 1) (.int .i64 0)); rfl; rfl; rfl; (repeat (first | exact RAt.head | apply RAt.tail)); exact hsrc rfl; rfl; rw [rep_zero, List.length_replicate]; omega; exact rep_first x N)) <;> (refine go ?_; and_intros <;> (try exact trivial) <;> intros))
  refine J.loop (c := _) (min N 1) (fun s => N - s) (fun s => [(7, .slice (some ⟨B, 0, none⟩) N N), (8, .int .i64 s)]) (fun s => [.blk B 3 (List.replicate s (.int .i64 x) ++ List.replicate (N - s) (.int .i64 0)) (N * 1)]) (fun s => s ≤ N ∧ (s = 0 → N = 0)) ?_ sbT sbL ?_
  · exact ⟨by omega, fun h => by omega⟩
  intro n ⟨h1, h2⟩ ih
  by_cases hn : n < N
  · have hrc := rep_copy (.int .i64 x) n N (.int .i64 0) h1
    have h4 := hN2 n h1
    have hih := fun r (hr : min (N - n) n = r) (hr2 : n + r ≤ N ∧ 0 < r) => ih (n + r) ⟨hr2.1, fun h => by omega⟩ (by omega)
    generalize hr : min (N - n) n = r at *
    have h3 : n + r ≤ N ∧ 0 < r := by omega
    have hih := hih r rfl h3
    have hall : (List.replicate n (Value.int .i64 x) ++ List.replicate (N - n) (Value.int .i64 0)).all (·.oneCell') = true := by simp [Value.oneCell']
    have hlen : (List.replicate n (Value.int .i64 x) ++ List.replicate (N - n) (Value.int .i64 0)).length = N := by rw [List.length_append, List.length_replicate, List.length_replicate]; omega
    generalize List.replicate n (Value.int .i64 x) ++ List.replicate (N - n) (Value.int .i64 0) = cs at *
    clear ih hN2 hsrc
    all_goals (refine goR ?_; and_intros <;> (try exact trivial) <;> intros)
    repeat' ((first | (apply J.regA (.q 0 <| .q 1 <| .q 2 <| .q 3 <| .q 4 <| .q 5 <| .q 6 <| .r 7 <| .q 8 <| .q 9 <| .nil); exact Tryz.mixed; decide +kernel) | (apply G.slF (l := n) (off := n); rfl; rfl; rfl; omega; omega; (show 0 + n * 1 = n); omega; rfl) | (apply G.slH (len := n); rfl; rfl; rfl; omega; omega; rfl) | (apply G.cpyM (r := r) (n := N - n) (m := n); rfl; rfl; rfl; (repeat (first | exact RAt.head | apply RAt.tail)); exact SrcV.pre (by exact mm) (by rw [hlen]; exact h1) hall; exact hr; rw [hlen]; omega; exact hrc) | (apply J.regQ; exact Tryz.mixed; decide +kernel) | (apply J.regL'; exact Tryz.mixed; decide +kernel)) <;> (refine goR ?_; and_intros <;> (try exact trivial) <;> intros))
    exact J.fin hih
  · obtain rfl : n = N := by omega
    rw [Nat.sub_self, List.replicate_zero, List.append_nil, ← isRep]
    clear ih
    all_goals (refine go ?_; and_intros <;> (try exact trivial) <;> intros)
    (refine ret1 Tryz.func110 Tryz.results110 ?_; intro w' hw)
    have hm := blkSlA hw isV_len (l := List.replicate n x)
    exact ⟨_, _, rfl, hm.1, fun p hp => by cases hp; exact hm.2, hw.below⟩
theorem index_holds (a : Option Addr) (l : List Int) (c : Nat) (v : Int) (w : World) (hA : SlAt w a 1 (l.map isV)) (hl : l.length ≤ 1000000000) :
    Calls Tryz.prog 111 #[.slice a l.length c, .int .i64 v] w fun e w' => e = .returned (.int .i64 (idxI l fun y => decide (v = y))) ∧ Below w.heap.size w w' := by
  generalize hT : idxI l (fun y => decide (v = y)) = T
  refine enterA [(0, .slice a l.length c), (1, .int .i64 v)] Tryz.func111 Tryz.ntmps111 ?_
  all_goals (refine go ?_; and_intros <;> (try exact trivial) <;> intros)
  refine J.loop (c := _) (0 : Nat) (fun s => l.length - s) (fun s => [(0, .slice a l.length c), (1, .int .i64 v), (7, .int .i64 l.length), (8, .int .i64 s)]) (fun s => []) (fun s => s ≤ l.length ∧ ∀ j (hj : j < l.length), j < s → l[j] ≠ v) ?_ sbT sbL ?_
  · exact ⟨Nat.zero_le _, fun j _ h => absurd h (Nat.not_lt_zero _)⟩
  intro k ⟨h1, h2⟩ ih
  by_cases hk : k < l.length
  · obtain ⟨ba, oa, rfl, hra⟩ := SlAt.all hA (by omega)
    have hrk := hra k hk
    by_cases hv : v = l[k]
    · have hT2 : T = k := by
        have h3 : l.findIdx (fun y => decide (v = y)) = k := by
          rw [List.findIdx_eq hk]
          exact ⟨decide_eq_true hv, fun j hj => decide_eq_false fun e => h2 j (by omega) hj e.symm⟩
        rw [← hT, idxI, h3, if_pos hk]
      subst hT2
      generalize l[k] = z at *
      dsimp only [isV] at hrk
      clear ih hra
      all_goals (refine go ?_; and_intros <;> (try exact trivial) <;> intros)
      all_goals refine ret1b Tryz.func111 Tryz.results111 ?_
      all_goals rfl
    · have ih' := ih (k + 1) ⟨hk, fun j hj hjk => by
        rcases Nat.lt_or_ge j k with h | h
        · exact h2 j hj h
        · obtain rfl : j = k := by omega
          exact fun e => hv e.symm⟩ (by omega)
      clear ih hra h2
      generalize l[k] = z at *
      dsimp only [isV] at hrk
      all_goals (refine go ?_; and_intros <;> (try exact trivial) <;> intros)
      exact J.fin ih'
  · have hT2 : T = -1 := by
      have h3 : l.findIdx (fun y => decide (v = y)) = l.length := by
        rw [List.findIdx_eq_length]
        exact fun y hy => by
          obtain ⟨j, hj, rfl⟩ := List.getElem_of_mem hy
          exact decide_eq_false fun e => h2 j hj (by omega) e.symm
      rw [← hT, idxI, h3, if_neg (Nat.lt_irrefl _)]
    subst hT2
    clear ih
    all_goals (refine go ?_; and_intros <;> (try exact trivial) <;> intros)
    all_goals refine ret1b Tryz.func111 Tryz.results111 ?_
    all_goals rfl
theorem firstF_at {l : List Rn} (h : 0 < l.length) : firstF l = l[0].from_ := by
  cases l with
  | nil => exact absurd h (Nat.lt_irrefl _)
  | cons r t => rfl
theorem repeat_i (q : Option Addr) (x : Int) (cq N : Nat) (e : Int) (w : World) (he : e = (N : Int)) (hA : SlAt w q 1 ([x].map isV)) (hN : N ≤ 1402560) :
    Calls Tryz.prog 110 #[.slice q 1 cq, .int .i64 e] w fun e w' => ∃ a' c', e = .returned (.slice a' N c') ∧ SlAt w' a' 1 ((List.replicate N x).map isV) ∧ (∀ p, a' = some p → w.heap.size ≤ p.block) ∧ Below w.heap.size w w' := by
  subst he; exact repeat_holds q x cq N w hA hN
set_option maxHeartbeats 4000000 in
theorem vFirst_holds (a : Option Addr) (rs : List Rn) (c : Nat) (w : World) (hA : RunsAt w a rs) (hfr : ∀ r ∈ rs, r.tab.length ≤ 64) (hE : runsErr rs = 0) (hn : rs.length ≤ 400) :
    Calls Tryz.prog 74 #[.slice a rs.length c] w (RetO Tryz.prog w 3 1 (firstS rs).length (flat isV (firstS rs)) (fun u => .tuple #[.agg #[.int .i64 (firstF rs), u], .int .i64 0])) := by
  have hc := fun w' (hb : Below w.heap.size w w') => vRuns_holds a rs c w' (hA.below hb) hfr
  rw [hE] at hc
  have ⟨_, k5, _⟩ := runsErr_ok hE
  have k6 := runsErr_one hE
  have hsl : ∀ {C : Ctx} {M : List Row} {a1 : Option Addr} {x : Int} {N B : Nat}, (0 < ((List.replicate N x).map isV).length → ∃ b off, a1 = some ⟨b, off, none⟩) → slRow B a1 1 ((List.replicate N x).map isV) ∈ M → SrcV C M a1 N 1 (flat isV (List.replicate N x)) := fun {C M a1 x N B} h1 h2 => by
    have := SrcV.sl (C := C) isV_len isV_one h1 h2
    rwa [List.length_replicate] at this
  rcases Nat.eq_zero_or_pos rs.length with h0 | h0
  · obtain rfl := List.length_eq_zero_iff.1 h0
    refine enterA [(0, .slice a 0 c)] Tryz.func74 Tryz.ntmps74 ?_
    all_goals (refine go ?_; and_intros <;> (try exact trivial) <;> intros)
    repeat' ((first | (refine G.cvb hc ?_)) <;> (refine go ?_; and_intros <;> (try exact trivial) <;> intros))
    apply J.nilOwn (E := 3) (size := 1)
    refine J.loop (c := _) (0 : Nat) (fun s => 0) (fun s => [(2, .pointer (some ⟨_, 0, none⟩)), (5, .pointer (some ⟨_, 0, none⟩)), (24, .slice a 0 c), (25, .int .i64 0), (26, .int .i64 0)]) (fun s => [.own 0 (.slice none 0 0) 3 1 0 [], .blk _ 24 [.int .i64 0, .slice none 0 0] 2, .blk _ 24 [.int .i64 0, .slice none 0 0] 2]) (fun s => True) ?_ sbT sbL ?_
    · exact trivial
    intro _ _ _
    all_goals (refine go ?_; and_intros <;> (try exact trivial) <;> intros)
    (refine ret2 Tryz.func74 Tryz.results74 ?_; intro w' hw)
    exact hw.retO (i := 0) rfl (fun u => .tuple #[.agg #[.int .i64 0, u], .int .i64 0])
  obtain ⟨ba, oa, rfl, hra⟩ := SlAt.all hA.1 (by omega)
  have hr0 := hra 0 h0
  have hf0 := firstF_at h0
  generalize firstF rs = F0 at *
  generalize hF : firstS rs = F
  dsimp only [rnV] at hr0
  rw [← hf0] at hr0
  refine enterA [(0, .slice (some ⟨ba, oa, none⟩) rs.length c)] Tryz.func74 Tryz.ntmps74 ?_
  all_goals (refine go ?_; and_intros <;> (try exact trivial) <;> intros)
  repeat' ((first | (refine G.cvb hc ?_) | (apply G.ix (i := 0); rfl; rfl; exact rfl; omega; rfl)) <;> (refine go ?_; and_intros <;> (try exact trivial) <;> intros))
  clear hc hr0 hf0
  apply J.nilOwn (E := 3) (size := 1)
  refine J.loop (c := _) ((0, none, 0, 0, []) : Nat × Option Addr × Nat × Nat × List Int) (fun s => rs.length - s.1) (fun s => [(2, .pointer (some ⟨_, 0, none⟩)), (5, .pointer (some ⟨_, 0, none⟩)), (24, .slice (some ⟨ba, oa, none⟩) rs.length c), (25, .int .i64 rs.length), (26, .int .i64 s.1)]) (fun s => [.own 0 (.slice s.2.1 s.2.2.2.1 s.2.2.1) 3 1 s.2.2.2.1 (flat isV s.2.2.2.2), .blk _ 24 [.int .i64 F0, .slice s.2.1 s.2.2.2.1 s.2.2.1] 2, .blk _ 24 [.int .i64 0, .slice none 0 0] 2]) (fun s => s.1 ≤ rs.length ∧ s.2.2.2.2.length = s.2.2.2.1 ∧ s.2.2.2.2 ++ firstS (rs.drop s.1) = F ∧ s.2.2.2.1 ≤ 100000000 * s.1) ?_ sbT sbL ?_
  · exact ⟨Nat.zero_le _, rfl, hF, Nat.zero_le _⟩
  clear hF
  intro ⟨k, au, cu, j, o⟩ ⟨h3, h4, h5, h6⟩ ih
  dsimp only at h3 h4 h5 h6 ⊢
  by_cases hk : k < rs.length
  · have hrk := hra k hk
    have hmem := List.getElem_mem hk
    have hin := k5 _ hmem
    have hone := k6 _ hmem
    have htab := hA.2 _ hmem
    have hlen := hfr _ hmem
    rw [List.drop_eq_getElem_cons hk, firstS] at h5
    rw [inT, decide_eq_true_eq] at hin
    have hg := fun w' (_ : Below w.heap.size w w') => gap_holds rs[k] w'
    clear hra hmem k5 k6 hfr hA
    generalize rs[k] = r at *
    by_cases h0 : r.tab.length = 0
    · rw [stagesR, if_pos h0] at h5
      rw [decide_eq_true h0] at hg
      clear hone htab
      obtain ⟨rf, rt, tab, adr, cap, lo, hi⟩ := r
      dsimp only [rnV, rnA] at *
      obtain ⟨n, rfl⟩ : ∃ n : Nat, rt = rf + n := ⟨(rt - rf).toNat, by omega⟩
      rw [show (rf + n - rf : Int).toNat = n by omega, ← List.append_assoc] at h5
      obtain rfl := List.length_eq_zero_iff.1 h0
      all_goals (refine goR ?_; and_intros <;> (try exact trivial) <;> intros)
      repeat' ((first | (refine G.cvb hg ?_) | (apply J.regA (.q 0 <| .q 1 <| .q 2 <| .q 3 <| .q 5 <| .q 6 <| .q 7 <| .q 8 <| .q 9 <| .e 4 <| .e 10 <| .r 11 <| .q 12 <| .r 13 <| .nil); exact Tryz.mixed; decide +kernel) | (apply G.sliceL; rfl; rfl; rfl; rfl; rfl; rfl; rfl; rfl; intro Bs) | (apply G.cN (g := 110) (fun a' c' => .slice a' n c') ((List.replicate n lo).map isV); rfl; rfl; exact fun w' hw' => repeat_i _ lo 1 n _ w' (by omega) (SlAt.ofBlk (f := isV) (sz := 1) (l := [lo]) (fun _ => rfl) hw' (by exact mm)) (by omega); intro a1 c1 hp1 hq1) | (apply G.apV; rfl; rfl; rfl; (repeat (first | exact RAt.head | apply RAt.tail)); exact hsl hp1 (by exact mm); exact (flat_append isV _ _).symm; omega; omega; intro a2 c2) | (apply G.s1 (v := .slice a2 (j + n) c2); rfl; rfl; rfl; (repeat (first | exact RAt.head | apply RAt.tail)); exact ⟨rfl, rfl⟩; exact Nat.le_of_ble_eq_true rfl; rfl) | (apply J.regQ; exact Tryz.mixed; decide +kernel) | (apply J.regL'; exact Tryz.mixed; decide +kernel)) <;> (refine goR ?_; and_intros <;> (try exact trivial) <;> intros))
      refine J.loop (c := _) (0 : Nat) (fun s => 0) (fun s => [(2, .pointer (some ⟨_, 0, none⟩)), (5, .pointer (some ⟨_, 0, none⟩)), (24, .slice (some ⟨ba, oa, none⟩) rs.length c), (25, .int .i64 rs.length), (26, .int .i64 k), (46, .slice adr 0 cap), (47, .int .i64 0), (48, .int .i64 0)]) (fun s => [.own 0 (.slice a2 (j + n) c2) 3 1 (j + n) (flat isV (o ++ List.replicate n lo)), .blk _ 24 [.int .i64 F0, .slice a2 (j + n) c2] 2, .blk _ 24 [.int .i64 0, .slice none 0 0] 2]) (fun s => True) ?_ sbT sbL ?_
      · exact trivial
      intro _ _ _
      all_goals (refine go ?_; and_intros <;> (try exact trivial) <;> intros)
      exact J.fin (ih (k + 1, a2, c2, j + n, o ++ List.replicate n lo) ⟨hk, by simp [h4], h5, by dsimp only; omega⟩ (by dsimp only; omega))
    · rw [stagesR, if_neg h0] at h5
      rw [decide_eq_false h0] at hg
      obtain ⟨htt, _, hsum, _, _⟩ := oneE_tab hone h0
      clear hone
      obtain ⟨rf, rt, tab, adr, cap, lo, hi⟩ := r
      have htab : SlAt w adr 2 (tab.map hoV) := htab
      dsimp only [rnV, rnA] at *
      all_goals (refine go ?_; and_intros <;> (try exact trivial) <;> intros)
      repeat' ((first | (refine G.cvb hg ?_)) <;> (refine go ?_; and_intros <;> (try exact trivial) <;> intros))
      clear hrk hg
      generalize hY : firstS (rs.drop (k + 1)) = Y at *
      refine J.loop (c := _) ((0, au, cu, j, o) : Nat × Option Addr × Nat × Nat × List Int) (fun s => tab.length - s.1) (fun s => [(2, .pointer (some ⟨_, 0, none⟩)), (5, .pointer (some ⟨_, 0, none⟩)), (24, .slice (some ⟨ba, oa, none⟩) rs.length c), (25, .int .i64 rs.length), (26, .int .i64 k), (46, .slice adr tab.length cap), (47, .int .i64 tab.length), (48, .int .i64 s.1)]) (fun s => [.own 0 (.slice s.2.1 s.2.2.2.1 s.2.2.1) 3 1 s.2.2.2.1 (flat isV s.2.2.2.2), .blk _ 24 [.int .i64 F0, .slice s.2.1 s.2.2.2.1 s.2.2.1] 2, .blk _ 24 [.int .i64 0, .slice none 0 0] 2]) (fun s => s.1 ≤ tab.length ∧ s.2.2.2.2.length = s.2.2.2.1 ∧ s.2.2.2.2 ++ (tabS (tab.drop s.1) ++ Y) = F ∧ s.2.2.2.1 ≤ 100000000 * k + 1402560 * s.1) ?_ sbT sbL ?_
      · exact ⟨Nat.zero_le _, h4, h5, by dsimp only; omega⟩
      clear h4 h5 h6
      intro ⟨i, au, cu, j, o⟩ ⟨h3, h4, h5, h6⟩ ih2
      dsimp only at h3 h4 h5 h6 ⊢
      by_cases hi2 : i < tab.length
      · obtain ⟨b2, o2, rfl, hra2⟩ := SlAt.all htab (by omega)
        have hri := hra2 i hi2
        have hti := htt _ (List.getElem_mem hi2)
        rw [List.drop_eq_getElem_cons hi2, tabS_cons] at h5
        clear hra2 htt ih
        generalize tab[i] = z at *
        obtain ⟨x, m⟩ := z
        dsimp only [hoV] at *
        obtain ⟨n, rfl⟩ : ∃ n : Nat, m = n := ⟨m.toNat, by omega⟩
        rw [Int.toNat_natCast, List.append_assoc, ← List.append_assoc] at h5
        all_goals (refine goR ?_; and_intros <;> (try exact trivial) <;> intros)
        repeat' ((first | (apply J.regA (.q 0 <| .q 1 <| .q 2 <| .q 3 <| .q 5 <| .q 6 <| .e 4 <| .e 7 <| .r 8 <| .q 9 <| .r 10 <| .nil); exact Tryz.mixed; decide +kernel) | (apply G.sliceL; rfl; rfl; rfl; rfl; rfl; rfl; rfl; rfl; intro Bs) | (apply G.cN (g := 110) (fun a' c' => .slice a' n c') ((List.replicate n x).map isV); rfl; rfl; exact fun w' hw' => repeat_i _ x 1 n _ w' rfl (SlAt.ofBlk (f := isV) (sz := 1) (l := [x]) (fun _ => rfl) hw' (by exact mm)) (by omega); intro a1 c1 hp1 hq1) | (apply G.apV; rfl; rfl; rfl; (repeat (first | exact RAt.head | apply RAt.tail)); exact hsl hp1 (by exact mm); exact (flat_append isV _ _).symm; omega; omega; intro a2 c2) | (apply G.s1 (v := .slice a2 (j + n) c2); rfl; rfl; rfl; (repeat (first | exact RAt.head | apply RAt.tail)); exact ⟨rfl, rfl⟩; exact Nat.le_of_ble_eq_true rfl; rfl) | (apply J.regQ; exact Tryz.mixed; decide +kernel) | (apply J.regL'; exact Tryz.mixed; decide +kernel)) <;> (refine goR ?_; and_intros <;> (try exact trivial) <;> intros))
        exact J.fin (ih2 (i + 1, a2, c2, j + n, o ++ List.replicate n x) ⟨hi2, by simp [h4], h5, by dsimp only; omega⟩ (by dsimp only; omega))
      · rw [List.drop_eq_nil_of_le (by omega)] at h5
        clear ih2
        all_goals (refine go ?_; and_intros <;> (try exact trivial) <;> intros)
        exact J.fin (ih (k + 1, au, cu, j, o) ⟨hk, h4, by dsimp only; rw [hY]; exact h5, by dsimp only; omega⟩ (by dsimp only; omega))
  · obtain rfl : k = rs.length := by omega
    rw [List.drop_length, firstS, List.append_nil] at h5
    subst h5 h4
    clear ih
    all_goals (refine go ?_; and_intros <;> (try exact trivial) <;> intros)
    (refine ret2 Tryz.func74 Tryz.results74 ?_; intro w' hw)
    exact hw.retO (i := 0) rfl (fun u => .tuple #[.agg #[.int .i64 F0, u], .int .i64 0])
end Go.Proofs.YthkdfpbjkpgckaaGreatDoor
