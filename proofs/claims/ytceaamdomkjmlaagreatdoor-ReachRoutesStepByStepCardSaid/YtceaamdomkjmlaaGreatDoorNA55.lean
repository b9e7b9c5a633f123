/-
  Contracts of the rational numbers: Valid, of, lowest, plus, less, times, over.
-/
import Derived.Test.YtceaamdomkjmlaaGreatDoorNA54
import Derived.ProofKit
import Derived.Test.YtceaamdomkjmlaaGreatDoorRows
set_option linter.unusedVariables false
set_option linter.unusedSimpArgs false
set_option linter.unusedSectionVars false
namespace Go.Proofs.YtceaamdomkjmlaaGreatDoor
open Go.RowKit Go.Sl Go.Num
theorem nB_one : nB 1 = [1] := by
  have h := nB_vB_of (x := 1) (r := []) (by decide)
  have e : vB [1] = 1 := rfl
  rwa [e] at h
theorem nB_eq_one {n : Nat} : nB n = [1] ↔ n = 1 := ⟨fun h => nB_inj (h.trans nB_one.symm), fun h => by rw [h, nB_one]⟩
theorem ratValid_holds (a : Q3) (w : World) (h1 : a.num.length ≤ 536870912) (h2 : a.den.length ≤ 536870912) :
    Calls Tryz.prog 77 #[qA a] w fun e w' => e = .returned (.bool (decide (validQ a))) ∧ Below w.heap.size w w' := by
  have hvn := fun w' => natValid_holds a.num w'
  have hvd := fun w' => natValid_holds a.den w'
  have hg := fun w' => natGcd_holds a.num a.den w' h1 h2
  refine enterA [(0, qA a)] Tryz.func77 Tryz.ntmps77 ?_
  by_cases hz : a = zero3
  · rw [decide_eq_true (show validQ a from .inl hz)]
    all_goals (refine go ?_; and_intros <;> (try exact trivial) <;> repeat (first | refine fun (Bk : Nat) => ?_ | intro h))
    repeat' ((first | (apply G.eqR a zero3; rfl; rfl; rfl; all_goals intro h; all_goals try (exact absurd hz h))) <;> (refine go ?_; and_intros <;> (try exact trivial) <;> repeat (first | refine fun (Bk : Nat) => ?_ | intro h)))
    all_goals refine ret1b Tryz.func77 Tryz.results77 ?_
    all_goals rfl
  have key : validQ a ↔ (a.num ≠ [] ∧ a.den ≠ [] ∧ nB (vB a.num) = a.num ∧ nB (vB a.den) = a.den ∧ Nat.gcd (vB a.num) (vB a.den) = 1) := ⟨fun h => h.resolve_left hz, .inr⟩
  generalize hr : decide (validQ a) = r
  obtain ⟨s, n, d⟩ := a
  dsimp only at *
  by_cases c1 : n = []
  · rw [show r = false from hr ▸ decide_eq_false (fun h => (key.1 h).1 c1)]
    all_goals (refine go ?_; and_intros <;> (try exact trivial) <;> repeat (first | refine fun (Bk : Nat) => ?_ | intro h))
    repeat' ((first | (apply G.eqR ⟨s, n, d⟩ zero3; rfl; rfl; rfl; all_goals intro h; all_goals try (exact absurd h hz)) | (apply G.neqStr; rfl; rfl; rfl; rfl; rfl; all_goals intro h; all_goals try (first | exact absurd h (by assumption) | exact absurd (by assumption) h))) <;> (refine go ?_; and_intros <;> (try exact trivial) <;> repeat (first | refine fun (Bk : Nat) => ?_ | intro h)))
    all_goals refine ret1b Tryz.func77 Tryz.results77 ?_
    all_goals rfl
  by_cases c2 : d = []
  · rw [show r = false from hr ▸ decide_eq_false (fun h => (key.1 h).2.1 c2)]
    all_goals (refine go ?_; and_intros <;> (try exact trivial) <;> repeat (first | refine fun (Bk : Nat) => ?_ | intro h))
    repeat' ((first | (apply G.eqR ⟨s, n, d⟩ zero3; rfl; rfl; rfl; all_goals intro h; all_goals try (exact absurd h hz)) | (apply G.neqStr; rfl; rfl; rfl; rfl; rfl; all_goals intro h; all_goals try (first | exact absurd h (by assumption) | exact absurd (by assumption) h))) <;> (refine go ?_; and_intros <;> (try exact trivial) <;> repeat (first | refine fun (Bk : Nat) => ?_ | intro h)))
    all_goals refine ret1b Tryz.func77 Tryz.results77 ?_
    all_goals rfl
  by_cases c3 : nB (vB n) = n
  · rw [decide_eq_true c3] at hvn
    by_cases c4 : nB (vB d) = d
    · rw [decide_eq_true c4] at hvd
      by_cases c5 : Nat.gcd (vB n) (vB d) = 1
      · have c6 : nB (Nat.gcd (vB n) (vB d)) = [1] := nB_eq_one.2 c5
        rw [show r = true from hr ▸ decide_eq_true (key.2 ⟨c1, c2, c3, c4, c5⟩)]
        all_goals (refine go ?_; and_intros <;> (try exact trivial) <;> repeat (first | refine fun (Bk : Nat) => ?_ | intro h))
        repeat' ((first | (apply G.eqR ⟨s, n, d⟩ zero3; rfl; rfl; rfl; all_goals intro h; all_goals try (exact absurd h hz)) | (apply G.neqStr; rfl; rfl; rfl; rfl; rfl; all_goals intro h; all_goals try (first | exact absurd h (by assumption) | exact absurd (by assumption) h)) | (apply G.eqlStr; rfl; rfl; rfl; rfl; rfl; all_goals intro h; all_goals try (first | exact absurd h (by assumption) | exact absurd (by assumption) h)) | (apply G.cV (g := 105) (vs := [.string (bs n)]); rfl; rfl; exact fun w' _ => hvn w') | (apply G.cV (g := 105) (vs := [.string (bs d)]); rfl; rfl; exact fun w' _ => hvd w') | (apply G.cV (g := 103); rfl; rfl; exact fun w' _ => hg w')) <;> (refine go ?_; and_intros <;> (try exact trivial) <;> repeat (first | refine fun (Bk : Nat) => ?_ | intro h)))
        all_goals refine ret1b Tryz.func77 Tryz.results77 ?_
        all_goals rfl
      · have c6 : nB (Nat.gcd (vB n) (vB d)) ≠ [1] := fun e => c5 (nB_eq_one.1 e)
        rw [show r = false from hr ▸ decide_eq_false (fun h => c5 (key.1 h).2.2.2.2)]
        all_goals (refine go ?_; and_intros <;> (try exact trivial) <;> repeat (first | refine fun (Bk : Nat) => ?_ | intro h))
        repeat' ((first | (apply G.eqR ⟨s, n, d⟩ zero3; rfl; rfl; rfl; all_goals intro h; all_goals try (exact absurd h hz)) | (apply G.neqStr; rfl; rfl; rfl; rfl; rfl; all_goals intro h; all_goals try (first | exact absurd h (by assumption) | exact absurd (by assumption) h)) | (apply G.eqlStr; rfl; rfl; rfl; rfl; rfl; all_goals intro h; all_goals try (first | exact absurd h (by assumption) | exact absurd (by assumption) h)) | (apply G.cV (g := 105) (vs := [.string (bs n)]); rfl; rfl; exact fun w' _ => hvn w') | (apply G.cV (g := 105) (vs := [.string (bs d)]); rfl; rfl; exact fun w' _ => hvd w') | (apply G.cV (g := 103); rfl; rfl; exact fun w' _ => hg w')) <;> (refine go ?_; and_intros <;> (try exact trivial) <;> repeat (first | refine fun (Bk : Nat) => ?_ | intro h)))
        all_goals refine ret1b Tryz.func77 Tryz.results77 ?_
        all_goals rfl
    · rw [decide_eq_false c4] at hvd
      rw [show r = false from hr ▸ decide_eq_false (fun h => c4 (key.1 h).2.2.2.1)]
      all_goals (refine go ?_; and_intros <;> (try exact trivial) <;> repeat (first | refine fun (Bk : Nat) => ?_ | intro h))
      repeat' ((first | (apply G.eqR ⟨s, n, d⟩ zero3; rfl; rfl; rfl; all_goals intro h; all_goals try (exact absurd h hz)) | (apply G.neqStr; rfl; rfl; rfl; rfl; rfl; all_goals intro h; all_goals try (first | exact absurd h (by assumption) | exact absurd (by assumption) h)) | (apply G.cV (g := 105) (vs := [.string (bs n)]); rfl; rfl; exact fun w' _ => hvn w') | (apply G.cV (g := 105) (vs := [.string (bs d)]); rfl; rfl; exact fun w' _ => hvd w')) <;> (refine go ?_; and_intros <;> (try exact trivial) <;> repeat (first | refine fun (Bk : Nat) => ?_ | intro h)))
      all_goals refine ret1b Tryz.func77 Tryz.results77 ?_
      all_goals rfl
  · rw [decide_eq_false c3] at hvn
    rw [show r = false from hr ▸ decide_eq_false (fun h => c3 (key.1 h).2.2.1)]
    all_goals (refine go ?_; and_intros <;> (try exact trivial) <;> repeat (first | refine fun (Bk : Nat) => ?_ | intro h))
    repeat' ((first | (apply G.eqR ⟨s, n, d⟩ zero3; rfl; rfl; rfl; all_goals intro h; all_goals try (exact absurd h hz)) | (apply G.neqStr; rfl; rfl; rfl; rfl; rfl; all_goals intro h; all_goals try (first | exact absurd h (by assumption) | exact absurd (by assumption) h)) | (apply G.cV (g := 105) (vs := [.string (bs n)]); rfl; rfl; exact fun w' _ => hvn w')) <;> (refine go ?_; and_intros <;> (try exact trivial) <;> repeat (first | refine fun (Bk : Nat) => ?_ | intro h)))
    all_goals refine ret1b Tryz.func77 Tryz.results77 ?_
    all_goals rfl
/-- A fraction as the program holds it. -/
abbrev frA (f : Bool × Nat × Nat) : Value := .agg #[.bool f.1, .string (bs (nB f.2.1)), .string (bs (nB f.2.2))]
theorem ratOf_holds (a : Q3) (w : World) (h1 : a.num.length ≤ 536870912) (h2 : a.den.length ≤ 536870912) :
    Calls Tryz.prog 70 #[qA a] w fun e w' => e = .returned (frA (frac a)) ∧ Below w.heap.size w w' := by
  have hv := fun w' => ratValid_holds a w' h1 h2
  have hf0 : ¬ (validQ a ∧ a.num ≠ []) → frA (frac a) = .agg #[.bool false, .string (bs []), .string (bs [1])] := fun h => by
    rw [frac, if_neg h]; simp only [frA, nB_zero, nB_one]
  have hf1 : validQ a ∧ a.num ≠ [] → frA (frac a) = .agg #[.bool a.neg, .string (bs a.num), .string (bs a.den)] := fun h => by
    rw [frac, if_pos h]
    rcases h.1 with e | ⟨_, _, e1, e2, _⟩
    · exact absurd (by rw [e]; rfl) h.2
    · simp only [frA, e1, e2]
  refine enterA [(0, qA a)] Tryz.func70 Tryz.ntmps70 ?_
  by_cases c1 : a.num = []
  · rw [hf0 (fun h => h.2 c1)]
    all_goals (refine go ?_; and_intros <;> (try exact trivial) <;> repeat (first | refine fun (Bk : Nat) => ?_ | intro h))
    repeat' ((first | (apply G.eqlStr; rfl; rfl; rfl; rfl; rfl; all_goals intro h; all_goals try (first | exact absurd h (by assumption) | exact absurd (by assumption) h))) <;> (refine go ?_; and_intros <;> (try exact trivial) <;> repeat (first | refine fun (Bk : Nat) => ?_ | intro h)))
    all_goals refine ret1b Tryz.func70 Tryz.results70 ?_
    all_goals rfl
  by_cases c2 : validQ a
  · rw [hf1 ⟨c2, c1⟩]
    rw [decide_eq_true c2] at hv
    all_goals (refine go ?_; and_intros <;> (try exact trivial) <;> repeat (first | refine fun (Bk : Nat) => ?_ | intro h))
    repeat' ((first | (apply G.eqlStr; rfl; rfl; rfl; rfl; rfl; all_goals intro h; all_goals try (first | exact absurd h (by assumption) | exact absurd (by assumption) h)) | (apply G.cV (g := 77); rfl; rfl; exact fun w' _ => hv w')) <;> (refine go ?_; and_intros <;> (try exact trivial) <;> repeat (first | refine fun (Bk : Nat) => ?_ | intro h)))
    all_goals refine ret1b Tryz.func70 Tryz.results70 ?_
    all_goals rfl
  · rw [hf0 (fun h => c2 h.1)]
    rw [decide_eq_false c2] at hv
    all_goals (refine go ?_; and_intros <;> (try exact trivial) <;> repeat (first | refine fun (Bk : Nat) => ?_ | intro h))
    repeat' ((first | (apply G.eqlStr; rfl; rfl; rfl; rfl; rfl; all_goals intro h; all_goals try (first | exact absurd h (by assumption) | exact absurd (by assumption) h)) | (apply G.cV (g := 77); rfl; rfl; exact fun w' _ => hv w')) <;> (refine go ?_; and_intros <;> (try exact trivial) <;> repeat (first | refine fun (Bk : Nat) => ?_ | intro h)))
    all_goals refine ret1b Tryz.func70 Tryz.results70 ?_
    all_goals rfl
/-- The lengths of a fraction's parts. -/
def fLe (f : Bool × Nat × Nat) (k : Nat) : Prop := (nB f.2.1).length ≤ k ∧ (nB f.2.2).length ≤ k
theorem lowest_holds (f : Bool × Nat × Nat) (w : World) (hl : fLe f 536870912) (hd : f.2.2 ≠ 0) :
    Calls Tryz.prog 74 #[frA f] w fun e w' => e = .returned (qA (rQ (ofF f.1 f.2.1 f.2.2))) ∧ Below w.heap.size w w' := by
  obtain ⟨s, n, d⟩ := f
  obtain ⟨h1, h2⟩ := hl
  dsimp only at h1 h2 hd ⊢
  have hg := fun w' => natGcd_holds (nB n) (nB d) w' h1 h2
  have hg0 : Nat.gcd n d ≠ 0 := fun e => hd (Nat.eq_zero_of_gcd_eq_zero_right e)
  have hgl : (nB (Nat.gcd n d)).length ≤ 536870912 := Nat.le_trans (nB_len_le (Nat.gcd_le_right _ (by omega))) h2
  have hn := fun w' => natDivMod_holds (nB n) (nB (Nat.gcd n d)) w' h1 hgl (by rw [vB_nB]; exact hg0)
  have hdd := fun w' => natDivMod_holds (nB d) (nB (Nat.gcd n d)) w' h2 hgl (by rw [vB_nB]; exact hg0)
  simp only [vB_nB] at hg hn hdd
  rw [rQ_ofF hd]
  refine enterA [(0, frA (s, n, d))] Tryz.func74 Tryz.ntmps74 ?_
  by_cases c1 : n = 0
  · subst c1
    rw [if_pos rfl]
    have c2 : nB 0 = [] := nB_zero
    all_goals (refine go ?_; and_intros <;> (try exact trivial) <;> repeat (first | refine fun (Bk : Nat) => ?_ | intro h))
    repeat' ((first | (apply G.eqlStr; rfl; rfl; rfl; rfl; rfl; all_goals intro h; all_goals try (first | exact absurd h (by assumption) | exact absurd (by assumption) h))) <;> (refine go ?_; and_intros <;> (try exact trivial) <;> repeat (first | refine fun (Bk : Nat) => ?_ | intro h)))
    all_goals refine ret1b Tryz.func74 Tryz.results74 ?_
    all_goals rfl
  · rw [if_neg c1]
    have c2 : nB n ≠ [] := fun e => c1 (nB_nil.1 e)
    all_goals (refine go ?_; and_intros <;> (try exact trivial) <;> repeat (first | refine fun (Bk : Nat) => ?_ | intro h))
    repeat' ((first | (apply G.eqlStr; rfl; rfl; rfl; rfl; rfl; all_goals intro h; all_goals try (first | exact absurd h (by assumption) | exact absurd (by assumption) h)) | (apply G.cV (g := 103); rfl; rfl; exact fun w' _ => hg w') | (apply G.cV (g := 104) (vs := [.string (bs (nB n)), .string (bs (nB (Nat.gcd n d)))]); rfl; rfl; exact fun w' _ => hn w') | (apply G.cV (g := 104) (vs := [.string (bs (nB d)), .string (bs (nB (Nat.gcd n d)))]); rfl; rfl; exact fun w' _ => hdd w')) <;> (refine go ?_; and_intros <;> (try exact trivial) <;> repeat (first | refine fun (Bk : Nat) => ?_ | intro h)))
    all_goals refine ret1b Tryz.func74 Tryz.results74 ?_
    all_goals rfl
end Go.Proofs.YtceaamdomkjmlaaGreatDoor
/-
  Contracts of the rational numbers: plus, less, times, over, do, Add, Sub, Mul, Cmp, Make, Int.
-/
namespace Go.Proofs.YtceaamdomkjmlaaGreatDoor
open Go.RowKit Go.Sl Go.Num
theorem nB_lt_pow {n k : Nat} (h : (nB n).length ≤ k) : n < 256 ^ k := by
  have := vB_lt (nB n)
  rw [vB_nB] at this
  exact Nat.lt_of_lt_of_le this (Nat.pow_le_pow_right (by decide) h)
theorem nB_mul {m n k l : Nat} (h1 : (nB m).length ≤ k) (h2 : (nB n).length ≤ l) : (nB (m * n)).length ≤ k + l := by
  refine nB_bound ?_
  rw [Nat.pow_add]
  exact Nat.mul_lt_mul'' (nB_lt_pow h1) (nB_lt_pow h2)
theorem nB_add {m n k : Nat} (h1 : (nB m).length ≤ k) (h2 : (nB n).length ≤ k) : (nB (m + n)).length ≤ k + 1 := by
  refine nB_bound ?_
  have a1 := nB_lt_pow h1
  have a2 := nB_lt_pow h2
  rw [Nat.pow_succ]
  omega
theorem plus_f (f g : Bool × Nat × Nat) (w : World) (hf : fLe f 134217728) (hg : fLe g 134217728) :
    Calls Tryz.prog 71 #[frA f, frA g] w fun e w' => e = .returned (frA (fplus f.1 f.2.1 f.2.2 g.1 g.2.1 g.2.2)) ∧ Below w.heap.size w w' := by
  obtain ⟨s, n, d⟩ := f
  obtain ⟨t, m, e⟩ := g
  obtain ⟨h1, h2⟩ := hf
  obtain ⟨h3, h4⟩ := hg
  dsimp only at h1 h2 h3 h4 ⊢
  have m1 := fun w' => natMul_holds (nB n) (nB e) w' (by omega) (by omega)
  have m2 := fun w' => natMul_holds (nB m) (nB d) w' (by omega) (by omega)
  have m3 := fun w' => natMul_holds (nB d) (nB e) w' (by omega) (by omega)
  have l1 := nB_mul h1 h4
  have l2 := nB_mul h3 h2
  have ad := fun w' => natAdd_holds (nB (n * e)) (nB (m * d)) w' (by omega) (by omega)
  have cm := fun w' => natCmp_holds (nB (n * e)) (nB (m * d)) w' (by omega) (by omega)
  have s1 := fun (h : n * e ≤ m * d) w' => natSub_holds (nB (m * d)) (nB (n * e)) w' (by omega) (by omega) (by rw [vB_nB, vB_nB]; exact h)
  have s2 := fun (h : m * d ≤ n * e) w' => natSub_holds (nB (n * e)) (nB (m * d)) w' (by omega) (by omega) (by rw [vB_nB, vB_nB]; exact h)
  simp only [vB_nB] at m1 m2 m3 ad cm s1 s2
  rw [fplus]
  refine enterA [(0, frA (s, n, d)), (1, frA (t, m, e))] Tryz.func71 Tryz.ntmps71 ?_
  by_cases hst : s = t
  · subst hst
    rw [if_pos rfl]
    cases s <;> skip
    all_goals clear cm s1 s2
    all_goals (refine go ?_; and_intros <;> (try exact trivial) <;> repeat (first | refine fun (Bk : Nat) => ?_ | intro h))
    repeat' ((first | (apply G.cV (g := 98) (vs := [.string (bs (nB n)), .string (bs (nB e))]); rfl; rfl; exact fun w' _ => m1 w') | (apply G.cV (g := 98) (vs := [.string (bs (nB m)), .string (bs (nB d))]); rfl; rfl; exact fun w' _ => m2 w') | (apply G.cV (g := 98) (vs := [.string (bs (nB d)), .string (bs (nB e))]); rfl; rfl; exact fun w' _ => m3 w') | (apply G.cV (g := 99); rfl; rfl; exact fun w' _ => ad w')) <;> (refine go ?_; and_intros <;> (try exact trivial) <;> repeat (first | refine fun (Bk : Nat) => ?_ | intro h)))
    all_goals refine ret1b Tryz.func71 Tryz.results71 ?_
    all_goals rfl
  rw [if_neg hst]
  have ht : t = !s := by cases s <;> cases t <;> simp_all
  subst ht
  by_cases hlt : n * e < m * d
  · rw [if_pos hlt]
    have s1 := s1 (by omega)
    rw [cmpI_lt (by omega)] at cm
    clear s2 hst
    cases s <;> skip
    all_goals (refine go ?_; and_intros <;> (try exact trivial) <;> repeat (first | refine fun (Bk : Nat) => ?_ | intro h))
    repeat' ((first | (apply G.cV (g := 98) (vs := [.string (bs (nB n)), .string (bs (nB e))]); rfl; rfl; exact fun w' _ => m1 w') | (apply G.cV (g := 98) (vs := [.string (bs (nB m)), .string (bs (nB d))]); rfl; rfl; exact fun w' _ => m2 w') | (apply G.cV (g := 98) (vs := [.string (bs (nB d)), .string (bs (nB e))]); rfl; rfl; exact fun w' _ => m3 w') | (apply G.cV (g := 100); rfl; rfl; exact fun w' _ => cm w') | (apply G.cV (g := 101); rfl; rfl; exact fun w' _ => s1 w')) <;> (refine go ?_; and_intros <;> (try exact trivial) <;> repeat (first | refine fun (Bk : Nat) => ?_ | intro h)))
    all_goals refine ret1b Tryz.func71 Tryz.results71 ?_
    all_goals rfl
  · rw [if_neg hlt]
    have s2 := s2 (by omega)
    have hc0 : 0 ≤ cmpI ((n * e : Nat) : Int) ((m * d : Nat) : Int) := by
      rcases Nat.lt_or_ge (m * d) (n * e) with h | h
      · rw [cmpI_gt (by omega)]; decide
      · rw [show n * e = m * d by omega, cmpI_eq]; decide
    generalize cmpI ((n * e : Nat) : Int) ((m * d : Nat) : Int) = cc at *
    clear s1 hst
    cases s <;> skip
    all_goals (refine go ?_; and_intros <;> (try exact trivial) <;> repeat (first | refine fun (Bk : Nat) => ?_ | intro h))
    repeat' ((first | (apply G.cV (g := 98) (vs := [.string (bs (nB n)), .string (bs (nB e))]); rfl; rfl; exact fun w' _ => m1 w') | (apply G.cV (g := 98) (vs := [.string (bs (nB m)), .string (bs (nB d))]); rfl; rfl; exact fun w' _ => m2 w') | (apply G.cV (g := 98) (vs := [.string (bs (nB d)), .string (bs (nB e))]); rfl; rfl; exact fun w' _ => m3 w') | (apply G.cV (g := 100); rfl; rfl; exact fun w' _ => cm w') | (apply G.cV (g := 101); rfl; rfl; exact fun w' _ => s2 w')) <;> (refine go ?_; and_intros <;> (try exact trivial) <;> repeat (first | refine fun (Bk : Nat) => ?_ | intro h)))
    all_goals refine ret1b Tryz.func71 Tryz.results71 ?_
    all_goals rfl
theorem fplus_le {f g : Bool × Nat × Nat} {k : Nat} (hf : fLe f k) (hg : fLe g k) : fLe (fplus f.1 f.2.1 f.2.2 g.1 g.2.1 g.2.2) (k + k + 1) := by
  obtain ⟨s, n, d⟩ := f
  obtain ⟨t, m, e⟩ := g
  obtain ⟨h1, h2⟩ := hf
  obtain ⟨h3, h4⟩ := hg
  dsimp only at h1 h2 h3 h4
  have l1 := nB_mul h1 h4
  have l2 := nB_mul h3 h2
  have l3 := nB_mul h2 h4
  rw [fplus]
  split
  · exact ⟨nB_add l1 l2, Nat.le_succ_of_le l3⟩
  · split
    · exact ⟨Nat.le_succ_of_le (Nat.le_trans (nB_len_le (Nat.sub_le _ _)) l2), Nat.le_succ_of_le l3⟩
    · exact ⟨Nat.le_succ_of_le (Nat.le_trans (nB_len_le (Nat.sub_le _ _)) l1), Nat.le_succ_of_le l3⟩
theorem less_f (f g : Bool × Nat × Nat) (w : World) (hf : fLe f 134217728) (hg : fLe g 134217728) :
    Calls Tryz.prog 75 #[frA f, frA g] w fun e w' => e = .returned (frA (fplus f.1 f.2.1 f.2.2 (!g.1) g.2.1 g.2.2)) ∧ Below w.heap.size w w' := by
  obtain ⟨t, m, e⟩ := g
  have hp := fun w' => plus_f f (!t, m, e) w' hf hg
  dsimp only at hp ⊢
  generalize fplus f.1 f.2.1 f.2.2 (!t) m e = r at *
  obtain ⟨s, n, d⟩ := f
  refine enterA [(0, frA (s, n, d)), (1, frA (t, m, e))] Tryz.func75 Tryz.ntmps75 ?_
  cases t
  all_goals skip
  all_goals (refine go ?_; and_intros <;> (try exact trivial) <;> repeat (first | refine fun (Bk : Nat) => ?_ | intro h))
  repeat' ((first | (apply G.cV (g := 71); rfl; rfl; exact fun w' _ => hp w')) <;> (refine go ?_; and_intros <;> (try exact trivial) <;> repeat (first | refine fun (Bk : Nat) => ?_ | intro h)))
  all_goals refine ret1b Tryz.func75 Tryz.results75 ?_
  all_goals rfl
def ftimes (f g : Bool × Nat × Nat) : Bool × Nat × Nat := (f.1 != g.1, f.2.1 * g.2.1, f.2.2 * g.2.2)
theorem times_f (f g : Bool × Nat × Nat) (w : World) (hf : fLe f 134217728) (hg : fLe g 134217728) :
    Calls Tryz.prog 79 #[frA f, frA g] w fun e w' => e = .returned (frA (ftimes f g)) ∧ Below w.heap.size w w' := by
  obtain ⟨s, n, d⟩ := f
  obtain ⟨t, m, e⟩ := g
  obtain ⟨h1, h2⟩ := hf
  obtain ⟨h3, h4⟩ := hg
  dsimp only at h1 h2 h3 h4 ⊢
  have m1 := fun w' => natMul_holds (nB n) (nB m) w' (by omega) (by omega)
  have m2 := fun w' => natMul_holds (nB d) (nB e) w' (by omega) (by omega)
  simp only [vB_nB] at m1 m2
  refine enterA [(0, frA (s, n, d)), (1, frA (t, m, e))] Tryz.func79 Tryz.ntmps79 ?_
  all_goals (refine go ?_; and_intros <;> (try exact trivial) <;> repeat (first | refine fun (Bk : Nat) => ?_ | intro h))
  repeat' ((first | (apply G.cV (g := 98) (vs := [.string (bs (nB n)), .string (bs (nB m))]); rfl; rfl; exact fun w' _ => m1 w') | (apply G.cV (g := 98) (vs := [.string (bs (nB d)), .string (bs (nB e))]); rfl; rfl; exact fun w' _ => m2 w')) <;> (refine go ?_; and_intros <;> (try exact trivial) <;> repeat (first | refine fun (Bk : Nat) => ?_ | intro h)))
  all_goals refine ret1b Tryz.func79 Tryz.results79 ?_
  all_goals rfl
theorem over_f (f g : Bool × Nat × Nat) (w : World) (hf : fLe f 134217728) (hg : fLe g 134217728) :
    Calls Tryz.prog 106 #[frA f, frA g] w fun e w' => e = .returned (frA (ftimes f (g.1, g.2.2, g.2.1))) ∧ Below w.heap.size w w' := by
  obtain ⟨t, m, e⟩ := g
  have hp := fun w' => times_f f (t, e, m) w' hf ⟨hg.2, hg.1⟩
  dsimp only at hp ⊢
  generalize ftimes f (t, e, m) = r at *
  obtain ⟨s, n, d⟩ := f
  refine enterA [(0, frA (s, n, d)), (1, frA (t, m, e))] Tryz.func106 Tryz.ntmps106 ?_
  all_goals (refine go ?_; and_intros <;> (try exact trivial) <;> repeat (first | refine fun (Bk : Nat) => ?_ | intro h))
  repeat' ((first | (apply G.cV (g := 79); rfl; rfl; exact fun w' _ => hp w')) <;> (refine go ?_; and_intros <;> (try exact trivial) <;> repeat (first | refine fun (Bk : Nat) => ?_ | intro h)))
  all_goals refine ret1b Tryz.func106 Tryz.results106 ?_
  all_goals rfl
theorem do_holds (g : FuncId) [Fun Tryz.prog g] (F : Value) (b : Q3) (r : Bool × Nat × Nat) (w : World) (h1 : b.num.length ≤ 536870912) (h2 : b.den.length ≤ 536870912) (hop : ∀ w', Calls Tryz.prog g #[F, frA (frac b)] w' fun e w2 => e = .returned (frA r) ∧ Below w'.heap.size w' w2) (hr : fLe r 536870912) (hd : r.2.2 ≠ 0) :
    Calls Tryz.prog 69 #[.func (.func g) #[F] #[], qA b] w fun e w' => e = .returned (qA (rQ (ofF r.1 r.2.1 r.2.2))) ∧ Below w.heap.size w w' := by
  have hof := fun w' => ratOf_holds b w' h1 h2
  have hlo := fun w' => lowest_holds r w' hr hd
  have hop' : ∀ w', Calls Tryz.prog g (#[F] ++ [frA (frac b)].toArray) w' fun e w2 => e = .returned (frA r) ∧ Below w'.heap.size w' w2 := fun w' => by simpa using hop w'
  refine enterA [(0, .func (.func g) #[F] #[]), (1, qA b)] Tryz.func69 Tryz.ntmps69 ?_
  all_goals (refine go ?_; and_intros <;> (try exact trivial) <;> repeat (first | refine fun (Bk : Nat) => ?_ | intro h))
  repeat' ((first | (apply G.cV (g := 70); rfl; rfl; exact fun w' _ => hof w') | (apply G.cVm (g := g) (v := frA r); rfl; rfl; rfl; exact fun w' _ => hop' w') | (apply G.cV (g := 74); rfl; rfl; exact fun w' _ => hlo w')) <;> (refine go ?_; and_intros <;> (try exact trivial) <;> repeat (first | refine fun (Bk : Nat) => ?_ | intro h)))
  all_goals refine ret1b Tryz.func69 Tryz.results69 ?_
  all_goals rfl
theorem frac_le {a : Q3} {k : Nat} (h1 : a.num.length ≤ k) (h2 : a.den.length ≤ k) (hk : 1 ≤ k) : fLe (frac a) k := by
  rw [frac]
  split
  · exact ⟨Nat.le_trans (nB_vB_len _) h1, Nat.le_trans (nB_vB_len _) h2⟩
  · refine ⟨?_, ?_⟩
    · show (nB 0).length ≤ k
      rw [nB_zero]; exact Nat.zero_le _
    · show (nB 1).length ≤ k
      rw [nB_one]; exact hk
theorem ratAdd_holds (a b : Q3) (w : World) (h1 : a.num.length ≤ 134217728) (h2 : a.den.length ≤ 134217728) (h3 : b.num.length ≤ 134217728) (h4 : b.den.length ≤ 134217728) :
    Calls Tryz.prog 36 #[qA a, qA b] w fun e w' => e = .returned (qA (rQ (qR a + qR b))) ∧ Below w.heap.size w w' := by
  have hfa := frac_le h1 h2 (by decide)
  have hfb := frac_le h3 h4 (by decide)
  obtain ⟨e1, d1⟩ := frac_eq a
  obtain ⟨e2, d2⟩ := frac_eq b
  obtain ⟨e3, d3⟩ := fplus_eq (s := (frac a).1) (t := (frac b).1) (n := (frac a).2.1) (m := (frac b).2.1) d1 d2
  have hle := fplus_le hfa hfb
  have hof := fun w' => ratOf_holds a w' (by omega) (by omega)
  have hdo := fun w' => do_holds 71 (frA (frac a)) b _ w' (by omega) (by omega) (fun w2 => plus_f (frac a) (frac b) w2 hfa hfb) ⟨Nat.le_trans hle.1 (by decide), Nat.le_trans hle.2 (by decide)⟩ d3
  rw [e3, e1, e2] at hdo
  refine enterA [(0, qA a), (1, qA b)] Tryz.func36 Tryz.ntmps36 ?_
  all_goals (refine go ?_; and_intros <;> (try exact trivial) <;> repeat (first | refine fun (Bk : Nat) => ?_ | intro h))
  repeat' ((first | (apply G.cV (g := 70); rfl; rfl; exact fun w' _ => hof w') | (apply G.cV (g := 69); rfl; rfl; exact fun w' _ => hdo w')) <;> (refine go ?_; and_intros <;> (try exact trivial) <;> repeat (first | refine fun (Bk : Nat) => ?_ | intro h)))
  all_goals refine ret1b Tryz.func36 Tryz.results36 ?_
  all_goals rfl
theorem ratSub_holds (a b : Q3) (w : World) (h1 : a.num.length ≤ 134217728) (h2 : a.den.length ≤ 134217728) (h3 : b.num.length ≤ 134217728) (h4 : b.den.length ≤ 134217728) :
    Calls Tryz.prog 43 #[qA a, qA b] w fun e w' => e = .returned (qA (rQ (qR a - qR b))) ∧ Below w.heap.size w w' := by
  have hfa := frac_le h1 h2 (by decide)
  have hfb := frac_le h3 h4 (by decide)
  obtain ⟨e1, d1⟩ := frac_eq a
  obtain ⟨e2, d2⟩ := frac_eq b
  obtain ⟨e3, d3⟩ := fplus_eq (s := (frac a).1) (t := !(frac b).1) (n := (frac a).2.1) (m := (frac b).2.1) d1 d2
  have hle := fplus_le (g := (!(frac b).1, (frac b).2.1, (frac b).2.2)) hfa hfb
  have hof := fun w' => ratOf_holds a w' (by omega) (by omega)
  have hdo := fun w' => do_holds 75 (frA (frac a)) b _ w' (by omega) (by omega) (fun w2 => less_f (frac a) (frac b) w2 hfa hfb) ⟨Nat.le_trans hle.1 (by decide), Nat.le_trans hle.2 (by decide)⟩ d3
  rw [e3, e1, ← ofF_neg, e2, ← Rat.sub_eq_add_neg] at hdo
  refine enterA [(0, qA a), (1, qA b)] Tryz.func43 Tryz.ntmps43 ?_
  all_goals (refine go ?_; and_intros <;> (try exact trivial) <;> repeat (first | refine fun (Bk : Nat) => ?_ | intro h))
  repeat' ((first | (apply G.cV (g := 70); rfl; rfl; exact fun w' _ => hof w') | (apply G.cV (g := 69); rfl; rfl; exact fun w' _ => hdo w')) <;> (refine go ?_; and_intros <;> (try exact trivial) <;> repeat (first | refine fun (Bk : Nat) => ?_ | intro h)))
  all_goals refine ret1b Tryz.func43 Tryz.results43 ?_
  all_goals rfl
theorem ftimes_le {f g : Bool × Nat × Nat} {k l : Nat} (hf : fLe f k) (hg : fLe g l) : fLe (ftimes f g) (k + l) := ⟨nB_mul hf.1 hg.1, nB_mul hf.2 hg.2⟩
theorem ratMul_holds (a b : Q3) (w : World) (h1 : a.num.length ≤ 134217728) (h2 : a.den.length ≤ 134217728) (h3 : b.num.length ≤ 134217728) (h4 : b.den.length ≤ 134217728) :
    Calls Tryz.prog 44 #[qA a, qA b] w fun e w' => e = .returned (qA (rQ (qR a * qR b))) ∧ Below w.heap.size w w' := by
  have hfa := frac_le h1 h2 (by decide)
  have hfb := frac_le h3 h4 (by decide)
  obtain ⟨e1, d1⟩ := frac_eq a
  obtain ⟨e2, d2⟩ := frac_eq b
  have hle := ftimes_le hfa hfb
  have hof := fun w' => ratOf_holds a w' (by omega) (by omega)
  have hdo := fun w' => do_holds 79 (frA (frac a)) b _ w' (by omega) (by omega) (fun w2 => times_f (frac a) (frac b) w2 hfa hfb) ⟨Nat.le_trans hle.1 (by decide), Nat.le_trans hle.2 (by decide)⟩ (Nat.mul_ne_zero d1 d2)
  have e3 : ofF (ftimes (frac a) (frac b)).1 (ftimes (frac a) (frac b)).2.1 (ftimes (frac a) (frac b)).2.2 = qR a * qR b := by
    rw [← e1, ← e2, ofF_times]; rfl
  rw [e3] at hdo
  refine enterA [(0, qA a), (1, qA b)] Tryz.func44 Tryz.ntmps44 ?_
  all_goals (refine go ?_; and_intros <;> (try exact trivial) <;> repeat (first | refine fun (Bk : Nat) => ?_ | intro h))
  repeat' ((first | (apply G.cV (g := 70); rfl; rfl; exact fun w' _ => hof w') | (apply G.cV (g := 69); rfl; rfl; exact fun w' _ => hdo w')) <;> (refine go ?_; and_intros <;> (try exact trivial) <;> repeat (first | refine fun (Bk : Nat) => ?_ | intro h)))
  all_goals refine ret1b Tryz.func44 Tryz.results44 ?_
  all_goals rfl
end Go.Proofs.YtceaamdomkjmlaaGreatDoor
/-
  Contracts of the rational numbers: Cmp, inside, integer, Make, Int.
-/
namespace Go.Proofs.YtceaamdomkjmlaaGreatDoor
open Go.RowKit Go.Sl Go.Num
def insideB (n : Int) : Bool := decide (-999999999999999 ≤ n) && decide (n ≤ 999999999999999)
theorem inside_holds (n : Int) (w : World) : Calls Tryz.prog 72 #[.int .i64 n] w fun e w' => e = .returned (.bool (insideB n)) ∧ Below w.heap.size w w' := by
  refine enterA [(0, .int .i64 n)] Tryz.func72 Tryz.ntmps72 ?_
  all_goals (refine go ?_; and_intros <;> (try exact trivial) <;> repeat (first | refine fun (Bk : Nat) => ?_ | intro h))
  all_goals refine ret1b Tryz.func72 Tryz.results72 ?_
  all_goals exact ret_bool (by rw [insideB]; first | (rw [decide_eq_true (by omega), decide_eq_true (by omega)]; rfl) | (rw [decide_eq_false (by omega)]; rfl) | (rw [decide_eq_true (by omega), decide_eq_false (by omega)]; rfl))
theorem insideB_true {n : Int} (h1 : -999999999999999 ≤ n) (h2 : n ≤ 999999999999999) : insideB n = true := by rw [insideB, decide_eq_true h1, decide_eq_true h2]; rfl
theorem integer_holds (n : Int) (w : World) (h1 : -999999999999999 ≤ n) (h2 : n ≤ 999999999999999) :
    Calls Tryz.prog 73 #[.int .i64 n] w fun e w' => e = .returned (frA (decide (n < 0), n.natAbs, 1)) ∧ Below w.heap.size w w' := by
  have hm : max n (-n) = ((n.natAbs : Nat) : Int) := by omega
  have hi := fun w' => natInt_holds n.natAbs w' (by omega)
  have hf : frA (decide (n < 0), n.natAbs, 1) = .agg #[.bool (decide (n < 0)), .string (bs (nB n.natAbs)), .string (bs [1])] := by simp only [frA, nB_one]
  rw [hf]
  generalize n.natAbs = m at *
  refine enterA [(0, .int .i64 n)] Tryz.func73 Tryz.ntmps73 ?_
  repeat' (first | (apply G.mxE; rfl; rfl; exact hm; rfl) | (apply G.cV (g := 102); rfl; rfl; exact fun w' _ => hi w') | (apply G.pu; rfl; rfl; first | exact trivial | omega) | (apply J.ct; rfl) | (apply G.nil; rfl) | (apply G.cm; rfl; rfl; all_goals intro h; all_goals try (exfalso; omega)) | (apply G.fa; rfl; rfl) | (apply G.ld; rfl; (first | (apply LdV.one; (first | exact CellV.row0 (by assumption) rfl | exact CellV.rowS (by assumption) rfl | exact CellV.rowSS (by assumption) rfl | (apply CellV.blk; exact mm; rfl))) | (apply LdV.aggBlk; exact mm; rfl) | (apply LdV.part; exact mm; rfl; rfl) | (apply LdV.aggRow; assumption; rfl) | (apply LdV.partRow; assumption; rfl; rfl)); rfl) | (apply G.sk; rfl) | (apply G.ls; rfl; rfl) | (apply G.ix; rfl; rfl; rfl; omega; rfl) | (apply G.ix; rfl; rfl; (first | exact sub_one _ | exact add_one' _); omega; rfl) | (apply G.lt; rfl; rfl) | (apply G.bu; rfl; rfl; rfl) | (apply G.fd; rfl; rfl; rfl) | (apply G.cv; rfl; rfl; rfl; omega) | (apply G.beq; rfl; rfl; rfl) | (apply G.bne; rfl; rfl; rfl) | (apply G.mm; rfl; rfl) | (apply G.mf; rfl; rfl) | (apply G.mx; rfl; rfl; rfl) | (apply G.mn; rfl; rfl; rfl) | (apply G.bx; rfl; rfl; rfl; intro Bk) | (apply G.al; rfl; intro Bk) | (apply G.so; rfl; rfl; (repeat (first | exact RAt.head | apply RAt.tail)); rfl; rfl) | (apply G.ss; rfl; rfl; (repeat (first | exact RAt.head | apply RAt.tail)); rfl; rfl) | (apply J.regQ; exact Tryz.mixed; decide +kernel) | (apply J.regL; exact Tryz.mixed; decide +kernel) | apply J.reg)
  all_goals refine ret1b Tryz.func73 Tryz.results73 ?_
  all_goals (first | (rw [decide_eq_true (by omega)]; rfl) | (rw [decide_eq_false (by omega)]; rfl))
theorem ofF_int (n : Int) : ofF (decide (n < 0)) n.natAbs 1 = (n : Rat) := by
  rw [ofF, sg_self, ← Rat.mkRat_one]
theorem ofF_self {n : Nat} (h : n ≠ 0) : ofF false n n = 1 := by
  have : ofF false n n = ofF false 1 1 := by
    rw [ofF, ofF]
    exact (Rat.mkRat_eq_iff h (by decide)).2 (by simp [sg, Int.mul_comm])
  rw [this]; rfl
theorem ofF_div (m n : Int) (h : n ≠ 0) : ofF (ftimes (decide (m < 0), m.natAbs, 1) (decide (n < 0), 1, n.natAbs)).1 (ftimes (decide (m < 0), m.natAbs, 1) (decide (n < 0), 1, n.natAbs)).2.1 (ftimes (decide (m < 0), m.natAbs, 1) (decide (n < 0), 1, n.natAbs)).2.2 = (m : Rat) / (n : Rat) := by
  have e1 : ofF (ftimes (decide (m < 0), m.natAbs, 1) (decide (n < 0), 1, n.natAbs)).1 (ftimes (decide (m < 0), m.natAbs, 1) (decide (n < 0), 1, n.natAbs)).2.1 (ftimes (decide (m < 0), m.natAbs, 1) (decide (n < 0), 1, n.natAbs)).2.2 = ofF (decide (m < 0)) m.natAbs 1 * ofF (decide (n < 0)) 1 n.natAbs := by rw [ofF_times]; rfl
  have e2 : ofF (decide (n < 0)) 1 n.natAbs * ofF (decide (n < 0)) n.natAbs 1 = 1 := by
    rw [ofF_times, bne_self_eq_false, Nat.one_mul, Nat.mul_one]
    exact ofF_self (by omega)
  rw [e1, ofF_int]
  rw [ofF_int] at e2
  have hn : (n : Rat) ≠ 0 := by exact_mod_cast h
  grind
theorem int_le {n : Int} (h1 : -999999999999999 ≤ n) (h2 : n ≤ 999999999999999) : (nB n.natAbs).length ≤ 8 := nB_bound (by omega)
theorem nB1_le : (nB 1).length ≤ 8 := by rw [nB_one]; decide
theorem make_holds (m n : Int) (w : World) (h1 : -999999999999999 ≤ m) (h2 : m ≤ 999999999999999) (h3 : -999999999999999 ≤ n) (h4 : n ≤ 999999999999999) (h0 : n ≠ 0) :
    Calls Tryz.prog 80 #[.int .i64 m, .int .i64 n] w fun e w' => e = .returned (.tuple #[qA (rQ ((m : Rat) / (n : Rat))), .int .i64 0]) ∧ Below w.heap.size w w' := by
  have i1 := fun w' => integer_holds m w' h1 h2
  have i2 := fun w' => integer_holds n w' h3 h4
  have b1 := fun w' => inside_holds m w'
  have b2 := fun w' => inside_holds n w'
  rw [insideB_true h1 h2] at b1
  rw [insideB_true h3 h4] at b2
  have l1 : fLe (decide (m < 0), m.natAbs, 1) 8 := ⟨int_le h1 h2, nB1_le⟩
  have l2 : fLe (decide (n < 0), n.natAbs, 1) 8 := ⟨int_le h3 h4, nB1_le⟩
  have ov := fun w' => over_f (decide (m < 0), m.natAbs, 1) (decide (n < 0), n.natAbs, 1) w' ⟨Nat.le_trans l1.1 (by decide), Nat.le_trans l1.2 (by decide)⟩ ⟨Nat.le_trans l2.1 (by decide), Nat.le_trans l2.2 (by decide)⟩
  have l3 := ftimes_le l1 (show fLe (decide (n < 0), 1, n.natAbs) 8 from ⟨l2.2, l2.1⟩)
  have lo := fun w' => lowest_holds (ftimes (decide (m < 0), m.natAbs, 1) (decide (n < 0), 1, n.natAbs)) w' ⟨Nat.le_trans l3.1 (by decide), Nat.le_trans l3.2 (by decide)⟩ (Nat.mul_ne_zero (show (1 : Nat) ≠ 0 by decide) (by dsimp only; omega))
  rw [ofF_div m n h0] at lo
  dsimp only at ov
  generalize ftimes (decide (m < 0), m.natAbs, 1) (decide (n < 0), 1, n.natAbs) = r at *
  generalize frA (decide (m < 0), m.natAbs, 1) = f1 at *
  generalize frA (decide (n < 0), n.natAbs, 1) = f2 at *
  refine enterA [(0, .int .i64 m), (1, .int .i64 n)] Tryz.func80 Tryz.ntmps80 ?_
  all_goals (refine go ?_; and_intros <;> (try exact trivial) <;> repeat (first | refine fun (Bk : Nat) => ?_ | intro h))
  repeat' ((first | (apply G.cV (g := 72) (vs := [.int .i64 m]); rfl; rfl; exact fun w' _ => b1 w') | (apply G.cV (g := 72) (vs := [.int .i64 n]); rfl; rfl; exact fun w' _ => b2 w') | (apply G.cV (g := 73) (vs := [.int .i64 m]); rfl; rfl; exact fun w' _ => i1 w') | (apply G.cV (g := 73) (vs := [.int .i64 n]); rfl; rfl; exact fun w' _ => i2 w') | (apply G.cV (g := 106); rfl; rfl; exact fun w' _ => ov w') | (apply G.cV (g := 74); rfl; rfl; exact fun w' _ => lo w')) <;> (refine go ?_; and_intros <;> (try exact trivial) <;> repeat (first | refine fun (Bk : Nat) => ?_ | intro h)))
  all_goals refine ret2b Tryz.func80 Tryz.results80 ?_
  all_goals rfl
end Go.Proofs.YtceaamdomkjmlaaGreatDoor
/-
  Contracts of the specification of rational numbers: Valid, clean, lowest, parts, Neg, Add, Sub, Mul, Cmp.
-/
namespace Go.Proofs.YtceaamdomkjmlaaGreatDoor
open Go.RowKit Go.Sl Go.Num
theorem clean_q (a : Q3) : rQ (qR a) = if validQ a then a else zero3 := by
  by_cases h : validQ a
  · rw [if_pos h, rQ_qR h]
  · rw [if_neg h, qR, if_neg h]; rfl
end Go.Proofs.YtceaamdomkjmlaaGreatDoor
/-
  Contracts of the specification of rational numbers: Neg, Add, Sub, Mul, Cmp, Make, Int.
-/
namespace Go.Proofs.YtceaamdomkjmlaaGreatDoor
open Go.RowKit Go.Sl Go.Num
theorem rQ_neg (q : Rat) : rQ (-q) = if (rQ q).num = [] then rQ q else ⟨!(rQ q).neg, (rQ q).num, (rQ q).den⟩ := by
  by_cases h : q.num = 0
  · have hq : q = 0 := Rat.num_eq_zero.1 h
    subst hq
    rfl
  · have h1 : (rQ q).num ≠ [] := by
      rw [rQ, if_neg h]
      exact fun e => h (Int.natAbs_eq_zero.1 (nB_nil.1 e))
    rw [if_neg h1, rQ, rQ, if_neg h, if_neg (by rw [Rat.neg_num]; omega)]
    simp only [Rat.neg_num, Rat.neg_den, Int.natAbs_neg]
    congr 1
    by_cases h2 : q.num < 0
    · rw [decide_eq_true h2, decide_eq_false (by omega)]; rfl
    · rw [decide_eq_false h2, decide_eq_true (by omega)]; rfl
end Go.Proofs.YtceaamdomkjmlaaGreatDoor
/-
  Sizes of numbers, lists of integers, slices in memory: what all chapters share.
-/
namespace Go.Proofs.YtceaamdomkjmlaaGreatDoor
open Go.RowKit Go.Sl Go.Num
def fewQ (k : Nat) (a : Q3) : Prop := a.num.length ≤ k ∧ a.den.length ≤ k
theorem fewQ_le {a : Q3} {j k : Nat} (h : fewQ j a) (hk : j ≤ k) : fewQ k a := ⟨Nat.le_trans h.1 hk, Nat.le_trans h.2 hk⟩
theorem SlAt.all {w : World} {a : Option Addr} {sz : Nat} {A : Type} {f : A → List Value} {l : List A} (h : SlAt w a sz (l.map f)) (h0 : 0 < l.length) : ∃ b off, a = some ⟨b, off, none⟩ ∧ ∀ i (hi : i < l.length), RowAt w b (off + i * sz) (f l[i]) := by
  obtain ⟨b, off, h1, h2⟩ := h (by simpa using h0)
  exact ⟨b, off, h1, fun i hi => h2 i _ (by simp [hi])⟩
theorem fewQ_ofF {s : Bool} {n d k : Nat} (hd : d ≠ 0) (h1 : (nB n).length ≤ k) (h2 : (nB d).length ≤ k) : fewQ k (rQ (ofF s n d)) := by
  rw [rQ_ofF hd]
  split
  · exact ⟨Nat.zero_le _, Nat.zero_le _⟩
  · exact ⟨Nat.le_trans (nB_len_le (Nat.div_le_self _ _)) h1, Nat.le_trans (nB_len_le (Nat.div_le_self _ _)) h2⟩
theorem fplus_le2 {f g : Bool × Nat × Nat} {i j : Nat} (hf : fLe f i) (hg : fLe g j) : fLe (fplus f.1 f.2.1 f.2.2 g.1 g.2.1 g.2.2) (i + j + 1) := by
  obtain ⟨s, n, d⟩ := f
  obtain ⟨t, m, e⟩ := g
  obtain ⟨h1, h2⟩ := hf
  obtain ⟨h3, h4⟩ := hg
  dsimp only at h1 h2 h3 h4
  have l1 := nB_mul h1 h4
  have l2 := nB_mul h3 h2
  rw [Nat.add_comm j i] at l2
  have l3 := nB_mul h2 h4
  have l4 := nB_add l1 l2
  rw [fplus]
  split
  · exact ⟨l4, by dsimp only; omega⟩
  · split
    · exact ⟨Nat.le_trans (nB_len_le (Nat.sub_le _ _)) (Nat.le_trans l2 (by omega)), by dsimp only; omega⟩
    · exact ⟨Nat.le_trans (nB_len_le (Nat.sub_le _ _)) (Nat.le_trans l1 (by omega)), by dsimp only; omega⟩
theorem fewQ_add {x y : Rat} {i j : Nat} (hx : fewQ i (rQ x)) (hy : fewQ j (rQ y)) (hi : 1 ≤ i) (hj : 1 ≤ j) : fewQ (i + j + 1) (rQ (x + y)) := by
  obtain ⟨e1, d1⟩ := frac_eq (rQ x)
  obtain ⟨e2, d2⟩ := frac_eq (rQ y)
  obtain ⟨e3, d3⟩ := fplus_eq (s := (frac (rQ x)).1) (t := (frac (rQ y)).1) (n := (frac (rQ x)).2.1) (m := (frac (rQ y)).2.1) d1 d2
  rw [e1, e2, qR_rQ, qR_rQ] at e3
  rw [← e3]
  have := fplus_le2 (frac_le hx.1 hx.2 hi) (frac_le hy.1 hy.2 hj)
  exact fewQ_ofF d3 this.1 this.2
theorem fewQ_neg {x : Rat} {i : Nat} (hx : fewQ i (rQ x)) : fewQ i (rQ (-x)) := by
  rw [rQ_neg]; split <;> exact hx
theorem fewQ_sub {x y : Rat} {i j : Nat} (hx : fewQ i (rQ x)) (hy : fewQ j (rQ y)) (hi : 1 ≤ i) (hj : 1 ≤ j) : fewQ (i + j + 1) (rQ (x - y)) := by
  rw [Rat.sub_eq_add_neg]; exact fewQ_add hx (fewQ_neg hy) hi hj
theorem fewQ_mul {x y : Rat} {i j : Nat} (hx : fewQ i (rQ x)) (hy : fewQ j (rQ y)) (hi : 1 ≤ i) (hj : 1 ≤ j) : fewQ (i + j) (rQ (x * y)) := by
  obtain ⟨e1, d1⟩ := frac_eq (rQ x)
  obtain ⟨e2, d2⟩ := frac_eq (rQ y)
  rw [qR_rQ] at e1 e2
  have e3 : ofF (ftimes (frac (rQ x)) (frac (rQ y))).1 (ftimes (frac (rQ x)) (frac (rQ y))).2.1 (ftimes (frac (rQ x)) (frac (rQ y))).2.2 = x * y := by
    rw [← e1, ← e2, ofF_times, e1, e2]; rfl
  rw [← e3]
  have := ftimes_le (frac_le hx.1 hx.2 hi) (frac_le hy.1 hy.2 hj)
  exact fewQ_ofF (Nat.mul_ne_zero d1 d2) this.1 this.2
theorem fewQ_div {m n : Int} (h1 : -999999999999999 ≤ m) (h2 : m ≤ 999999999999999) (h3 : -999999999999999 ≤ n) (h4 : n ≤ 999999999999999) (h0 : n ≠ 0) : fewQ 16 (rQ ((m : Rat) / (n : Rat))) := by
  rw [← ofF_div m n h0]
  have l3 := ftimes_le (f := (decide (m < 0), m.natAbs, 1)) (g := (decide (n < 0), 1, n.natAbs)) ⟨int_le h1 h2, nB1_le⟩ ⟨nB1_le, int_le h3 h4⟩
  exact fewQ_ofF (Nat.mul_ne_zero (show (1 : Nat) ≠ 0 by decide) (by dsimp only; omega)) l3.1 l3.2
theorem fewQ_zero {k : Nat} : fewQ k (rQ 0) := ⟨Nat.zero_le _, Nat.zero_le _⟩
def isV (s : Int) : List Value := [.int .i64 s]
theorem isV_len (s : Int) : (isV s).length = 1 := rfl
theorem is_set {p : List Int} {j : Nat} {v : Int} (h : j < p.length) : setL (flat isV p) (0 + j * 1) [.int .i64 v] = flat isV (p.set j v) := flat_set1 isV_len h rfl
theorem is_get : ∀ {p : List Int} {j : Nat} (h : j < p.length), (flat isV p)[0 + j * 1]? = some (.int .i64 p[j])
  | x :: p, 0, _ => rfl
  | x :: p, j + 1, h => by
    have := is_get (p := p) (j := j) (by simpa using h)
    rw [Nat.zero_add, Nat.mul_one] at this ⊢
    rw [flat_cons]
    simpa [isV] using this
theorem isLen (l : List Int) : (flat isV l).length = l.length := by rw [flat_len isV_len, Nat.mul_one]
theorem getD_eq {S : List Int} {x : Nat} (h : x < S.length) : S.getD x 0 = S[x] := by rw [List.getD_eq_getElem?_getD, List.getElem?_eq_getElem h]; rfl
theorem get_sw {S : List Int} {b i : Nat} (h : b + i < S.length) : (flat isV S)[b + i * 1]? = some (.int .i64 (S.getD (b + i) 0)) := by rw [getD_eq h, show b + i * 1 = 0 + (b + i) * 1 by omega]; exact is_get h
theorem set_sw {S : List Int} {b i : Nat} {v : Int} (h : b + i < S.length) : setL (flat isV S) (b + i * 1) [.int .i64 v] = flat isV (S.set (b + i) v) := by rw [show b + i * 1 = 0 + (b + i) * 1 by omega]; exact is_set h
theorem nil_or_snoc {A : Type} (l : List A) : l = [] ∨ ∃ o p, l = o ++ [p] := by
  rcases List.eq_nil_or_concat l with rfl | ⟨o, p, rfl⟩
  · exact .inl rfl
  · exact .inr ⟨o, p, List.concat_eq_append⟩
theorem blkSlA {w0 w : World} {M : List Row} {A : Type} {f : A → List Value} {sz b tot : Nat} {e : TypeId} {l : List A} (hw : Sat w0 M w) (hf : ∀ x, (f x).length = sz) (hm : Row.blk b e (flat f l) tot ∈ M := by (repeat (first | exact List.Mem.head _ | apply List.Mem.tail))) : SlAt w (some ⟨b, 0, none⟩) sz (l.map f) ∧ w0.heap.size ≤ b := ⟨SlAt.ofBlk hf hw hm, ((hw.old _ hm).2 _ rfl).1⟩
end Go.Proofs.YtceaamdomkjmlaaGreatDoor
/-
  Lists in which two elements change places; the order that insertion brings about.
-/
namespace Go.Proofs.YtceaamdomkjmlaaGreatDoor
open Go.RowKit Go.Sl Go.Num
theorem swap_perm (l : List Int) (i j : Nat) (hi : i < l.length) (hj : j < l.length) : ((l.set i l[j]).set j l[i]).Perm l := by
  have h := Array.swap_perm (xs := l.toArray) (i := i) (j := j) (by simpa using hi) (by simpa using hj)
  have h2 := h.toList
  simpa using h2
def swp (S : List Int) (x y : Nat) : List Int := (S.set x (S.getD y 0)).set y (S.getD x 0)
theorem swp_len (S : List Int) (x y : Nat) : (swp S x y).length = S.length := by rw [swp, List.length_set, List.length_set]
theorem swp_eq {S : List Int} {x y : Nat} (hx : x < S.length) (hy : y < S.length) : swp S x y = (S.set x S[y]).set y S[x] := by rw [swp, getD_eq hx, getD_eq hy]
theorem swp_fst {S : List Int} {x y : Nat} (hx : x < S.length) (hy : y < S.length) : (swp S x y).getD x 0 = S.getD y 0 := by
  rw [getD_eq (by rw [swp_len]; exact hx), getD_eq hy]
  simp only [swp_eq hx hy, List.getElem_set]
  split
  · rename_i h; subst h; rfl
  · rfl
theorem swp_snd {S : List Int} {x y : Nat} (hx : x < S.length) (hy : y < S.length) : (swp S x y).getD y 0 = S.getD x 0 := by
  rw [getD_eq (by rw [swp_len]; exact hy), getD_eq hx]
  simp only [swp_eq hx hy, List.getElem_set_self]
theorem swp_oth {S : List Int} {x y z : Nat} (hx : x < S.length) (hy : y < S.length) (h1 : z ≠ x) (h2 : z ≠ y) : (swp S x y).getD z 0 = S.getD z 0 := by
  rw [swp_eq hx hy, List.getD_eq_getElem?_getD, List.getElem?_set_ne (by omega), List.getElem?_set_ne (by omega), List.getD_eq_getElem?_getD]
theorem swp_perm {S : List Int} {x y : Nat} (hx : x < S.length) (hy : y < S.length) : (swp S x y).Perm S := by
  rw [swp_eq hx hy]; exact swap_perm S x y hx hy
end Go.Proofs.YtceaamdomkjmlaaGreatDoor
/-
  Maps from integers to integers.
-/
namespace Go.Proofs.YtceaamdomkjmlaaGreatDoor
open Go.RowKit Go.Sl Go.Num
instance : TMap Tryz.prog 72 3 3 (.int .i64 0) := ⟨by kernel_rfl, fun w => Tryz.zeroValue3 w⟩
instance tkI : TKey Tryz.prog 3 (Value.int .i64) := TKey.int (by kernel_rfl)
def iv (p : Int × Int) : Int × Value := (p.1, .int .i64 p.2)
def bump (x : Int) : List (Int × Int) → List (Int × Int)
  | [] => [(x, 1)]
  | (y, n) :: r => if x = y then (x, n + 1) :: r else (y, n) :: bump x r
def cnt (x : Int) : List (Int × Int) → Int
  | [] => 0
  | (y, n) :: r => if x = y then n else cnt x r
theorem get_iv (x : Int) : ∀ L : List (Int × Int), (getM x (L.map iv)).getD (.int .i64 0) = .int .i64 (cnt x L)
  | [] => rfl
  | (y, n) :: r => by
    rw [List.map_cons, iv, getM, cnt]
    split
    · rfl
    · exact get_iv x r
/-- A count is set. -/
def setC (x n : Int) : List (Int × Int) → List (Int × Int)
  | [] => [(x, n)]
  | (y, m) :: r => if x = y then (x, n) :: r else (y, m) :: setC x n r
theorem put_setC (x n : Int) : ∀ L : List (Int × Int), putM x (.int .i64 n) (L.map iv) = (setC x n L).map iv
  | [] => rfl
  | (y, m) :: r => by
    rw [List.map_cons, iv, putM, setC]
    split
    · rfl
    · rw [put_setC x n r]; rfl
theorem cnt_setC (x y n : Int) : ∀ L : List (Int × Int), cnt x (setC y n L) = if x = y then n else cnt x L
  | [] => rfl
  | (z, m) :: r => by
    rw [setC]
    by_cases h : y = z
    · subst h
      rw [if_pos rfl, cnt, cnt]
      by_cases h2 : x = y
      · rw [if_pos h2, if_pos h2]
      · rw [if_neg h2, if_neg h2, if_neg h2]
    · rw [if_neg h, cnt, cnt, cnt_setC x y n r]
      by_cases h2 : x = z
      · rw [if_pos h2, if_pos h2, if_neg (by omega)]
      · rw [if_neg h2, if_neg h2]
end Go.Proofs.YtceaamdomkjmlaaGreatDoor
/-
  How arguments read: what all chapters share.
-/
namespace Go.Proofs.YtceaamdomkjmlaaGreatDoor
open Go.RowKit Go.Sl Go.Num Go.ChangeShapes Go.WideShapes
theorem own : ownKnob Tryz.prog.godebug = none := by kernel_rfl
theorem laidOut : laidOutB Tryz.prog = true := by kernel_rfl
theorem rInt : Reads Tryz.prog 3 isV (fun _ _ => True) := (Reads.int Tryz.underlying3).mono fun _ _ _ => trivial
theorem rStr : Reads Tryz.prog 9 (fun l : List UInt8 => [.string (bs l)]) (fun _ _ => True) := (Reads.string Tryz.underlying9).turn fun _ s _ => ⟨s.data.toList, by rw [bs_of], trivial⟩
theorem rBool : Reads Tryz.prog 4 (fun b : Bool => [.bool b]) (fun _ _ => True) := Reads.bool Tryz.underlying4
theorem rRat : Reads Tryz.prog 78 (fun a : Q3 => [.bool a.neg, .string (bs a.num), .string (bs a.den)]) (fun _ _ => True) := (Reads.struct3 (n := 3) Tryz.underlying78 (by kernel_rfl) (by kernel_rfl) rBool rStr rStr).turn fun _ a _ => ⟨⟨a.1, a.2.1, a.2.2⟩, rfl, trivial⟩
theorem rInts : Reads Tryz.prog 29 (fun s : Sld Int => [s.v]) (fun w s => SlAt w s.ad 1 (s.l.map isV) ∧ s.l.length ≤ s.cap) := (Reads.slice (sz := 1) Tryz.underlying29 (by kernel_rfl) (by decide) rInt).mono fun _ _ h => ⟨h.1, h.2.1⟩
theorem rTicks : Reads Tryz.prog 25 (fun a : Int × Int => [.int .i64 a.1, .int .i64 a.2]) (fun _ _ => True) := (Reads.struct2 (n := 2) Tryz.underlying25 (by kernel_rfl) (by kernel_rfl) rInt rInt).turn fun _ a _ => ⟨a, rfl, trivial⟩
abbrev laidL : List (String × DataW Unit) := [("unicode/utf8.acceptRanges", Rows.laid_unicode_utf8_acceptRanges), ("unicode/utf8.first", Rows.laid_unicode_utf8_first)]
theorem rU8 : Reads Tryz.prog 5 (fun n : Nat => [.int .u8 n]) (fun _ n => n ≤ 255) := (Reads.int Tryz.underlying5).turn fun _ n h => by
  have h2 : 0 ≤ n ∧ n ≤ 255 := by rw [Lit.wf, Bool.and_eq_true, decide_eq_true_eq, decide_eq_true_eq] at h; exact h
  exact ⟨n.toNat, by rw [Int.toNat_of_nonneg h2.1], by omega⟩
theorem rRats : Reads Tryz.prog 86 (fun s : Sld Q3 => [s.v]) (fun w s => SlAt w s.ad 3 (s.l.map fun a => [.bool a.neg, .string (bs a.num), .string (bs a.den)])) := (Reads.slice (sz := 3) Tryz.underlying86 (by kernel_rfl) (by decide) rRat).mono fun _ _ h => h.1
end Go.Proofs.YtceaamdomkjmlaaGreatDoor
/-
  Plain laws of kernels: totals, reduced lists, products.
-/
namespace Go.Proofs.YtceaamdomkjmlaaGreatDoor
open Go.Num
/-! ### totals -/
def sumL : List Int → Int
  | [] => 0
  | x :: r => x + sumL r
def badW (w : Int) : Bool := decide (w < 0) || decide (999999999999999 < w)
/-- The error of a kernel. -/
def kerErr (k : List Int) : Int := if k.length < 1 ∨ 400 < k.length then 2 else if k.any badW = true then 3 else if 999999999999999 < sumL k then 3 else if sumL k = 0 then 1 else 0
structure Ker (k : List Int) : Prop where
  len : 1 ≤ k.length ∧ k.length ≤ 400
  nn : ∀ w ∈ k, 0 ≤ w ∧ w ≤ 999999999999999
  sum : 0 < sumL k ∧ sumL k ≤ 999999999999999
theorem sumL_nn : ∀ {k : List Int}, (∀ w ∈ k, 0 ≤ w) → 0 ≤ sumL k
  | [], _ => Int.le_refl _
  | x :: r, h => by
    have := sumL_nn fun w hw => h w (List.mem_cons_of_mem x hw)
    have := h x (List.mem_cons_self ..)
    rw [sumL]; omega
theorem ker_of {k : List Int} (h : kerErr k = 0) : Ker k := by
  rw [kerErr] at h
  split at h
  · cases h
  · split at h
    · cases h
    · rename_i h1 h2
      have h3 : ∀ w ∈ k, 0 ≤ w ∧ w ≤ 999999999999999 := fun w hw => by
        rw [Bool.not_eq_true] at h2
        have := List.any_eq_false.1 h2 w hw
        rw [badW, Bool.or_eq_true, decide_eq_true_eq, decide_eq_true_eq, not_or] at this
        omega
      split at h
      · cases h
      · split at h
        · cases h
        · rename_i h4 h5
          have := sumL_nn fun w hw => (h3 w hw).1
          exact ⟨by omega, h3, by omega⟩
theorem sumL_app : ∀ a b : List Int, sumL (a ++ b) = sumL a + sumL b
  | [], b => by rw [List.nil_append, sumL, Int.zero_add]
  | x :: a, b => by rw [List.cons_append, sumL, sumL, sumL_app a b, Int.add_assoc]
/-! ### the greatest common divisor, and the last weight -/
def contF : Nat → List Int → Nat
  | g, [] => g
  | g, w :: r => contF (Nat.gcd g w.toNat) r
def lastF : Nat → Nat → List Int → Nat
  | _, n, [] => n
  | i, n, w :: r => lastF (i + 1) (if 0 < w then i + 1 else n) r
def red (l : List Int) : List Int := (l.take (lastF 0 0 l)).map fun w => w / (contF 0 l : Int)
def co (l : List Int) (i : Nat) : Int := l.getD i 0
theorem contF_dvd : ∀ (l : List Int) (g : Nat), contF g l ∣ g ∧ ∀ w ∈ l, contF g l ∣ w.toNat
  | [], g => ⟨Nat.dvd_refl _, fun w h => by cases h⟩
  | x :: r, g => by
    have ⟨h1, h2⟩ := contF_dvd r (Nat.gcd g x.toNat)
    rw [contF]
    refine ⟨Nat.dvd_trans h1 (Nat.gcd_dvd_left ..), fun w hw => ?_⟩
    rcases List.mem_cons.1 hw with rfl | hw
    · exact Nat.dvd_trans h1 (Nat.gcd_dvd_right ..)
    · exact h2 w hw
theorem lastF_ok : ∀ (l : List Int) (i n : Nat), n ≤ i → lastF i n l ≤ i + l.length ∧ n ≤ lastF i n l ∧ (∀ j (hj : j < l.length), lastF i n l ≤ i + j → l[j] ≤ 0) ∧ (lastF i n l = n ∨ ∃ j, ∃ hj : j < l.length, lastF i n l = i + j + 1 ∧ 0 < l[j])
  | [], i, n, h => ⟨by rw [lastF]; exact h, Nat.le_refl _, fun j hj => absurd hj (Nat.not_lt_zero _), .inl rfl⟩
  | w :: r, i, n, h => by
    have ⟨h1, h2, h3, h4⟩ := lastF_ok r (i + 1) (if 0 < w then i + 1 else n) (by split <;> omega)
    have hlen : (w :: r).length = r.length + 1 := rfl
    rw [lastF]
    generalize lastF (i + 1) (if 0 < w then i + 1 else n) r = L at *
    refine ⟨by omega, by split at h2 <;> omega, fun j hj hl => ?_, ?_⟩
    · cases j with
      | zero =>
        show w ≤ 0
        split at h2
        · omega
        · omega
      | succ j => exact h3 j (by simpa using hj) (by omega)
    · rcases h4 with h4 | ⟨j, hj, h5, h6⟩
      · by_cases hw : 0 < w
        · rw [if_pos hw] at h4
          exact .inr ⟨0, by rw [List.length_cons]; omega, by rw [h4], hw⟩
        · rw [if_neg hw] at h4
          exact .inl h4
      · exact .inr ⟨j + 1, by rw [List.length_cons]; omega, by omega, h6⟩
theorem co_lt {l : List Int} {i : Nat} (h : i < l.length) : co l i = l[i] := by rw [co, List.getD_eq_getElem?_getD, List.getElem?_eq_getElem h]; rfl
theorem co_ge {l : List Int} {i : Nat} (h : l.length ≤ i) : co l i = 0 := by rw [co, List.getD_eq_getElem?_getD, List.getElem?_eq_none h]; rfl
theorem co_nn {l : List Int} (h : ∀ w ∈ l, 0 ≤ w) (i : Nat) : 0 ≤ co l i := by
  rcases Nat.lt_or_ge i l.length with h1 | h1
  · rw [co_lt h1]; exact h _ (List.getElem_mem h1)
  · rw [co_ge h1]; exact Int.le_refl _
/-- A list of weights that are not negative, some of them positive. -/
def Pos (l : List Int) : Prop := (∀ w ∈ l, 0 ≤ w) ∧ ∃ w ∈ l, 0 < w
theorem sum_pos : ∀ {l : List Int}, (∀ w ∈ l, 0 ≤ w) → 0 < sumL l → ∃ w ∈ l, 0 < w
  | [], _, h => absurd h (Int.lt_irrefl _)
  | x :: r, h, h2 => by
    by_cases hx : 0 < x
    · exact ⟨x, List.mem_cons_self .., hx⟩
    · rw [sumL] at h2
      have := h x (List.mem_cons_self ..)
      obtain ⟨w, h3, h4⟩ := sum_pos (l := r) (fun w hw => h w (List.mem_cons_of_mem _ hw)) (by omega)
      exact ⟨w, List.mem_cons_of_mem _ h3, h4⟩
theorem pos_sum : ∀ {l : List Int}, (∀ w ∈ l, 0 ≤ w) → (∃ w ∈ l, 0 < w) → 0 < sumL l
  | [], _, ⟨w, h, _⟩ => by cases h
  | x :: r, h, ⟨w, h1, h2⟩ => by
    have h3 := sumL_nn fun w hw => h w (List.mem_cons_of_mem x hw)
    have h4 := h x (List.mem_cons_self ..)
    rw [sumL]
    rcases List.mem_cons.1 h1 with rfl | h1
    · omega
    · have := pos_sum (l := r) (fun w hw => h w (List.mem_cons_of_mem _ hw)) ⟨w, h1, h2⟩
      omega
theorem Ker.pos {l : List Int} (h : Ker l) : Pos l := ⟨fun w hw => (h.nn w hw).1, sum_pos (fun w hw => (h.nn w hw).1) h.sum.1⟩
theorem Pos.cont {l : List Int} (h : Pos l) : 0 < contF 0 l := by
  obtain ⟨w, h1, h2⟩ := h.2
  have h3 := (contF_dvd l 0).2 w h1
  rcases Nat.eq_zero_or_pos (contF 0 l) with h4 | h4
  · rw [h4] at h3
    have := Nat.eq_zero_of_zero_dvd h3
    omega
  · exact h4
/-- The last weight: what stands behind it is 0. -/
theorem Pos.last {l : List Int} (h : Pos l) : ∃ n, lastF 0 0 l = n + 1 ∧ n < l.length ∧ 0 < co l n ∧ ∀ i, n < i → co l i = 0 := by
  have ⟨h1, _, h3, h4⟩ := lastF_ok l 0 0 (Nat.le_refl _)
  rcases h4 with h4 | ⟨j, hj, h5, h6⟩
  · obtain ⟨w, hw, hp⟩ := h.2
    obtain ⟨i, hi, rfl⟩ := List.getElem_of_mem hw
    have := h3 i hi (by omega)
    omega
  · refine ⟨j, by omega, hj, by rw [co_lt hj]; exact h6, fun i hi => ?_⟩
    rcases Nat.lt_or_ge i l.length with hl | hl
    · have := h3 i hl (by omega)
      have := h.1 _ (List.getElem_mem hl)
      rw [co_lt hl]; omega
    · exact co_ge hl
theorem Pos.dvd {l : List Int} (h : Pos l) (i : Nat) : (contF 0 l : Int) ∣ co l i := by
  rcases Nat.lt_or_ge i l.length with h1 | h1
  · rw [co_lt h1]
    have h2 := (contF_dvd l 0).2 _ (List.getElem_mem h1)
    have h3 := h.1 _ (List.getElem_mem h1)
    have := Int.ofNat_dvd.2 h2
    rwa [Int.toNat_of_nonneg h3] at this
  · rw [co_ge h1]; exact Int.dvd_zero _
theorem Pos.co_red {l : List Int} (h : Pos l) (i : Nat) : (contF 0 l : Int) * co (red l) i = co l i := by
  obtain ⟨n, h1, h2, h3, h4⟩ := h.last
  rw [red, h1]
  rcases Nat.lt_or_ge n i with hi | hi
  · rw [h4 i hi, co_ge (by rw [List.length_map, List.length_take]; omega), Int.mul_zero]
  · rw [co_lt (by rw [List.length_map, List.length_take]; omega), List.getElem_map, List.getElem_take, ← co_lt (by omega)]
    exact Int.mul_ediv_cancel' (h.dvd i)
theorem Pos.len_red {l : List Int} (h : Pos l) : ∃ n, (red l).length = n + 1 ∧ n < l.length ∧ 0 < co l n ∧ ∀ i, n < i → co l i = 0 := by
  obtain ⟨n, h1, h2, h3, h4⟩ := h.last
  exact ⟨n, by rw [red, h1, List.length_map, List.length_take]; omega, h2, h3, h4⟩
end Go.Proofs.YtceaamdomkjmlaaGreatDoor
/-
  Plain laws of kernels: products, and parts of what passes.
-/
namespace Go.Proofs.YtceaamdomkjmlaaGreatDoor
open Go.Num
/-! ### sequences -/
def cv (f g : Nat → Rat) : Nat → Rat
  | 0 => f 0 * g 0
  | t + 1 => f 0 * g (t + 1) + cv (fun i => f (i + 1)) g t
theorem cv_congr {g g' : Nat → Rat} (hg : ∀ i, g i = g' i) : ∀ (t : Nat) {f f' : Nat → Rat}, (∀ i, f i = f' i) → cv f g t = cv f' g' t
  | 0, f, f', h => by rw [cv, cv, h, hg]
  | t + 1, f, f', h => by rw [cv, cv, h, hg, cv_congr hg t fun i => h (i + 1)]
theorem cv_add (g : Nat → Rat) : ∀ (t : Nat) (f f' : Nat → Rat), cv (fun i => f i + f' i) g t = cv f g t + cv f' g t
  | 0, f, f' => by rw [cv, cv, cv]; grind
  | t + 1, f, f' => by rw [cv, cv, cv, cv_add g t]; grind
theorem cv_mul (c : Rat) (g : Nat → Rat) : ∀ (t : Nat) (f : Nat → Rat), cv (fun i => c * f i) g t = c * cv f g t
  | 0, f => by rw [cv, cv]; grind
  | t + 1, f => by rw [cv, cv, cv_mul c g t]; grind
theorem cv_mulr (c : Rat) (g : Nat → Rat) : ∀ (t : Nat) (f : Nat → Rat), cv f (fun i => c * g i) t = c * cv f g t
  | 0, f => by rw [cv, cv]; grind
  | t + 1, f => by rw [cv, cv, cv_mulr c g t]; grind
theorem cv_assoc (g h : Nat → Rat) : ∀ (t : Nat) (f : Nat → Rat), cv (cv f g) h t = cv f (cv g h) t
  | 0, f => by rw [cv, cv, cv, cv]; grind
  | t + 1, f => by
    have e : cv (fun i => cv f g (i + 1)) h t = cv (fun i => f 0 * g (i + 1) + cv (fun j => f (j + 1)) g i) h t := cv_congr (fun _ => rfl) t fun i => by rw [cv]
    rw [cv, e, cv_add, cv_mul, cv_assoc g h t, cv, cv, cv]
    grind
def one1s : Nat → Rat
  | 0 => 1
  | _ + 1 => 0
theorem cv_zero (g : Nat → Rat) : ∀ t, cv (fun _ => 0) g t = 0
  | 0 => by rw [cv]; grind
  | t + 1 => by rw [cv, cv_zero g t]; grind
theorem cv_one (g : Nat → Rat) (t : Nat) : cv one1s g t = g t := by
  cases t with
  | zero => rw [cv, one1s]; grind
  | succ t => rw [cv, show (fun i => one1s (i + 1)) = fun _ => 0 from rfl, cv_zero, one1s]; grind
theorem cv_oner (g : Nat → Rat) : ∀ (t : Nat) (f : Nat → Rat), cv f one1s t = f t
  | 0, f => by rw [cv, one1s]; grind
  | t + 1, f => by rw [cv, cv_oner g t, one1s]; grind
/-! ### products of lists, as they are reckoned in place -/
def rowF (i : Nat) (x : Int) : Nat → List Int → List Int → List Int
  | _, out, [] => out
  | j, out, y :: b => rowF i x (j + 1) (out.set (i + j) (co out (i + j) + x * y)) b
def convF : Nat → List Int → List Int → List Int → List Int
  | _, out, [], _ => out
  | i, out, x :: a, b => convF (i + 1) (rowF i x 0 out b) a b
def convL (a b : List Int) : List Int := convF 0 (List.replicate (a.length + b.length - 1) 0) a b
theorem rowF_len (i : Nat) (x : Int) : ∀ (b : List Int) (j : Nat) (out : List Int), (rowF i x j out b).length = out.length
  | [], _, _ => rfl
  | y :: b, j, out => by rw [rowF, rowF_len i x b, List.length_set]
theorem convF_len : ∀ (a : List Int) (i : Nat) (out b : List Int), (convF i out a b).length = out.length
  | [], _, _, _ => rfl
  | x :: a, i, out, b => by rw [convF, convF_len a, rowF_len]
theorem convL_len (a b : List Int) : (convL a b).length = a.length + b.length - 1 := by rw [convL, convF_len, List.length_replicate]
theorem co_set {l : List Int} {i : Nat} (h : i < l.length) (v : Int) (t : Nat) : co (l.set i v) t = if t = i then v else co l t := by
  rcases Nat.lt_or_ge t l.length with h1 | h1
  · rw [co_lt (by rw [List.length_set]; exact h1), List.getElem_set]
    by_cases e : t = i
    · rw [if_pos e.symm, if_pos e]
    · rw [if_neg (fun h => e h.symm), if_neg e, co_lt h1]
  · rw [co_ge (by rw [List.length_set]; exact h1), if_neg (by omega), co_ge h1]
theorem co_cons_zero (x : Int) (l : List Int) : co (x :: l) 0 = x := rfl
theorem co_cons_succ (x : Int) (l : List Int) (i : Nat) : co (x :: l) (i + 1) = co l i := rfl
theorem co_rep (n t : Nat) : co (List.replicate n 0) t = 0 := by
  rcases Nat.lt_or_ge t n with h | h
  · rw [co_lt (by rw [List.length_replicate]; exact h), List.getElem_replicate]
  · exact co_ge (by rw [List.length_replicate]; exact h)
theorem rowF_co (i : Nat) (x : Int) : ∀ (b : List Int) (j : Nat) (out : List Int), i + j + b.length ≤ out.length → ∀ t, co (rowF i x j out b) t = co out t + if i + j ≤ t then x * co b (t - (i + j)) else 0
  | [], j, out, _, t => by
    rw [rowF]
    split
    · rw [show co [] (t - (i + j)) = 0 from rfl, Int.mul_zero, Int.add_zero]
    · rw [Int.add_zero]
  | y :: b, j, out, h, t => by
    rw [List.length_cons] at h
    rw [rowF, rowF_co i x b (j + 1) _ (by rw [List.length_set]; omega) t, co_set (by omega)]
    by_cases h1 : t = i + j
    · subst h1
      rw [if_pos rfl, if_neg (by omega), if_pos (Nat.le_refl _), Nat.sub_self, co_cons_zero]; omega
    · rw [if_neg h1]
      by_cases h2 : i + (j + 1) ≤ t
      · rw [if_pos h2, if_pos (by omega), show t - (i + j) = (t - (i + (j + 1))) + 1 by omega, co_cons_succ]
      · rw [if_neg h2, if_neg (by omega)]
def sq (l : List Int) (i : Nat) : Rat := ((co l i : Int) : Rat)
theorem convF_co : ∀ (a : List Int) (i : Nat) (out b : List Int), 0 < b.length → (0 < a.length → i + a.length + b.length ≤ out.length + 1) → ∀ t, sq (convF i out a b) t = sq out t + if i ≤ t then cv (sq a) (sq b) (t - i) else 0
  | [], i, out, b, _, _, t => by
    rw [convF]
    have hz : ∀ s, cv (sq []) (sq b) s = 0 := fun s => by
      rw [cv_congr (f := sq []) (f' := fun _ => 0) (fun _ => rfl) s fun i => by rw [sq, co_ge (Nat.zero_le _)]; rfl]
      exact cv_zero _ s
    rw [hz]; split <;> exact (Rat.add_zero _).symm
  | x :: a, i, out, b, hb, h, t => by
    have h1 := h (by rw [List.length_cons]; omega)
    rw [List.length_cons] at h1
    rw [convF, convF_co a (i + 1) _ b hb (fun ha => by rw [rowF_len]; omega) t, sq, rowF_co i x b 0 out (by omega) t, Rat.intCast_add]
    have hs : (fun k => sq (x :: a) (k + 1)) = sq a := rfl
    rcases Nat.lt_trichotomy t i with h2 | h2 | h2
    · rw [if_neg (by omega), if_neg (by omega), if_neg (by omega), sq, Rat.intCast_zero]; grind
    · subst h2
      rw [if_pos (by omega), if_neg (by omega), if_pos (Nat.le_refl _), Nat.add_zero, Nat.sub_self, cv, Rat.intCast_mul, sq, sq, sq, co_cons_zero]; grind
    · rw [if_pos (by omega), if_pos (by omega), if_pos (by omega), show t - i = (t - (i + 1)) + 1 by omega, cv, hs, Nat.add_zero, Rat.intCast_mul, sq, sq, sq, co_cons_zero, show t - i = (t - (i + 1)) + 1 by omega]; grind
theorem convL_co {a b : List Int} (hb : 0 < b.length) (t : Nat) : sq (convL a b) t = cv (sq a) (sq b) t := by
  rw [convL, convF_co a 0 _ b hb (fun ha => by rw [List.length_replicate]; omega) t, if_pos (Nat.zero_le _), Nat.sub_zero, sq, co_rep, Rat.intCast_zero, Rat.zero_add]
/-! ### sums of products -/
theorem sumL_set : ∀ (l : List Int) (i : Nat) (v : Int), i < l.length → sumL (l.set i v) = sumL l + (v - co l i)
  | x :: l, 0, v, _ => by rw [List.set_cons_zero, sumL, sumL, co_cons_zero]; omega
  | x :: l, i + 1, v, h => by rw [List.set_cons_succ, sumL, sumL, co_cons_succ, sumL_set l i v (by simpa using h)]; omega
theorem rowF_sum (i : Nat) (x : Int) : ∀ (b : List Int) (j : Nat) (out : List Int), i + j + b.length ≤ out.length → sumL (rowF i x j out b) = sumL out + x * sumL b
  | [], _, _, _ => by rw [rowF, sumL, Int.mul_zero, Int.add_zero]
  | y :: b, j, out, h => by
    rw [List.length_cons] at h
    rw [rowF, rowF_sum i x b (j + 1) _ (by rw [List.length_set]; omega), sumL_set _ _ _ (by omega), sumL, Int.mul_add]; omega
theorem convF_sum : ∀ (a : List Int) (i : Nat) (out b : List Int), 0 < b.length → (0 < a.length → i + a.length + b.length ≤ out.length + 1) → sumL (convF i out a b) = sumL out + sumL a * sumL b
  | [], _, _, _, _, _ => by rw [convF, sumL, Int.zero_mul, Int.add_zero]
  | x :: a, i, out, b, hb, h => by
    have h1 := h (by rw [List.length_cons]; omega)
    rw [List.length_cons] at h1
    rw [convF, convF_sum a (i + 1) _ b hb (fun ha => by rw [rowF_len]; omega), rowF_sum i x b 0 out (by omega), sumL, Int.add_mul]; omega
theorem sumL_rep : ∀ n : Nat, sumL (List.replicate n 0) = 0
  | 0 => rfl
  | n + 1 => by rw [List.replicate_succ, sumL, sumL_rep n]; rfl
theorem convL_sum {a b : List Int} (hb : 0 < b.length) : sumL (convL a b) = sumL a * sumL b := by
  rw [convL, convF_sum a 0 _ b hb (fun ha => by rw [List.length_replicate]; omega), sumL_rep, Int.zero_add]
theorem elem_le : ∀ {l : List Int}, (∀ w ∈ l, 0 ≤ w) → ∀ w ∈ l, w ≤ sumL l
  | x :: l, h, w, hw => by
    have h1 := sumL_nn fun w hw => h w (List.mem_cons_of_mem x hw)
    have h2 := h x (List.mem_cons_self ..)
    rw [sumL]
    rcases List.mem_cons.1 hw with rfl | hw
    · omega
    · have := elem_le (l := l) (fun w hw => h w (List.mem_cons_of_mem _ hw)) w hw; omega
theorem rowF_nn (i : Nat) {x : Int} (hx : 0 ≤ x) : ∀ (b : List Int) (j : Nat) (out : List Int), (∀ w ∈ b, 0 ≤ w) → (∀ w ∈ out, 0 ≤ w) → ∀ w ∈ rowF i x j out b, 0 ≤ w
  | [], _, _, _, h => h
  | y :: b, j, out, hb, h => by
    rw [rowF]
    refine rowF_nn i hx b (j + 1) _ (fun w hw => hb w (List.mem_cons_of_mem _ hw)) fun w hw => ?_
    rcases List.mem_or_eq_of_mem_set hw with hw | rfl
    · exact h w hw
    · have := co_nn h (i + j)
      have := Int.mul_nonneg hx (hb y (List.mem_cons_self ..))
      omega
theorem convF_nn : ∀ (a : List Int) (i : Nat) (out b : List Int), (∀ w ∈ a, 0 ≤ w) → (∀ w ∈ b, 0 ≤ w) → (∀ w ∈ out, 0 ≤ w) → ∀ w ∈ convF i out a b, 0 ≤ w
  | [], _, _, _, _, _, h => h
  | x :: a, i, out, b, ha, hb, h => by
    rw [convF]
    exact convF_nn a (i + 1) _ b (fun w hw => ha w (List.mem_cons_of_mem _ hw)) hb (rowF_nn i (ha x (List.mem_cons_self ..)) b 0 out hb h)
theorem convL_pos {a b : List Int} (ha : Pos a) (hb : Pos b) : Pos (convL a b) := by
  obtain ⟨w, hw, _⟩ := hb.2
  have h1 : ∀ w ∈ convL a b, 0 ≤ w := convF_nn a 0 _ b ha.1 hb.1 fun w hw => by rw [(List.mem_replicate.1 hw).2]; exact Int.le_refl _
  refine ⟨h1, sum_pos h1 ?_⟩
  rw [convL_sum (List.length_pos_of_mem hw)]
  exact Int.mul_pos (pos_sum ha.1 ha.2) (pos_sum hb.1 hb.2)
/-! ### reduced lists -/
theorem sum_red {l : List Int} (h : Pos l) : (contF 0 l : Int) * sumL (red l) = sumL l := by
  obtain ⟨n, h1, h2, h3, h4⟩ := h.last
  have hz : ∀ l : List Int, (∀ i, co l i = 0) → sumL l = 0 := fun l => by
    induction l with
    | nil => intro _; rfl
    | cons x l ih => intro h; rw [sumL, ih fun i => h (i + 1)]; have := h 0; rw [co_cons_zero] at this; omega
  have hm : ∀ (c : Int) (l : List Int), (∀ w ∈ l, c ∣ w) → c * sumL (l.map fun w => w / c) = sumL l := fun c l => by
    induction l with
    | nil => intro _; rw [List.map_nil, sumL, Int.mul_zero]
    | cons x l ih => intro h; rw [List.map_cons, sumL, sumL, Int.mul_add, ih fun w hw => h w (List.mem_cons_of_mem _ hw), Int.mul_ediv_cancel' (h x (List.mem_cons_self ..))]
  rw [red, h1]
  rw [hm _ _ fun w hw => by
    obtain ⟨i, hi, rfl⟩ := List.getElem_of_mem (List.mem_of_mem_take hw)
    rw [← co_lt hi]; exact h.dvd i]
  conv => rhs; rw [← List.take_append_drop (n + 1) l, sumL_app]
  rw [hz (l.drop (n + 1)) fun i => by
    have := h4 (n + 1 + i) (by omega)
    rw [co, List.getD_eq_getElem?_getD] at this ⊢
    rwa [List.getElem?_drop], Int.add_zero]
theorem red_pos {l : List Int} (h : Pos l) : Pos (red l) := by
  have h1 : ∀ w ∈ red l, 0 ≤ w := fun w hw => by
    obtain ⟨v, hv, rfl⟩ := List.mem_map.1 hw
    exact Int.ediv_nonneg (h.1 v (List.mem_of_mem_take hv)) (by omega)
  refine ⟨h1, sum_pos h1 ?_⟩
  have h2 := sum_red h
  have h3 := pos_sum h.1 h.2
  have h4 := h.cont
  rcases Int.lt_trichotomy (sumL (red l)) 0 with h5 | h5 | h5
  · have := Int.mul_neg_of_pos_of_neg (show (0 : Int) < contF 0 l by omega) h5; omega
  · rw [h5, Int.mul_zero] at h2; omega
  · exact h5
/-- The part of what passes that arrives after i ticks. -/
def pk (l : List Int) (i : Nat) : Rat := sq l i / ((sumL l : Int) : Rat)
theorem rat_ne {n : Int} (h : 0 < n) : ((n : Int) : Rat) ≠ 0 := fun e => by
  have := Rat.intCast_inj.1 (show ((n : Int) : Rat) = ((0 : Int) : Rat) from e)
  omega
theorem pk_red {l : List Int} (h : Pos l) (i : Nat) : pk (red l) i = pk l i := by
  have h1 := h.co_red i
  have h2 := sum_red h
  have h3 := rat_ne (show (0 : Int) < contF 0 l by have := h.cont; omega)
  have h4 := rat_ne (pos_sum (red_pos h).1 (red_pos h).2)
  rw [pk, pk, sq, sq, ← h1, ← h2, Rat.intCast_mul, Rat.intCast_mul]
  generalize ((contF 0 l : Int) : Rat) = c at *
  generalize ((sumL (red l) : Int) : Rat) = s at *
  grind
theorem pk_conv {a b : List Int} (ha : Pos a) (hb : Pos b) (t : Nat) : pk (convL a b) t = cv (pk a) (pk b) t := by
  obtain ⟨w, hw, _⟩ := hb.2
  have hl := List.length_pos_of_mem hw
  have h1 := rat_ne (pos_sum ha.1 ha.2)
  have h2 := rat_ne (pos_sum hb.1 hb.2)
  rw [pk, convL_co hl, convL_sum hl, Rat.intCast_mul]
  have e1 : ∀ i, pk a i = (((sumL a : Int) : Rat))⁻¹ * sq a i := fun i => by rw [pk, Rat.div_def, Rat.mul_comm]
  have e2 : ∀ i, pk b i = (((sumL b : Int) : Rat))⁻¹ * sq b i := fun i => by rw [pk, Rat.div_def, Rat.mul_comm]
  rw [cv_congr (g' := fun i => (((sumL b : Int) : Rat))⁻¹ * sq b i) e2 t (f' := fun i => (((sumL a : Int) : Rat))⁻¹ * sq a i) e1, cv_mul, cv_mulr]
  generalize ((sumL a : Int) : Rat) = x at *
  generalize ((sumL b : Int) : Rat) = y at *
  grind
/-- The kernel of two reaches, or the error. -/
def compE (a b : List Int) : List Int × Int :=
  if kerErr a ≠ 0 then ([], kerErr a) else if kerErr b ≠ 0 then ([], kerErr b) else if 400 < (red a).length + (red b).length - 1 then ([], 2) else if 999999999999999 / sumL (red b) < sumL (red a) then ([], 3) else (red (convL (red a) (red b)), 0)
theorem compE_ok {a b : List Int} (h : (compE a b).2 = 0) : Pos a ∧ Pos b ∧ compE a b = (red (convL (red a) (red b)), 0) := by
  rw [compE] at h ⊢
  by_cases h1 : kerErr a = 0
  · rw [if_neg (fun e => e h1)] at h ⊢
    by_cases h2 : kerErr b = 0
    · rw [if_neg (fun e => e h2)] at h ⊢
      refine ⟨(ker_of h1).pos, (ker_of h2).pos, ?_⟩
      split at h
      · cases h
      · rename_i h3
        rw [if_neg h3]
        split at h
        · cases h
        · rename_i h4; rw [if_neg h4]
    · rw [if_pos h2] at h; exact absurd h h2
  · rw [if_pos h1] at h; exact absurd h h1
end Go.Proofs.YtceaamdomkjmlaaGreatDoor
/-
  Plain laws of rivers: the way down.
-/
namespace Go.Proofs.YtceaamdomkjmlaaGreatDoor
open Go.RowKit Go.Sl Go.Num
/-- A gauge with its way down, and its kernel. -/
structure Rch where
  dn : Int
  ws : List Int
  adr : Option Addr
  cap : Nat
def rcV (r : Rch) : List Value := [.int .i64 r.dn, .slice r.adr r.ws.length r.cap]
theorem rcV_len (r : Rch) : (rcV r).length = 2 := rfl
/-- The gauge below one; -1 if there is none. -/
def dnOf (l : List Rch) (g : Int) : Int := if g < 0 then -1 else match l[g.toNat]? with
  | some r => r.dn
  | none => -1
theorem dnOf_at {l : List Rch} {g : Nat} (h : g < l.length) : dnOf l (g : Int) = l[g].dn := by
  rw [dnOf, if_neg (by omega), Int.toNat_natCast, List.getElem?_eq_getElem h]
theorem dnOf_neg {l : List Rch} {g : Int} (h : g < 0) : dnOf l g = -1 := by rw [dnOf, if_pos h]
/-- After k steps down. -/
def itr (l : List Rch) : Nat → Int → Int
  | 0, g => g
  | k + 1, g => itr l k (dnOf l g)
theorem itr_neg {l : List Rch} : ∀ {k : Nat} {g : Int}, g < 0 → itr l k g < 0
  | 0, _, h => h
  | k + 1, g, h => by rw [itr, dnOf_neg h]; exact itr_neg (by decide)
theorem itr_add (l : List Rch) : ∀ (j k : Nat) (g : Int), itr l (j + k) g = itr l k (itr l j g)
  | 0, k, g => by rw [Nat.zero_add, itr]
  | j + 1, k, g => by rw [Nat.succ_add, itr, itr, itr_add l j k]
theorem itr_succ (l : List Rch) (k : Nat) (g : Int) : itr l (k + 1) g = dnOf l (itr l k g) := by rw [itr_add l k 1 g]; rfl
def badR1 (n : Nat) (g : Nat) (r : Rch) : Int := if r.dn < -1 ∨ (n : Int) ≤ r.dn then 3 else if r.dn = g ∨ (r.dn < 0 ∧ 0 < r.ws.length) ∨ (0 ≤ r.dn ∧ kerErr r.ws ≠ 0) then 1 else 0
def badRs (n : Nat) : Nat → List Rch → Int
  | _, [] => 0
  | g, r :: t => if badR1 n g r ≠ 0 then badR1 n g r else badRs n (g + 1) t
/-- The error of a river. -/
def rivErr (l : List Rch) : Int := if 40 < l.length then 2 else if badRs l.length 0 l ≠ 0 then badRs l.length 0 l else if (List.range l.length).all (fun g : Nat => decide (itr l l.length g < 0)) = true then 0 else 4
structure Riv (l : List Rch) : Prop where
  len : l.length ≤ 40
  rng : ∀ g (hg : g < l.length), -1 ≤ l[g].dn ∧ l[g].dn < l.length
  ne : ∀ g (hg : g < l.length), l[g].dn ≠ g
  ker : ∀ g (hg : g < l.length), 0 ≤ l[g].dn → kerErr l[g].ws = 0
  nil : ∀ g (hg : g < l.length), l[g].dn < 0 → l[g].ws = []
  fin : ∀ g, g < l.length → itr l l.length (g : Int) < 0
theorem badRs_ok {n : Nat} : ∀ {l : List Rch} {g : Nat}, badRs n g l = 0 → ∀ i (hi : i < l.length), badR1 n (g + i) l[i] = 0
  | r :: t, g, h, i, hi => by
    rw [badRs] at h
    split at h
    · rename_i h1; exact absurd h h1
    · rename_i h1
      cases i with
      | zero => exact Decidable.not_not.1 h1
      | succ i =>
        have := badRs_ok h i (by simpa using hi)
        rw [show g + (i + 1) = g + 1 + i by omega]; exact this
theorem riv_of {l : List Rch} (h : rivErr l = 0) : Riv l := by
  rw [rivErr] at h
  split at h
  · cases h
  · split at h
    · rename_i h1; exact absurd h h1
    · rename_i h1 h2
      split at h
      · rename_i h3
        have h4 := badRs_ok (Decidable.not_not.1 h2)
        have h5 : ∀ g (hg : g < l.length), badR1 l.length g l[g] = 0 := fun g hg => by have := h4 g hg; rwa [Nat.zero_add] at this
        have h6 : ∀ g (hg : g < l.length), ¬ (l[g].dn < -1 ∨ (l.length : Int) ≤ l[g].dn) ∧ ¬ (l[g].dn = g ∨ (l[g].dn < 0 ∧ 0 < l[g].ws.length) ∨ (0 ≤ l[g].dn ∧ kerErr l[g].ws ≠ 0)) := fun g hg => by
          have := h5 g hg
          rw [badR1] at this
          split at this
          · cases this
          · split at this
            · cases this
            · exact ⟨by assumption, by assumption⟩
        refine ⟨by omega, fun g hg => ?_, fun g hg => ?_, fun g hg h7 => ?_, fun g hg h7 => ?_, fun g hg => ?_⟩
        · have := (h6 g hg).1; omega
        · exact fun e => (h6 g hg).2 (.inl e)
        · by_cases h8 : kerErr l[g].ws = 0
          · exact h8
          · exact absurd (.inr (.inr ⟨h7, h8⟩)) (h6 g hg).2
        · by_cases h8 : 0 < l[g].ws.length
          · exact absurd (.inr (.inl ⟨h7, h8⟩)) (h6 g hg).2
          · exact List.length_eq_zero_iff.1 (by omega)
        · exact of_decide_eq_true (List.all_eq_true.1 h3 g (List.mem_range.2 hg))
      · cases h
theorem Riv.dn {l : List Rch} (h : Riv l) {g : Int} (h0 : 0 ≤ g) (h1 : g < l.length) : -1 ≤ dnOf l g ∧ dnOf l g < l.length ∧ dnOf l g ≠ g := by
  obtain ⟨k, rfl⟩ : ∃ k : Nat, g = k := ⟨g.toNat, by omega⟩
  rw [dnOf_at (by omega)]
  have := h.rng k (by omega)
  have := h.ne k (by omega)
  omega
/-- As long as there are gauges, they are gauges of the river. -/
theorem Riv.in_ {l : List Rch} (h : Riv l) : ∀ (k : Nat) {g : Int}, g < l.length → -1 ≤ g → -1 ≤ itr l k g ∧ itr l k g < l.length
  | 0, g, h1, h2 => ⟨h2, h1⟩
  | k + 1, g, h1, h2 => by
    rw [itr]
    by_cases h0 : g < 0
    · rw [dnOf_neg h0]
      have h3 : itr l k (-1) < 0 := itr_neg (by decide)
      refine Riv.in_ h k (by omega) (by decide)
    · have := h.dn (by omega) h1
      exact h.in_ k this.2.1 this.1
/-- How many gauges there are from one on down. -/
def dpt (l : List Rch) (g : Int) : Nat := ((List.range (l.length + 1)).find? fun k => decide (itr l k g < 0)).getD 0
theorem Riv.end_ {l : List Rch} (h : Riv l) {g : Int} (h1 : g < l.length) : itr l l.length g < 0 := by
  by_cases h0 : g < 0
  · exact itr_neg h0
  · obtain ⟨k, rfl⟩ : ∃ k : Nat, g = k := ⟨g.toNat, by omega⟩
    exact h.fin k (by omega)
theorem Riv.dep {l : List Rch} (h : Riv l) {g : Int} (h1 : g < l.length) : itr l (dpt l g) g < 0 ∧ dpt l g ≤ l.length ∧ ∀ k, k < dpt l g → 0 ≤ itr l k g := by
  rw [dpt]
  cases hf : (List.range (l.length + 1)).find? fun k => decide (itr l k g < 0) with
  | none =>
    rw [List.find?_eq_none] at hf
    have := hf l.length (List.mem_range.2 (by omega))
    exact absurd (decide_eq_true (h.end_ h1)) this
  | some k =>
    have h2 := List.find?_some hf
    have h3 := List.mem_of_find?_eq_some hf
    rw [List.find?_range_eq_some] at hf
    dsimp only [Option.getD_some]
    rw [List.mem_range] at h3
    refine ⟨of_decide_eq_true h2, by omega, fun j hj => ?_⟩
    have := hf.2.2 j hj
    simp only [Bool.not_eq_true', decide_eq_false_iff_not] at this
    omega
theorem Riv.ddn {l : List Rch} (h : Riv l) {g : Int} (h0 : 0 ≤ g) (h1 : g < l.length) : dpt l g = dpt l (dnOf l g) + 1 := by
  have h2 := h.dep h1
  have h3 := h.dep (h.dn h0 h1).2.1
  have h4 : 0 < dpt l g := by
    rcases Nat.eq_zero_or_pos (dpt l g) with h5 | h5
    · have := h2.1; rw [h5, itr] at this; omega
    · exact h5
  obtain ⟨d, hd⟩ : ∃ d, dpt l g = d + 1 := ⟨dpt l g - 1, by omega⟩
  rw [hd] at h2 ⊢
  have h5 := h2.1
  rw [itr] at h5
  rcases Nat.lt_trichotomy d (dpt l (dnOf l g)) with h6 | h6 | h6
  · have := h3.2.2 d h6; omega
  · rw [h6]
  · have := h2.2.2 (dpt l (dnOf l g) + 1) (by omega)
    rw [itr] at this
    have := h3.1; omega
end Go.Proofs.YtceaamdomkjmlaaGreatDoor
/-
  Plain laws of rivers: a way that is too long never ends; paths.
-/
namespace Go.Proofs.YtceaamdomkjmlaaGreatDoor
open Go.RowKit Go.Sl Go.Num
theorem nodup_le : ∀ (n : Nat) (L : List Nat), L.Nodup → (∀ x ∈ L, x < n) → L.length ≤ n
  | 0, [], _, _ => Nat.le_refl _
  | 0, x :: L, _, h => absurd (h x (List.mem_cons_self ..)) (Nat.not_lt_zero _)
  | n + 1, L, h, hl => by
    by_cases hn : n ∈ L
    · have h1 := nodup_le n (L.erase n) (h.erase n) fun x hx => by
        have h2 := (List.Nodup.mem_erase_iff h).1 hx
        have := hl x h2.2
        have := h2.1
        omega
      rw [List.length_erase_of_mem hn] at h1
      omega
    · have := nodup_le n L h fun x hx => by
        have := hl x hx
        have : x ≠ n := fun e => hn (e ▸ hx)
        omega
      omega
/-- Rivers of which all ways lead to gauges. -/
def InR (l : List Rch) : Prop := ∀ g (hg : g < l.length), -1 ≤ l[g].dn ∧ l[g].dn < l.length
theorem InR.in_ {l : List Rch} (h : InR l) : ∀ (k : Nat) {g : Int}, g < l.length → -1 ≤ g → -1 ≤ itr l k g ∧ itr l k g < l.length
  | 0, g, h1, h2 => ⟨h2, h1⟩
  | k + 1, g, h1, h2 => by
    rw [itr]
    by_cases h0 : g < 0
    · rw [dnOf_neg h0]
      exact InR.in_ h k (by omega) (by decide)
    · obtain ⟨j, rfl⟩ : ∃ j : Nat, g = j := ⟨g.toNat, by omega⟩
      rw [dnOf_at (by omega)]
      have := h j (by omega)
      exact h.in_ k this.2 this.1
theorem itr_pos {l : List Rch} {j k : Nat} {g : Int} (h : 0 ≤ itr l k g) (hj : j ≤ k) : 0 ≤ itr l j g := by
  rcases Int.lt_or_le (itr l j g) 0 with h1 | h1
  · have := itr_add l j (k - j) g
    rw [show j + (k - j) = k by omega] at this
    have h2 := itr_neg (l := l) (k := k - j) h1
    omega
  · exact h1
/-- A way of more gauges than there are goes around. -/
theorem itr_round {l : List Rch} (h : InR l) {g : Int} (h1 : g < l.length) (h2 : 0 ≤ itr l l.length g) : ∀ k, 0 ≤ itr l k g := by
  have h0 : 0 ≤ g := itr_pos (j := 0) h2 (Nat.zero_le _)
  have hin : ∀ k, k ≤ l.length → 0 ≤ itr l k g ∧ itr l k g < l.length := fun k hk => ⟨itr_pos h2 hk, (h.in_ k h1 (by omega)).2⟩
  have hex : ∃ i j, i < j ∧ j ≤ l.length ∧ itr l i g = itr l j g := by
    by_cases hc : ∃ i j, i < j ∧ j ≤ l.length ∧ itr l i g = itr l j g
    · exact hc
    · have hnd : ((List.range (l.length + 1)).map fun k => (itr l k g).toNat).Nodup := by
        rw [List.Nodup, List.pairwise_map]
        refine List.Pairwise.imp_of_mem (R := fun a b => a < b) (fun {a b} ha hb hab e => ?_) List.pairwise_lt_range
        rw [List.mem_range] at ha hb
        have := hin a (by omega)
        have := hin b (by omega)
        exact hc ⟨a, b, hab, by omega, by omega⟩
      have := nodup_le l.length _ hnd fun x hx => by
        obtain ⟨k, hk, rfl⟩ := List.mem_map.1 hx
        rw [List.mem_range] at hk
        have := hin k (by omega)
        omega
      rw [List.length_map, List.length_range] at this
      omega
  obtain ⟨i, j, hij, hj, e⟩ := hex
  have hper : ∀ k, itr l (i + k) g = itr l (j + k) g := fun k => by rw [itr_add, itr_add l j, e]
  intro k
  induction k using Nat.strongRecOn with
  | _ k ih =>
    rcases Nat.lt_or_ge l.length k with hk | hk
    · have := hper (k - j)
      rw [show j + (k - j) = k by omega] at this
      rw [← this]
      exact ih _ (by omega)
    · exact (hin k hk).1
/-- The gauges from one on down to another one. -/
def pathF (l : List Rch) (to : Int) : Nat → Int → Option (List Int)
  | 0, _ => none
  | k + 1, g => if g < 0 then none else if g = to then some [g] else (pathF l to k (dnOf l g)).map (g :: ·)
def errG (l : List Rch) (g : Int) : Int := if rivErr l ≠ 0 then rivErr l else if g < 0 ∨ (l.length : Int) ≤ g then 3 else 0
/-- The path, or the error. -/
def pathE (l : List Rch) (fr to : Int) : List Int × Int := if errG l fr ≠ 0 then ([], errG l fr) else if errG l to ≠ 0 then ([], errG l to) else match pathF l to (l.length + 1) fr with
  | some p => (p, 0)
  | none => ([], 8)
def aboveL (l : List Rch) (g : Int) : List Int := ((List.range l.length).filter fun k : Nat => decide (dnOf l k = g)).map fun k : Nat => (k : Int)
end Go.Proofs.YtceaamdomkjmlaaGreatDoor
/-
  Plain laws of rivers: paths as steps, kernels along paths.
-/
namespace Go.Proofs.YtceaamdomkjmlaaGreatDoor
open Go.RowKit Go.Sl Go.Num
theorem Riv.dpt_itr {l : List Rch} (h : Riv l) : ∀ (i : Nat) {g : Int}, g < l.length → -1 ≤ g → 0 ≤ itr l i g → dpt l (itr l i g) + i = dpt l g
  | 0, _, _, _, _ => rfl
  | i + 1, g, h1, h2, h3 => by
    rw [itr] at h3 ⊢
    by_cases h0 : g < 0
    · rw [dnOf_neg h0] at h3
      have : itr l i (-1) < 0 := itr_neg (by decide)
      omega
    · have h4 := h.dn (by omega) h1
      have h5 := h.dpt_itr i h4.2.1 h4.1 h3
      have h6 := h.ddn (by omega) h1
      omega
theorem Riv.inj {l : List Rch} (h : Riv l) {g : Int} (h1 : g < l.length) (h2 : -1 ≤ g) {i j : Nat} (h3 : itr l i g = itr l j g) (h4 : 0 ≤ itr l i g) : i = j := by
  have e1 := h.dpt_itr i h1 h2 h4
  have e2 := h.dpt_itr j h1 h2 (by omega)
  rw [h3] at e1
  omega
def stepsL (l : List Rch) (d : Nat) (g : Int) : List Int := (List.range (d + 1)).map fun i => itr l i g
theorem stepsL_succ (l : List Rch) (d : Nat) (g : Int) : stepsL l (d + 1) g = g :: stepsL l d (dnOf l g) := by
  rw [stepsL, List.range_succ_eq_map, List.map_cons, List.map_map]; rfl
theorem pathF_some {l : List Rch} {to : Int} : ∀ (k d : Nat) {g : Int}, d < k → itr l d g = to → (∀ i, i < d → itr l i g ≠ to) → (∀ i, i ≤ d → 0 ≤ itr l i g) → pathF l to k g = some (stepsL l d g)
  | 0, _, _, h, _, _, _ => absurd h (Nat.not_lt_zero _)
  | k + 1, 0, g, _, h1, _, h3 => by
    have := h3 0 (Nat.le_refl _)
    rw [itr] at this h1
    rw [pathF, if_neg (by omega), if_pos h1]; rfl
  | k + 1, d + 1, g, h, h1, h2, h3 => by
    have e0 := h3 0 (Nat.zero_le _)
    have e1 := h2 0 (Nat.zero_lt_succ _)
    rw [itr] at e0 e1
    rw [pathF, if_neg (by omega), if_neg e1, pathF_some k d (g := dnOf l g) (by omega) h1 (fun i hi => h2 (i + 1) (by omega)) (fun i hi => h3 (i + 1) (by omega)), Option.map_some, stepsL_succ]
theorem pathF_none {l : List Rch} {to : Int} : ∀ (k : Nat) {g : Int}, (∀ d, itr l d g ≠ to) → pathF l to k g = none
  | 0, _, _ => rfl
  | k + 1, g, h => by
    rw [pathF]
    split
    · rfl
    · rw [if_neg (show ¬ g = to from h 0), pathF_none k fun d => h (d + 1)]; rfl
theorem Riv.path {l : List Rch} (h : Riv l) {g to : Int} (h1 : 0 ≤ g ∧ g < l.length) (h2 : 0 ≤ to) {d : Nat} (hd : itr l d g = to) : pathF l to (l.length + 1) g = some (stepsL l d g) := by
  have h3 := h.dep h1.2
  have hlt : d < dpt l g := by
    rcases Nat.lt_or_ge d (dpt l g) with h4 | h4
    · exact h4
    · have e := itr_add l (dpt l g) (d - dpt l g) g
      rw [show dpt l g + (d - dpt l g) = d by omega] at e
      have := itr_neg (l := l) (k := d - dpt l g) h3.1
      omega
  refine pathF_some _ d (by omega) hd (fun i hi e => ?_) fun i hi => h3.2.2 i (by omega)
  have := h.inj h1.2 (by omega) (i := i) (j := d) (by omega) (h3.2.2 i (by omega))
  omega
theorem Riv.path_iff {l : List Rch} (h : Riv l) {g to : Int} (h1 : 0 ≤ g ∧ g < l.length) (h2 : 0 ≤ to) : (∃ d, itr l d g = to ∧ pathF l to (l.length + 1) g = some (stepsL l d g)) ∨ ((∀ d, itr l d g ≠ to) ∧ pathF l to (l.length + 1) g = none) := by
  by_cases hc : ∃ d, itr l d g = to
  · obtain ⟨d, hd⟩ := hc
    exact .inl ⟨d, hd, h.path h1 h2 hd⟩
  · have : ∀ d, itr l d g ≠ to := fun d e => hc ⟨d, e⟩
    exact .inr ⟨this, pathF_none _ this⟩
theorem stepsL_len (l : List Rch) (d : Nat) (g : Int) : (stepsL l d g).length = d + 1 := by rw [stepsL, List.length_map, List.length_range]
theorem stepsL_get (l : List Rch) (d : Nat) (g : Int) (i : Nat) (hi : i < (stepsL l d g).length) : (stepsL l d g)[i] = itr l i g := by simp [stepsL]
/-! ### kernels along a way -/
def foldK : List Int × Int → List (List Int) → List Int × Int
  | s, [] => s
  | s, w :: r => if s.2 ≠ 0 then s else foldK (compE s.1 w) r
def ppk : List (List Int) → Nat → Rat
  | [] => one1s
  | w :: r => cv (pk w) (ppk r)
theorem foldK_bad : ∀ (r : List (List Int)) (s : List Int × Int), s.2 ≠ 0 → foldK s r = s
  | [], _, _ => rfl
  | w :: r, s, h => by rw [foldK, if_pos h]
theorem foldK_ok : ∀ (r : List (List Int)) (X : List Int), Pos X → (foldK (red X, 0) r).2 = 0 → ∃ Y, Pos Y ∧ (foldK (red X, 0) r).1 = red Y ∧ ∀ t, pk Y t = cv (pk X) (ppk r) t
  | [], X, hX, _ => ⟨X, hX, rfl, fun t => by rw [ppk, cv_oner (fun _ => 0)]⟩
  | w :: r, X, hX, h => by
    rw [foldK, if_neg (fun e => e rfl)] at h ⊢
    by_cases h1 : (compE (red X) w).2 = 0
    · obtain ⟨h2, h3, h4⟩ := compE_ok h1
      have h5 := convL_pos (red_pos h2) (red_pos h3)
      rw [h4] at h ⊢
      obtain ⟨Y, k1, k2, k3⟩ := foldK_ok r _ h5 h
      refine ⟨Y, k1, k2, fun t => ?_⟩
      rw [k3 t, ppk, ← cv_assoc]
      refine cv_congr (fun _ => rfl) t fun i => ?_
      rw [pk_conv (red_pos h2) (red_pos h3)]
      exact cv_congr (pk_red h3) i fun j => by rw [pk_red h2, pk_red hX]
    · rw [foldK_bad r _ h1] at h; exact absurd h h1
theorem pk_one (t : Nat) : pk [1] t = one1s t := by
  cases t with
  | zero => rw [pk, sq, one1s]; simp [co, sumL]; grind
  | succ t => rw [pk, sq, co_ge (by simp), one1s, Rat.intCast_zero]; grind
def ker1 (l : List Rch) (g : Int) : List Int := if g < 0 then [] else match l[g.toNat]? with
  | some r => r.ws
  | none => []
/-- The kernel along a way from one gauge to another one, or the error. -/
def alongE (l : List Rch) (fr to : Int) : List Int × Int :=
  if (pathE l fr to).2 ≠ 0 then ([], (pathE l fr to).2) else if fr = to then ([1], 0) else foldK (red (ker1 l fr), 0) ((((pathE l fr to).1.drop 1).dropLast).map (ker1 l))
end Go.Proofs.YtceaamdomkjmlaaGreatDoor
/-
  Plain laws of routing: step by step, and what arrives in an interval.
-/
namespace Go.Proofs.YtceaamdomkjmlaaGreatDoor
open Go.RowKit Go.Sl Go.Num
theorem cv_last (g : Nat → Rat) : ∀ (t : Nat) (f : Nat → Rat), cv f g (t + 1) = f (t + 1) * g 0 + cv f (fun i => g (i + 1)) t
  | 0, f => by rw [cv, cv, cv]; grind
  | t + 1, f => by rw [cv, cv_last g t, cv]; grind
theorem cv_comm (g : Nat → Rat) : ∀ (t : Nat) (f : Nat → Rat), cv f g t = cv g f t
  | 0, f => by rw [cv, cv]; grind
  | t + 1, f => by rw [cv, cv_last, cv_comm g t]; grind
/-- Flows that are routed through one reach after the other. -/
def stepR : List (List Int) → (Nat → Rat) → Nat → Rat
  | [], f => f
  | w :: r, f => stepR r (cv (pk w) f)
theorem stepR_eq : ∀ (r : List (List Int)) (f : Nat → Rat) (t : Nat), stepR r f t = cv (ppk r) f t
  | [], f, t => by rw [stepR, ppk, cv_one]
  | w :: r, f, t => by
    rw [stepR, stepR_eq r, ppk, ← cv_assoc]
    exact cv_congr (fun _ => rfl) t fun i => cv_comm _ i _
/-- The sum over n ticks from one on. -/
def rS (g : Nat → Rat) : Nat → Nat → Rat
  | _, 0 => 0
  | f, n + 1 => g f + rS g (f + 1) n
theorem rS_congr {g h : Nat → Rat} : ∀ (n f : Nat), (∀ t, f ≤ t → t < f + n → g t = h t) → rS g f n = rS h f n
  | 0, _, _ => rfl
  | n + 1, f, H => by rw [rS, rS, H f (by omega) (by omega), rS_congr n (f + 1) fun t h1 h2 => H t (by omega) (by omega)]
theorem rS_add (g h : Nat → Rat) : ∀ (n f : Nat), rS (fun t => g t + h t) f n = rS g f n + rS h f n
  | 0, _ => by simp [rS, Rat.add_zero]
  | n + 1, f => by rw [rS, rS, rS, rS_add g h n]; grind
theorem rS_mul (c : Rat) (g : Nat → Rat) : ∀ (n f : Nat), rS (fun t => c * g t) f n = c * rS g f n
  | 0, _ => by rw [rS, rS]; grind
  | n + 1, f => by rw [rS, rS, rS_mul c g n]; grind
theorem rS_last (g : Nat → Rat) : ∀ (n f : Nat), rS g f (n + 1) = rS g f n + g (f + n)
  | 0, f => by rw [rS, rS, rS, Nat.add_zero]; grind
  | n + 1, f => by rw [rS, rS_last g n (f + 1), rS, show f + 1 + n = f + (n + 1) by omega]; grind
theorem rS_zero : ∀ (n f : Nat), rS (fun _ => 0) f n = 0
  | 0, _ => rfl
  | n + 1, f => by rw [rS, rS_zero n]; grind
theorem cv_rS (p : Nat → Rat) : ∀ (t : Nat) (f : Nat → Rat), cv f p t = rS (fun s => f s * p (t - s)) 0 (t + 1)
  | 0, f => by rw [cv, rS, rS]; grind
  | t + 1, f => by
    rw [cv, cv_rS p t]
    have : ∀ (n k : Nat), rS (fun s => f (s + 1) * p (t - s)) k n = rS (fun s => f s * p (t + 1 - s)) (k + 1) n := fun n => by
      induction n with
      | zero => intro k; rfl
      | succ n ih => intro k; rw [rS, rS, ih, show t + 1 - (k + 1) = t - k by omega]
    rw [this (t + 1) 0]
    rfl
end Go.Proofs.YtceaamdomkjmlaaGreatDoor
/-
  Plain laws of rivers: basins.
-/
namespace Go.Proofs.YtceaamdomkjmlaaGreatDoor
open Go.RowKit Go.Sl Go.Num
theorem mem_above {l : List Rch} {g u : Int} : u ∈ aboveL l g ↔ 0 ≤ u ∧ u < l.length ∧ dnOf l u = g := by
  rw [aboveL, List.mem_map]
  constructor
  · rintro ⟨k, hk, rfl⟩
    rw [List.mem_filter, List.mem_range, decide_eq_true_eq] at hk
    exact ⟨by omega, by omega, hk.2⟩
  · rintro ⟨h1, h2, h3⟩
    exact ⟨u.toNat, List.mem_filter.2 ⟨List.mem_range.2 (by omega), decide_eq_true (by rw [Int.toNat_of_nonneg h1]; exact h3)⟩, Int.toNat_of_nonneg h1⟩
theorem sorted_range (p : Nat → Bool) (n : Nat) : (((List.range n).filter p).map fun k : Nat => (k : Int)).Pairwise (· < ·) := by
  rw [List.pairwise_map]
  refine List.Pairwise.imp (R := (· < ·)) (fun {a b} h => by omega) ?_
  exact List.Pairwise.filter _ List.pairwise_lt_range
theorem nodup_lt {L : List Int} (h : L.Pairwise (· < ·)) : L.Nodup := h.imp fun {a b} h e => by omega
theorem above_sorted (l : List Rch) (g : Int) : (aboveL l g).Pairwise (· < ·) := sorted_range _ _
/-- All gauges that are above one, from k levels. -/
def basR (l : List Rch) : Nat → Int → List Int
  | 0, _ => []
  | k + 1, g => (aboveL l g).flatMap fun u => u :: basR l k u
theorem mem_basR {l : List Rch} (h : Riv l) : ∀ (k : Nat) {g x : Int}, 0 ≤ g → (x ∈ basR l k g ↔ 0 ≤ x ∧ x < l.length ∧ ∃ d, 1 ≤ d ∧ d ≤ k ∧ itr l d x = g)
  | 0, g, x, _ => by
    rw [basR]
    exact ⟨fun h => by (cases h), fun ⟨_, _, d, h1, h2, _⟩ => by omega⟩
  | k + 1, g, x, hg => by
    rw [basR, List.mem_flatMap]
    constructor
    · rintro ⟨u, hu, hx⟩
      obtain ⟨h1, h2, h3⟩ := mem_above.1 hu
      rcases List.mem_cons.1 hx with rfl | hx
      · exact ⟨h1, h2, 1, Nat.le_refl _, by omega, h3⟩
      · obtain ⟨h4, h5, d, h6, h7, h8⟩ := (mem_basR h k h1).1 hx
        exact ⟨h4, h5, d + 1, by omega, by omega, by rw [itr_succ, h8, h3]⟩
    · rintro ⟨h1, h2, d, h3, h4, h5⟩
      obtain ⟨e, rfl⟩ : ∃ e, d = e + 1 := ⟨d - 1, by omega⟩
      rw [itr_succ] at h5
      have h6 : 0 ≤ itr l e x := by
        rcases Int.lt_or_le (itr l e x) 0 with h7 | h7
        · rw [dnOf_neg h7] at h5; omega
        · exact h7
      have h7 := (h.in_ e h2 (by omega)).2
      refine ⟨itr l e x, mem_above.2 ⟨h6, h7, h5⟩, ?_⟩
      rcases Nat.eq_zero_or_pos e with rfl | he
      · exact List.mem_cons_self ..
      · exact List.mem_cons_of_mem _ ((mem_basR h k h6).2 ⟨h1, h2, e, he, by omega, rfl⟩)
theorem nodup_basR {l : List Rch} (h : Riv l) : ∀ (k : Nat) {g : Int}, 0 ≤ g → (basR l k g).Nodup
  | 0, _, _ => List.nodup_nil
  | k + 1, g, hg => by
    rw [basR, List.Nodup, List.pairwise_flatMap]
    have hd : ∀ u ∈ aboveL l g, ∀ x ∈ u :: basR l k u, ∃ e, itr l e x = u ∧ 0 ≤ x ∧ x < l.length ∧ 0 ≤ u := fun u hu x hx => by
      obtain ⟨h1, h2, h3⟩ := mem_above.1 hu
      rcases List.mem_cons.1 hx with rfl | hx
      · exact ⟨0, rfl, h1, h2, h1⟩
      · obtain ⟨h4, h5, d, h6, h7, h8⟩ := (mem_basR h k h1).1 hx
        exact ⟨d, h8, h4, h5, h1⟩
    constructor
    · intro u hu
      obtain ⟨h1, h2, h3⟩ := mem_above.1 hu
      refine List.pairwise_cons.2 ⟨fun x hx e => ?_, nodup_basR h k h1⟩
      subst e
      obtain ⟨h4, h5, d, h6, h7, h8⟩ := (mem_basR h k h1).1 hx
      have := h.inj h5 (by omega) (i := d) (j := 0) (by rw [h8]; rfl) (by omega)
      omega
    · refine (nodup_lt (above_sorted l g)).imp_of_mem fun {u v} hu hv huv x hx y hy e => ?_
      subst e
      obtain ⟨e1, k1, k2, k3, k4⟩ := hd u hu x hx
      obtain ⟨e2, m1, m2, m3, m4⟩ := hd v hv x hy
      obtain ⟨_, u2, u3⟩ := mem_above.1 hu
      obtain ⟨_, v2, v3⟩ := mem_above.1 hv
      have q1 := h.dpt_itr e1 k3 (by omega) (by omega)
      have q2 := h.dpt_itr e2 k3 (by omega) (by omega)
      have q3 := h.ddn k4 u2
      have q4 := h.ddn m4 v2
      rw [u3] at q3
      rw [v3] at q4
      rw [k1] at q1
      rw [m1] at q2
      have : e1 = e2 := by omega
      subst this
      exact huv (k1.symm.trans m1)
/-- The basin of a gauge, in order. -/
def basinL (l : List Rch) (g : Int) : List Int := ((List.range l.length).filter fun k : Nat => decide ((k : Int) ≠ g) && (pathF l g (l.length + 1) k).isSome).map fun k : Nat => (k : Int)
theorem mem_basin {l : List Rch} (h : Riv l) {g x : Int} (hg : 0 ≤ g) : x ∈ basinL l g ↔ 0 ≤ x ∧ x < l.length ∧ ∃ d, 1 ≤ d ∧ itr l d x = g := by
  rw [basinL, List.mem_map]
  constructor
  · rintro ⟨k, hk, rfl⟩
    rw [List.mem_filter, List.mem_range, Bool.and_eq_true, decide_eq_true_eq] at hk
    obtain ⟨h1, h2, h3⟩ := hk
    rcases h.path_iff (g := (k : Int)) ⟨by omega, by omega⟩ hg with ⟨d, hd, _⟩ | ⟨_, hn⟩
    · refine ⟨by omega, by omega, d, ?_, hd⟩
      rcases Nat.eq_zero_or_pos d with rfl | h4
      · exact absurd hd h2
      · exact h4
    · rw [hn] at h3; cases h3
  · rintro ⟨h1, h2, d, h3, h4⟩
    refine ⟨x.toNat, List.mem_filter.2 ⟨List.mem_range.2 (by omega), ?_⟩, Int.toNat_of_nonneg h1⟩
    rw [Int.toNat_of_nonneg h1, h.path ⟨h1, h2⟩ hg h4, Option.isSome_some, Bool.and_true]
    refine decide_eq_true fun e => ?_
    subst e
    have := h.inj h2 (by omega) (i := d) (j := 0) (by rw [h4]; rfl) (by omega)
    omega
theorem basin_sorted (l : List Rch) (g : Int) : (basinL l g).Pairwise (· < ·) := sorted_range _ _
theorem basin_perm {l : List Rch} (h : Riv l) {g : Int} (hg : 0 ≤ g) : (basR l l.length g).Perm (basinL l g) := by
  refine (List.perm_ext_iff_of_nodup (nodup_basR h _ hg) (nodup_lt (basin_sorted l g))).2 fun x => ?_
  rw [mem_basR h _ hg, mem_basin h hg]
  constructor
  · rintro ⟨h1, h2, d, h3, _, h5⟩; exact ⟨h1, h2, d, h3, h5⟩
  · rintro ⟨h1, h2, d, h3, h5⟩
    refine ⟨h1, h2, d, h3, ?_, h5⟩
    have h6 := h.dep h2
    have h7 := h.dpt_itr d h2 (by omega) (by omega)
    omega
/-- A sorted list of these gauges is the basin. -/
theorem basin_eq {l : List Rch} (h : Riv l) {g : Int} (hg : 0 ≤ g) {L : List Int} (hp : L.Perm (basR l l.length g)) (hs : L.Pairwise (· ≤ ·)) : L = basinL l g :=
  List.Perm.eq_of_pairwise (le := (· ≤ ·)) (fun a b _ _ h1 h2 => Int.le_antisymm h1 h2) hs ((basin_sorted l g).imp fun {a b} h => by omega) (hp.trans (basin_perm h hg))
end Go.Proofs.YtceaamdomkjmlaaGreatDoor
/-
  Plain laws of rivers: an order in which each gauge comes before its way down.
-/
namespace Go.Proofs.YtceaamdomkjmlaaGreatDoor
open Go.RowKit Go.Sl Go.Num
def freeB (l : List Rch) (out : List Int) (g : Nat) : Bool := !out.contains (g : Int) && (aboveL l g).all fun u => out.contains u
def nextO (l : List Rch) (out : List Int) : Option Nat := (List.range l.length).find? (freeB l out)
def ordF (l : List Rch) : Nat → List Int → List Int
  | 0, out => out
  | k + 1, out => match nextO l out with
    | some g => ordF l k (out ++ [(g : Int)])
    | none => ordF l k (out ++ [-1])
structure Ordd (l : List Rch) (out : List Int) : Prop where
  nd : out.Nodup
  rng : ∀ x ∈ out, 0 ≤ x ∧ x < l.length
  up : ∀ p (hp : p < out.length), ∀ u ∈ aboveL l out[p], u ∈ out.take p
theorem all_len : ∀ (n : Nat) (L : List Int), (∀ g : Nat, g < n → (g : Int) ∈ L) → n ≤ L.length
  | 0, _, _ => Nat.zero_le _
  | n + 1, L, h => by
    have h1 := h n (by omega)
    have h2 := all_len n (L.erase (n : Int)) fun g hg => (List.mem_erase_of_ne (by omega)).2 (h g (by omega))
    rw [List.length_erase_of_mem h1] at h2
    have := List.length_pos_of_mem h1
    omega
theorem some_left {n : Nat} {L : List Int} (hl : L.length < n) : ∃ g : Nat, g < n ∧ (g : Int) ∉ L := by
  by_cases hc : ∃ g : Nat, g < n ∧ (g : Int) ∉ L
  · exact hc
  · have hall : ∀ g : Nat, g < n → (g : Int) ∈ L := fun g hg => by
      by_cases h : (g : Int) ∈ L
      · exact h
      · exact absurd ⟨g, hg, h⟩ hc
    have := all_len n L hall
    omega
theorem free_left {l : List Rch} (h : Riv l) {out : List Int} : ∀ (m g : Nat), g < l.length → (g : Int) ∉ out → l.length - dpt l g ≤ m → ∃ k, k < l.length ∧ freeB l out k = true
  | m, g, h1, h2, h3 => by
    by_cases hf : freeB l out g = true
    · exact ⟨g, h1, hf⟩
    · rw [freeB, Bool.and_eq_true, Bool.not_eq_true', not_and] at hf
      have h4 := hf (by rw [List.contains_eq_mem]; exact decide_eq_false h2)
      rw [List.all_eq_true] at h4
      have h5 : ∃ u ∈ aboveL l g, u ∉ out := by
        by_cases hc : ∃ u ∈ aboveL l g, u ∉ out
        · exact hc
        · exact absurd (fun u hu => by
            rw [List.contains_eq_mem]
            refine decide_eq_true ?_
            by_cases h6 : u ∈ out
            · exact h6
            · exact absurd ⟨u, hu, h6⟩ hc) h4
      obtain ⟨u, hu, hn⟩ := h5
      obtain ⟨u1, u2, u3⟩ := mem_above.1 hu
      have h6 := h.ddn u1 u2
      have h7 := h.dep u2
      rw [u3] at h6
      obtain ⟨k, rfl⟩ : ∃ k : Nat, u = k := ⟨u.toNat, by omega⟩
      cases m with
      | zero => omega
      | succ m => exact free_left h m k (by omega) hn (by omega)
theorem next_some {l : List Rch} (h : Riv l) {out : List Int} (hl : out.length < l.length) : ∃ g, nextO l out = some g ∧ g < l.length ∧ freeB l out g = true := by
  obtain ⟨g, h1, h2⟩ := some_left (n := l.length) hl
  obtain ⟨k, h3, h4⟩ := free_left h _ g h1 h2 (Nat.le_refl _)
  cases hf : nextO l out with
  | none =>
    rw [nextO, List.find?_eq_none] at hf
    exact absurd h4 (hf k (List.mem_range.2 h3))
  | some j => exact ⟨j, rfl, List.mem_range.1 (List.mem_of_find?_eq_some hf), List.find?_some hf⟩
theorem Ordd.snoc {l : List Rch} {out : List Int} (h : Ordd l out) {g : Nat} (hg : g < l.length) (hf : freeB l out g = true) : Ordd l (out ++ [(g : Int)]) := by
  rw [freeB, Bool.and_eq_true, Bool.not_eq_true', List.contains_eq_mem, decide_eq_false_iff_not, List.all_eq_true] at hf
  refine ⟨?_, fun x hx => ?_, fun p hp u hu => ?_⟩
  · rw [List.Nodup, List.pairwise_append]
    refine ⟨h.nd, List.pairwise_singleton .., fun a ha b hb e => ?_⟩
    rw [List.mem_singleton] at hb
    subst hb e
    exact hf.1 ha
  · rcases List.mem_append.1 hx with hx | hx
    · exact h.rng x hx
    · rw [List.mem_singleton.1 hx]; omega
  · rw [List.length_append, List.length_singleton] at hp
    rcases Nat.lt_or_ge p out.length with h1 | h1
    · rw [List.getElem_append_left h1] at hu
      rw [List.take_append_of_le_length (by omega)]
      exact h.up p h1 u hu
    · obtain rfl : p = out.length := by omega
      rw [List.getElem_append_right (by omega)] at hu
      simp only [Nat.sub_self, List.getElem_cons_zero] at hu
      rw [List.take_left]
      have := hf.2 u hu
      rw [List.contains_eq_mem, decide_eq_true_eq] at this
      exact this
theorem ordF_ok {l : List Rch} (h : Riv l) : ∀ (k : Nat) (out : List Int), Ordd l out → out.length + k = l.length → Ordd l (ordF l k out) ∧ (ordF l k out).length = l.length
  | 0, out, h1, h2 => ⟨h1, by rw [ordF]; omega⟩
  | k + 1, out, h1, h2 => by
    obtain ⟨g, h3, h4, h5⟩ := next_some h (out := out) (by omega)
    rw [ordF, h3]
    exact ordF_ok h k _ (h1.snoc h4 h5) (by rw [List.length_append, List.length_singleton]; omega)
def ordL (l : List Rch) : List Int := ordF l l.length []
theorem ord_ok {l : List Rch} (h : Riv l) : Ordd l (ordL l) ∧ (ordL l).length = l.length := ordF_ok h _ [] ⟨List.nodup_nil, fun x hx => by (cases hx), fun p hp => absurd hp (Nat.not_lt_zero _)⟩ (by rw [List.length_nil, Nat.zero_add])
end Go.Proofs.YtceaamdomkjmlaaGreatDoor
/-
  Plain laws of what arrives: weights by ticks.
-/
namespace Go.Proofs.YtceaamdomkjmlaaGreatDoor
open Go.RowKit Go.Sl Go.Num
/-- The weights that arrive in an interval of what passes at a tick. -/
def wIn : List Int → Int → Int → Int → Int
  | [], _, _, _ => 0
  | w :: r, fr, to, t => (if fr ≤ t ∧ t < to then w else 0) + wIn r fr to (t + 1)
theorem wIn_eq {fr to : Int} (h : fr ≤ to) : ∀ (k : List Int) (t : Int), wIn k fr to t = sumL (k.take (to - t).toNat) - sumL (k.take (fr - t).toNat)
  | [], _ => by rw [wIn, List.take_nil, List.take_nil, sumL]; rfl
  | w :: r, t => by
    rw [wIn, wIn_eq h r (t + 1)]
    by_cases h1 : t < to
    · rw [show (to - t).toNat = (to - (t + 1)).toNat + 1 by omega, List.take_succ_cons, sumL]
      by_cases h2 : fr ≤ t
      · rw [if_pos ⟨h2, h1⟩, show (fr - t).toNat = 0 by omega, show (fr - (t + 1)).toNat = 0 by omega, List.take_zero, List.take_zero, sumL]; omega
      · rw [if_neg (fun e => h2 e.1), show (fr - t).toNat = (fr - (t + 1)).toNat + 1 by omega, List.take_succ_cons, sumL]; omega
    · rw [if_neg (fun e => h1 e.2), show (to - t).toNat = 0 by omega, show (fr - t).toNat = 0 by omega, show (to - (t + 1)).toNat = 0 by omega, show (fr - (t + 1)).toNat = 0 by omega]
      rfl
theorem wIn_nn {fr to : Int} : ∀ (k : List Int) (t : Int), (∀ w ∈ k, 0 ≤ w) → 0 ≤ wIn k fr to t ∧ wIn k fr to t ≤ sumL k
  | [], _, _ => ⟨Int.le_refl _, Int.le_refl _⟩
  | w :: r, t, h => by
    have h1 := wIn_nn (fr := fr) (to := to) r (t + 1) fun w hw => h w (List.mem_cons_of_mem _ hw)
    have h2 := h w (List.mem_cons_self ..)
    rw [wIn, sumL]
    split <;> omega
theorem wIn_late {fr to : Int} : ∀ (k : List Int) (t : Int), to ≤ t → wIn k fr to t = 0
  | [], _, _ => rfl
  | w :: r, t, h => by rw [wIn, wIn_late r (t + 1) (by omega), if_neg (by omega)]; rfl
theorem wIn_early {fr to : Int} : ∀ (k : List Int) (t : Int), t + k.length ≤ fr → wIn k fr to t = 0
  | [], _, _ => rfl
  | w :: r, t, h => by
    rw [List.length_cons] at h
    rw [wIn, wIn_early r (t + 1) (by omega), if_neg (by omega)]; rfl
/-! ### ticks with one weight together -/
abbrev Prt := Int × Int × Int
def addP (out : List Prt) (t w : Int) : List Prt := if w = 0 then out else match out.getLast? with
  | none => [(t, t + 1, w)]
  | some p => if p.2.1 = t ∧ p.2.2 = w then out.dropLast ++ [(p.1, t + 1, w)] else out ++ [(t, t + 1, w)]
def arrF (W : Int → Int) : Nat → Int → List Prt → List Prt
  | 0, _, out => out
  | k + 1, t, out => arrF W k (t + 1) (addP out t (W t))
theorem arrF_zero {W : Int → Int} : ∀ (k : Nat) (t : Int) (out : List Prt), (∀ s, t ≤ s → s < t + k → W s = 0) → arrF W k t out = out
  | 0, _, _, _ => rfl
  | k + 1, t, out, h => by
    rw [arrF, addP, if_pos (h t (Int.le_refl _) (by omega))]
    exact arrF_zero k (t + 1) out fun s h1 h2 => h s (by omega) (by omega)
theorem arrF_add {W : Int → Int} : ∀ (j k : Nat) (t : Int) (out : List Prt), arrF W (j + k) t out = arrF W k (t + j) (arrF W j t out)
  | 0, k, t, out => by rw [Nat.zero_add, arrF, Int.natCast_zero, Int.add_zero]
  | j + 1, k, t, out => by
    rw [show j + 1 + k = (j + k) + 1 by omega, arrF, arrF_add j k, arrF, show t + 1 + (j : Int) = t + ((j + 1 : Nat) : Int) by omega]
def t0Of (k : List Int) (fr : Int) : Int := max 0 (fr - k.length + 1)
/-- The parts that arrive in an interval. -/
def arrL (k : List Int) (fr to : Int) : List Prt := arrF (wIn k fr to) (to - t0Of k fr).toNat (t0Of k fr) []
/-- The weight of a tick in some parts. -/
def wAt (out : List Prt) (t : Int) : Int := match out.find? fun p => decide (p.1 ≤ t) && decide (t < p.2.1) with
  | some p => p.2.2
  | none => 0
structure Prts (W : Int → Int) (t0 t : Int) (out : List Prt) : Prop where
  ord : out.Pairwise fun p q => p.2.1 ≤ q.1
  mem : ∀ p ∈ out, t0 ≤ p.1 ∧ p.1 < p.2.1 ∧ p.2.1 ≤ t ∧ ∀ s, p.1 ≤ s → s < p.2.1 → W s = p.2.2 ∧ p.2.2 ≠ 0
  at_ : ∀ s, t0 ≤ s → s < t → W s ≠ 0 → ∃ p ∈ out, p.1 ≤ s ∧ s < p.2.1
theorem Prts.nil (W : Int → Int) (t : Int) : Prts W t t [] := ⟨.nil, fun p h => by (cases h), fun s h1 h2 => by omega⟩
theorem Prts.add {W : Int → Int} {t0 t : Int} {out : List Prt} (h : Prts W t0 t out) (h0 : t0 ≤ t) : Prts W t0 (t + 1) (addP out t (W t)) := by
  rw [addP]
  by_cases hw : W t = 0
  · rw [if_pos hw]
    refine ⟨h.ord, fun p hp => ?_, fun s h1 h2 h3 => ?_⟩
    · have := h.mem p hp; exact ⟨this.1, this.2.1, by omega, this.2.2.2⟩
    · refine h.at_ s h1 ?_ h3
      by_cases e : s = t
      · subst e; exact absurd hw h3
      · omega
  rw [if_neg hw]
  have hnew : ∀ o : List Prt, Prts W t0 t o → Prts W t0 (t + 1) (o ++ [(t, t + 1, W t)]) := fun o h => by
    refine ⟨?_, fun p hp => ?_, fun s h1 h2 h3 => ?_⟩
    · rw [List.pairwise_append]
      refine ⟨h.ord, List.pairwise_singleton .., fun a ha b hb => ?_⟩
      rw [List.mem_singleton.1 hb]
      exact (h.mem a ha).2.2.1
    · rcases List.mem_append.1 hp with hp | hp
      · have := h.mem p hp; exact ⟨this.1, this.2.1, by omega, this.2.2.2⟩
      · rw [List.mem_singleton.1 hp]
        refine ⟨h0, by dsimp only; omega, Int.le_refl _, fun s h1 h2 => ?_⟩
        dsimp only at h1 h2 ⊢
        obtain rfl : s = t := by omega
        exact ⟨rfl, hw⟩
    · by_cases e : s = t
      · exact ⟨_, List.mem_append_right _ (List.mem_singleton.2 rfl), by dsimp only; omega, by dsimp only; omega⟩
      · obtain ⟨p, hp, h4⟩ := h.at_ s h1 (by omega) h3
        exact ⟨p, List.mem_append_left _ hp, h4⟩
  rcases nil_or_snoc out with rfl | ⟨o, p, rfl⟩
  · exact hnew [] h
  · rw [List.getLast?_concat]
    dsimp only
    by_cases hp : p.2.1 = t ∧ p.2.2 = W t
    · rw [if_pos hp, List.dropLast_concat]
      have hord := List.pairwise_append.1 h.ord
      have hpm := h.mem p (List.mem_append_right _ (List.mem_singleton.2 rfl))
      refine ⟨?_, fun q hq => ?_, fun s h1 h2 h3 => ?_⟩
      · rw [List.pairwise_append]
        refine ⟨hord.1, List.pairwise_singleton .., fun a ha b hb => ?_⟩
        rw [List.mem_singleton.1 hb]
        exact hord.2.2 a ha p (List.mem_singleton.2 rfl)
      · rcases List.mem_append.1 hq with hq | hq
        · have := h.mem q (List.mem_append_left _ hq); exact ⟨this.1, this.2.1, by omega, this.2.2.2⟩
        · rw [List.mem_singleton.1 hq]
          refine ⟨hpm.1, by dsimp only; omega, Int.le_refl _, fun s h1 h2 => ?_⟩
          dsimp only at h1 h2 ⊢
          by_cases e : s = t
          · subst e; exact ⟨rfl, hw⟩
          · have := hpm.2.2.2 s h1 (by omega)
            exact ⟨this.1.trans hp.2, hw⟩
      · by_cases e : s = t
        · exact ⟨_, List.mem_append_right _ (List.mem_singleton.2 rfl), by dsimp only; omega, by dsimp only; omega⟩
        · obtain ⟨q, hq, h4⟩ := h.at_ s h1 (by omega) h3
          rcases List.mem_append.1 hq with hq | hq
          · exact ⟨q, List.mem_append_left _ hq, h4⟩
          · rw [List.mem_singleton.1 hq] at h4
            exact ⟨_, List.mem_append_right _ (List.mem_singleton.2 rfl), h4.1, by dsimp only; omega⟩
    · rw [if_neg hp]; exact hnew _ h
theorem arrF_ok {W : Int → Int} {t0 : Int} : ∀ (k : Nat) (t : Int) (out : List Prt), t0 ≤ t → Prts W t0 t out → Prts W t0 (t + k) (arrF W k t out)
  | 0, t, out, _, h => by rw [Int.natCast_zero, Int.add_zero]; exact h
  | k + 1, t, out, h0, h => by
    rw [arrF, show t + ((k + 1 : Nat) : Int) = t + 1 + k by omega]
    exact arrF_ok k (t + 1) _ (by omega) (h.add h0)
theorem Prts.wAt {W : Int → Int} {t0 t : Int} {out : List Prt} (h : Prts W t0 t out) (s : Int) : Proofs.YtceaamdomkjmlaaGreatDoor.wAt out s = if t0 ≤ s ∧ s < t then W s else 0 := by
  rw [Proofs.YtceaamdomkjmlaaGreatDoor.wAt]
  cases hf : out.find? fun p => decide (p.1 ≤ s) && decide (s < p.2.1) with
  | none =>
    rw [List.find?_eq_none] at hf
    dsimp only
    split
    · rename_i h1
      by_cases h2 : W s = 0
      · exact h2.symm
      · obtain ⟨p, hp, h3, h4⟩ := h.at_ s h1.1 h1.2 h2
        exact absurd (by rw [decide_eq_true h3, decide_eq_true h4]; rfl) (hf p hp)
    · rfl
  | some p =>
    have h1 := List.mem_of_find?_eq_some hf
    have h2 := List.find?_some hf
    rw [Bool.and_eq_true, decide_eq_true_eq, decide_eq_true_eq] at h2
    have h3 := h.mem p h1
    dsimp only
    rw [if_pos ⟨by omega, by omega⟩]
    exact (h3.2.2.2 s h2.1 h2.2).1.symm
theorem arrL_ok {k : List Int} {fr to : Int} : ∃ t, Prts (wIn k fr to) (t0Of k fr) t (arrL k fr to) ∧ (to ≤ t ∧ (t0Of k fr ≤ to → t = to)) := by
  refine ⟨t0Of k fr + (to - t0Of k fr).toNat, arrF_ok _ _ _ (Int.le_refl _) (Prts.nil _ _), by omega, fun h => by omega⟩
end Go.Proofs.YtceaamdomkjmlaaGreatDoor
/-
  Plain laws of routing: what arrives in an interval is the sum of the flows, each with its weight.
-/
namespace Go.Proofs.YtceaamdomkjmlaaGreatDoor
open Go.RowKit Go.Sl Go.Num
theorem rS_shift (g : Nat → Rat) : ∀ (n f : Nat), rS g (f + 1) n = rS (fun t => g (t + 1)) f n
  | 0, _ => rfl
  | n + 1, f => by rw [rS, rS, rS_shift g n]
theorem rS_tail {g : Nat → Rat} {n : Nat} (h : ∀ t, n ≤ t → g t = 0) : ∀ d, rS g 0 (n + d) = rS g 0 n
  | 0 => rfl
  | d + 1 => by rw [← Nat.add_assoc, rS_last, rS_tail h d, Nat.zero_add, h _ (by omega)]; grind
def fsq (l : List Rat) (i : Nat) : Rat := l.getD i 0
theorem fsq_zero (x : Rat) (l : List Rat) : fsq (x :: l) 0 = x := rfl
theorem fsq_succ (x : Rat) (l : List Rat) (i : Nat) : fsq (x :: l) (i + 1) = fsq l i := rfl
def flS (p : Nat → Rat) (n : Nat) : List Rat → (Nat → Rat) → Rat
  | [], _ => 0
  | x :: r, I => x * rS (fun i => I i * p i) 0 n + flS p n r fun i => I (i + 1)
theorem sum_cv {p : Nat → Rat} {n : Nat} (hp : ∀ i, n ≤ i → p i = 0) : ∀ (fl : List Rat) (I : Nat → Rat) (N : Nat), (0 < fl.length → fl.length + n ≤ N + 1) → rS (fun t => I t * cv (fsq fl) p t) 0 N = flS p n fl I
  | [], I, N, _ => by
    rw [flS, rS_congr (h := fun _ => 0) N 0 fun t _ _ => ?_, rS_zero]
    rw [show fsq [] = fun _ => (0 : Rat) from funext fun i => by simp [fsq], cv_zero]; grind
  | x :: r, I, N, hN => by
    have h1 := hN (by rw [List.length_cons]; omega)
    rw [List.length_cons] at h1
    rw [flS]
    rcases Nat.eq_zero_or_pos N with h0 | h0
    · -- no tick at all: there are no weights, and no further flows
      subst h0
      have hn : n = 0 := by omega
      have hr : r = [] := List.length_eq_zero_iff.1 (by omega)
      subst hn hr
      rw [rS, rS, flS]; grind
    obtain ⟨M, rfl⟩ : ∃ M, N = M + 1 := ⟨N - 1, by omega⟩
    have ih := sum_cv hp r (fun i => I (i + 1)) M fun _ => by omega
    rw [← ih, rS, rS_shift]
    have e1 : rS (fun t => I (t + 1) * cv (fsq (x :: r)) p (t + 1)) 0 M = rS (fun t => x * (I (t + 1) * p (t + 1)) + I (t + 1) * cv (fsq r) p t) 0 M := rS_congr M 0 fun t _ _ => by
      rw [cv, fsq_zero, show (fun i => fsq (x :: r) (i + 1)) = fsq r from rfl]; grind
    rw [e1, rS_add, rS_mul, cv, fsq_zero]
    have e2 : rS (fun i => I i * p i) 0 n = I 0 * p 0 + rS (fun t => I (t + 1) * p (t + 1)) 0 M := by
      have h2 := rS_tail (g := fun i => I i * p i) (n := n) (fun t ht => by rw [hp t ht]; grind) (M + 1 - n)
      rw [show n + (M + 1 - n) = M + 1 by omega] at h2
      rw [← h2, rS, rS_shift]
    rw [e2]
    grind
def ind (fr to t : Int) : Rat := if fr ≤ t ∧ t < to then 1 else 0
theorem wIn_rS {fr to : Int} : ∀ (k : List Int) (t : Int), ((wIn k fr to t : Int) : Rat) = rS (fun i : Nat => ind fr to (t + i) * sq k i) 0 k.length
  | [], _ => rfl
  | w :: r, t => by
    rw [wIn, List.length_cons, rS, rS_shift, Rat.intCast_add, wIn_rS r (t + 1)]
    congr 1
    · rw [ind, sq, co_cons_zero, Int.natCast_zero, Int.add_zero]
      split
      · grind
      · rw [Rat.intCast_zero]; grind
    · exact rS_congr _ 0 fun i _ _ => by rw [sq, sq, co_cons_succ, show t + 1 + (i : Int) = t + ((i + 1 : Nat) : Int) by omega]
/-- The part of what passes at a tick that arrives in an interval. -/
theorem part_in {k : List Int} {fr to t : Int} : ((wIn k fr to t : Int) : Rat) / ((sumL k : Int) : Rat) = rS (fun i : Nat => ind fr to (t + i) * pk k i) 0 k.length := by
  rw [wIn_rS, Rat.div_def, Rat.mul_comm, ← rS_mul]
  exact rS_congr _ 0 fun i _ _ => by rw [pk, Rat.div_def]; grind
theorem flS_eq {k : List Int} {fr to : Int} : ∀ (fl : List Rat) (t : Int), flS (pk k) k.length fl (fun i : Nat => ind fr to (t + i)) = rS (fun s : Nat => fsq fl s * (((wIn k fr to (t + s) : Int) : Rat) / ((sumL k : Int) : Rat))) 0 fl.length
  | [], _ => rfl
  | x :: r, t => by
    rw [flS, List.length_cons, rS, rS_shift, ← part_in, fsq_zero, Int.natCast_zero, Int.add_zero]
    congr 1
    have : (fun i : Nat => ind fr to (t + ((i + 1 : Nat) : Int))) = fun i : Nat => ind fr to (t + 1 + (i : Int)) := funext fun i => by rw [show t + ((i + 1 : Nat) : Int) = t + 1 + i by omega]
    rw [this, flS_eq r (t + 1)]
    exact rS_congr _ 0 fun i _ _ => by rw [fsq_succ, show t + 1 + (i : Int) = t + ((i + 1 : Nat) : Int) by omega]
theorem pk_ge {k : List Int} {i : Nat} (h : k.length ≤ i) : pk k i = 0 := by rw [pk, sq, co_ge h, Rat.intCast_zero]; grind
/-- What arrives in an interval of flows from the tick 0 on. -/
theorem arrive_sum {k : List Int} {fr to : Int} (fl : List Rat) (N : Nat) (hN : 0 < fl.length → fl.length + k.length ≤ N + 1) :
    rS (fun t : Nat => ind fr to t * cv (pk k) (fsq fl) t) 0 N = rS (fun s : Nat => fsq fl s * (((wIn k fr to s : Int) : Rat) / ((sumL k : Int) : Rat))) 0 fl.length := by
  have h1 := sum_cv (p := pk k) (n := k.length) (fun i h => pk_ge h) fl (fun i : Nat => ind fr to (0 + i)) N hN
  rw [flS_eq fl 0] at h1
  rw [rS_congr (h := fun t : Nat => ind fr to (0 + (t : Int)) * cv (fsq fl) (pk k) t) N 0 fun t _ _ => by rw [cv_comm, Int.zero_add], h1]
  exact rS_congr _ 0 fun s _ _ => by rw [Int.zero_add]
end Go.Proofs.YtceaamdomkjmlaaGreatDoor
/-
  Plain laws of rivers: the kernel along a way is that of both its parts.
-/
namespace Go.Proofs.YtceaamdomkjmlaaGreatDoor
open Go.RowKit Go.Sl Go.Num
/-- The kernels of the gauges of a way, but for the last one. -/
def kers (l : List Rch) (d : Nat) (g : Int) : List (List Int) := (List.range d).map fun i => ker1 l (itr l i g)
theorem kers_succ (l : List Rch) (d : Nat) (g : Int) : kers l (d + 1) g = ker1 l g :: kers l d (dnOf l g) := by
  rw [kers, List.range_succ_eq_map, List.map_cons, List.map_map]; rfl
theorem kers_add (l : List Rch) : ∀ (d e : Nat) (g : Int), kers l (d + e) g = kers l d g ++ kers l e (itr l d g)
  | 0, e, g => by rw [Nat.zero_add]; rfl
  | d + 1, e, g => by rw [Nat.succ_add, kers_succ, kers_add l d e, kers_succ, List.cons_append, itr]
theorem mid_steps (l : List Rch) (d : Nat) (g : Int) : (((stepsL l (d + 1) g).drop 1).dropLast).map (ker1 l) = kers l d (dnOf l g) := by
  rw [stepsL_succ, List.drop_succ_cons, List.drop_zero, stepsL, List.range_succ, List.map_append, List.map_cons, List.map_nil, List.dropLast_concat, List.map_map]
  rfl
theorem Riv.pos {l : List Rch} (h : Riv l) {g : Int} (h1 : 0 ≤ g ∧ g < l.length) (h2 : 0 ≤ dnOf l g) : Pos (ker1 l g) ∧ kerErr (ker1 l g) = 0 := by
  obtain ⟨k, rfl⟩ : ∃ k : Nat, g = k := ⟨g.toNat, by omega⟩
  have hk : k < l.length := by omega
  rw [dnOf_at hk] at h2
  rw [ker1, if_neg (by omega), Int.toNat_natCast, List.getElem?_eq_getElem hk]
  exact ⟨(ker_of (h.ker k hk h2)).pos, h.ker k hk h2⟩
theorem Riv.pathE {l : List Rch} (h : rivErr l = 0) {g to : Int} (h1 : 0 ≤ g ∧ g < l.length) (h2 : 0 ≤ to ∧ to < l.length) {d : Nat} (hd : itr l d g = to) : pathE l g to = (stepsL l d g, 0) := by
  have e1 : errG l g = 0 := by rw [errG, h, if_neg (by decide), if_neg (by omega)]
  have e2 : errG l to = 0 := by rw [errG, h, if_neg (by decide), if_neg (by omega)]
  rw [Proofs.YtceaamdomkjmlaaGreatDoor.pathE, e1, if_neg (by decide), e2, if_neg (by decide), (riv_of h).path h1 h2.1 hd]
theorem along_pk {l : List Rch} (h : rivErr l = 0) {g to : Int} (h1 : 0 ≤ g ∧ g < l.length) (h2 : 0 ≤ to ∧ to < l.length) {d : Nat} (hd : itr l d g = to) (he : (alongE l g to).2 = 0) : ∃ Y, Pos Y ∧ (alongE l g to).1 = red Y ∧ ∀ t, pk Y t = ppk (kers l d g) t := by
  have hR := riv_of h
  rw [alongE, Riv.pathE h h1 h2 hd, if_neg (fun e => e rfl)] at he ⊢
  cases d with
  | zero =>
    rw [itr] at hd
    rw [if_pos hd]
    exact ⟨[1], ⟨fun w hw => by rw [List.mem_singleton.1 hw]; decide, 1, List.mem_singleton.2 rfl, by decide⟩, by decide, fun t => by rw [pk_one]; rfl⟩
  | succ d =>
    have hne : ¬ g = to := fun e => by
      have := hR.inj h1.2 (by omega) (i := d + 1) (j := 0) (by rw [hd]; exact e.symm) (by omega)
      omega
    rw [if_neg hne] at he ⊢
    dsimp only at he ⊢
    rw [mid_steps] at he ⊢
    have hdn : 0 ≤ dnOf l g := itr_pos (l := l) (j := 1) (k := d + 1) (by rw [hd]; exact h2.1) (by omega)
    obtain ⟨Y, k1, k2, k3⟩ := foldK_ok _ _ (hR.pos h1 hdn).1 he
    exact ⟨Y, k1, k2, fun t => by rw [k3 t, kers_succ, ppk]⟩
end Go.Proofs.YtceaamdomkjmlaaGreatDoor
/-
  Plain laws of rivers: how many gauges above one still wait.
-/
namespace Go.Proofs.YtceaamdomkjmlaaGreatDoor
open Go.RowKit Go.Sl Go.Num
def wl (l : List Rch) (out : List Int) (x : Int) : Int := (((aboveL l x).filter fun u => !out.contains u).length : Nat)
theorem wl_free (l : List Rch) (out : List Int) (g : Nat) : freeB l out g = (!out.contains (g : Int) && decide (wl l out g ≤ 0)) := by
  rw [freeB]
  congr 1
  rw [Bool.eq_iff_iff, List.all_eq_true, decide_eq_true_eq, wl]
  constructor
  · intro h
    have h1 : (aboveL l g).filter (fun u => !out.contains u) = [] := List.filter_eq_nil_iff.2 fun u hu => by rw [h u hu]; decide
    rw [h1]; exact Int.le_refl _
  · intro h u hu
    have h1 : (aboveL l g).filter (fun u => !out.contains u) = [] := List.length_eq_zero_iff.1 (by omega)
    have := List.filter_eq_nil_iff.1 h1 u hu
    simpa using this
theorem filter_snoc {out : List Int} {g : Int} (hg : g ∉ out) : ∀ {L : List Int}, L.Nodup → ((L.filter fun u => !(out ++ [g]).contains u).length : Int) = (L.filter fun u => !out.contains u).length - if g ∈ L then 1 else 0
  | [], _ => by rw [if_neg (fun h => by cases h)]; rfl
  | y :: L, h => by
    have hn := List.nodup_cons.1 h
    have ih := filter_snoc hg hn.2
    rw [List.filter_cons, List.filter_cons]
    by_cases hy : y = g
    · subst hy
      rw [if_neg (by simp), if_pos (by simpa using hg), if_pos (List.mem_cons_self ..), List.length_cons, ih, if_neg hn.1]
      omega
    · have e1 : (!(out ++ [g]).contains y) = !out.contains y := by
        rw [List.contains_eq_mem, List.contains_eq_mem]
        simp [hy]
      rw [e1]
      have e2 : (g ∈ y :: L) = (g ∈ L) := by
        rw [List.mem_cons]
        exact propext ⟨fun h => h.resolve_left fun e => hy e.symm, .inr⟩
      rw [show (if g ∈ y :: L then (1 : Int) else 0) = if g ∈ L then 1 else 0 by simp only [e2]]
      split
      · rw [List.length_cons, List.length_cons]; omega
      · exact ih
theorem above_nodup (l : List Rch) (x : Int) : (aboveL l x).Nodup := (above_sorted l x).imp fun {a b} h e => by omega
theorem wl_snoc {l : List Rch} {out : List Int} {g : Nat} (hg : g < l.length) (h : (g : Int) ∉ out) (x : Int) : wl l (out ++ [(g : Int)]) x = wl l out x - if dnOf l g = x then 1 else 0 := by
  rw [wl, wl, filter_snoc h (above_nodup l x)]
  have e : ((g : Int) ∈ aboveL l x) = (dnOf l g = x) := propext (by rw [mem_above]; exact ⟨fun h => h.2.2, fun h => ⟨by omega, by omega, h⟩⟩)
  simp only [e]
/-- The count as it is reckoned over the first k gauges. -/
def wu (l : List Rch) (k : Nat) (x : Int) : Int := (((List.range k).filter fun i : Nat => decide (dnOf l i = x)).length : Nat)
theorem wu_succ (l : List Rch) (k : Nat) (x : Int) : wu l (k + 1) x = wu l k x + if dnOf l k = x then 1 else 0 := by
  rw [wu, wu, List.range_succ, List.filter_append, List.length_append, Int.natCast_add]
  congr 1
  rw [List.filter_cons]
  split
  · rename_i h
    rw [decide_eq_true_eq] at h
    rw [if_pos h]; rfl
  · rename_i h
    rw [decide_eq_true_eq] at h
    rw [if_neg h]; rfl
theorem wu_all (l : List Rch) (x : Int) : wl l [] x = wu l l.length x := by
  have h : (aboveL l x).filter (fun u => !([] : List Int).contains u) = aboveL l x := List.filter_eq_self.2 fun u _ => rfl
  rw [wl, wu, h, aboveL, List.length_map]
theorem wl_nn (l : List Rch) (out : List Int) (x : Int) : 0 ≤ wl l out x := Int.natCast_nonneg _
theorem wl_le (l : List Rch) (out : List Int) (x : Int) : wl l out x ≤ l.length := by
  have h1 := List.length_filter_le (fun u => !out.contains u) (aboveL l x)
  have h2 : (aboveL l x).length ≤ l.length := by
    rw [aboveL, List.length_map]
    have := List.length_filter_le (fun k : Nat => decide (dnOf l k = x)) (List.range l.length)
    rwa [List.length_range] at this
  rw [wl]; omega
end Go.Proofs.YtceaamdomkjmlaaGreatDoor
/-
  Plain laws of products: what is reckoned on the way stays small.
-/
namespace Go.Proofs.YtceaamdomkjmlaaGreatDoor
open Go.Num
theorem row_bd {x : Int} {i j : Nat} {o y O : List Int} (hO : rowF i x j o (y.drop j) = O) (hx : 0 ≤ x) (hy : ∀ w ∈ y, 0 ≤ w) (ho : ∀ w ∈ o, 0 ≤ w) (hl : i + y.length ≤ o.length) (hj : j < y.length) : 0 ≤ x * y[j] ∧ 0 ≤ co o (i + j) ∧ co o (i + j) + x * y[j] ≤ sumL O := by
  have h1 := rowF_sum i x (y.drop j) j o (by rw [List.length_drop]; omega)
  rw [hO, List.drop_eq_getElem_cons hj, sumL, Int.mul_add] at h1
  have h2 := sumL_nn (k := y.drop (j + 1)) fun w hw => hy w (List.mem_of_mem_drop hw)
  have h3 := Int.mul_nonneg hx h2
  have h4 := Int.mul_nonneg hx (hy _ (List.getElem_mem hj))
  have h5 : co o (i + j) = o[i + j] := co_lt (by omega)
  have h6 := elem_le ho _ (List.getElem_mem (show i + j < o.length by omega))
  have h7 := ho _ (List.getElem_mem (show i + j < o.length by omega))
  rw [← h5] at h6 h7
  exact ⟨h4, h7, by omega⟩
theorem row_step {x : Int} {i j : Nat} {o y O : List Int} (hO : rowF i x j o (y.drop j) = O) (hj : j < y.length) : rowF i x (j + 1) (o.set (i + j) (co o (i + j) + x * y[j])) (y.drop (j + 1)) = O := by
  rw [← hO, List.drop_eq_getElem_cons hj, rowF]
theorem conv_step {i : Nat} {o x y Z : List Int} (hZ : convF i o (x.drop i) y = Z) (hi : i < x.length) : convF (i + 1) (rowF i x[i] 0 o y) (x.drop (i + 1)) y = Z := by
  rw [← hZ, List.drop_eq_getElem_cons hi, convF]
theorem conv_bd {i : Nat} {o x y Z : List Int} (hZ : convF i o (x.drop i) y = Z) (hx : ∀ w ∈ x, 0 ≤ w) (hy : ∀ w ∈ y, 0 ≤ w) (h0 : 0 < y.length) (hl : o.length + 1 = x.length + y.length) : sumL o ≤ sumL Z := by
  have h1 := convF_sum (x.drop i) i o y h0 (fun h => by rw [List.length_drop] at h ⊢; omega)
  rw [hZ] at h1
  have := Int.mul_nonneg (sumL_nn (k := x.drop i) fun w hw => hx w (List.mem_of_mem_drop hw)) (sumL_nn hy)
  omega
theorem quo_mul {a b c : Int} (ha : 0 < a) (hb : 0 < b) (h : ¬ c / b < a) : a * b ≤ c := by
  have h1 : a ≤ c / b := by omega
  exact (Int.le_ediv_iff_mul_le hb).1 h1
end Go.Proofs.YtceaamdomkjmlaaGreatDoor
/-
  Contracts of kernels: divisor, total, the error.
-/
namespace Go.Proofs.YtceaamdomkjmlaaGreatDoor
open Go.RowKit Go.Sl Go.Num
theorem gcd_step (x y : Nat) : Nat.gcd y (x % y) = Nat.gcd x y := by rw [Nat.gcd_comm y, ← Nat.gcd_rec, Nat.gcd_comm]
theorem divisor_holds (a b : Nat) (w : World) (ha : a ≤ 999999999999999) (hb : b ≤ 999999999999999) :
    Calls Tryz.prog 86 #[.int .i64 a, .int .i64 b] w fun e w' => e = .returned (.int .i64 (Nat.gcd a b : Nat)) ∧ Below w.heap.size w w' := by
  generalize hG : Nat.gcd a b = W
  refine enterA [(0, .int .i64 a), (1, .int .i64 b)] Tryz.func86 Tryz.ntmps86 ?_
  all_goals (refine go ?_; and_intros <;> (try exact trivial) <;> repeat (first | refine fun (Bk : Nat) => ?_ | intro h))
  refine J.loop (c := _) ((a, b) : Nat × Nat) (fun s => s.2) (fun s => [(0, .int .i64 s.1), (1, .int .i64 s.2)]) (fun s => []) (fun s => Nat.gcd s.1 s.2 = W ∧ s.1 ≤ 999999999999999 ∧ s.2 ≤ 999999999999999) ?_ sbT sbL ?_
  · exact ⟨hG, ha, hb⟩
  intro ⟨x, y⟩ ⟨h1, h2, h3⟩ ih
  dsimp only at h1 h2 h3 ⊢
  rcases Nat.eq_zero_or_pos y with rfl | hy
  · rw [Nat.gcd_zero_right] at h1
    subst h1
    clear ih
    all_goals (refine go ?_; and_intros <;> (try exact trivial) <;> repeat (first | refine fun (Bk : Nat) => ?_ | intro h))
    all_goals refine ret1b Tryz.func86 Tryz.results86 ?_
    all_goals rfl
  · have hlt := Nat.mod_lt x hy
    have ih := ih (y, x % y) ⟨by rw [← h1]; exact gcd_step x y, h3, by dsimp only; omega⟩ hlt
    rw [Int.natCast_emod] at ih
    all_goals (refine go ?_; and_intros <;> (try exact trivial) <;> repeat (first | refine fun (Bk : Nat) => ?_ | intro h))
    exact J.fin ih
def wOk (k : List Int) : Prop := (∀ w ∈ k, 0 ≤ w ∧ w ≤ 999999999999999) ∧ k.length ≤ 1000
theorem total_holds (a : Option Addr) (k : List Int) (c : Nat) (w : World) (hA : SlAt w a 1 (k.map isV)) (hk : wOk k) :
    Calls Tryz.prog 66 #[.agg #[.slice a k.length c]] w fun e w' => e = .returned (.int .i64 (sumL k)) ∧ Below w.heap.size w w' := by
  generalize hT : sumL k = T
  refine enterA [(0, .agg #[.slice a k.length c])] Tryz.func66 Tryz.ntmps66 ?_
  all_goals (refine go ?_; and_intros <;> (try exact trivial) <;> repeat (first | refine fun (Bk : Nat) => ?_ | intro h))
  refine J.loop (c := _) ((0, 0) : Nat × Int) (fun s => k.length - s.1) (fun s => [(3, .int .i64 s.2), (7, .slice a k.length c), (8, .int .i64 k.length), (9, .int .i64 s.1)]) (fun s => []) (fun s => s.1 ≤ k.length ∧ s.2 + sumL (k.drop s.1) = T ∧ 0 ≤ s.2 ∧ s.2 ≤ 999999999999999 * s.1) ?_ sbT sbL ?_
  · exact ⟨Nat.zero_le _, by rw [List.drop_zero, Int.zero_add]; exact hT, Int.le_refl _, Int.le_refl _⟩
  intro ⟨i, x⟩ ⟨h1, h2, h3, h4⟩ ih
  dsimp only at h1 h2 h3 h4 ⊢
  have hl := hk.2
  by_cases hi : i < k.length
  · obtain ⟨ba, oa, rfl, hra⟩ := SlAt.all hA (by omega)
    have hri := hra i hi
    have hw := hk.1 _ (List.getElem_mem hi)
    rw [List.drop_eq_getElem_cons hi, sumL] at h2
    clear hra hk
    have ih := ih (i + 1, x + k[i]) ⟨hi, by rw [← h2]; dsimp only; omega, by dsimp only; omega, by dsimp only; omega⟩ (by dsimp only; omega)
    generalize k[i] = z at *
    dsimp only [isV] at hri
    all_goals (refine go ?_; and_intros <;> (try exact trivial) <;> repeat (first | refine fun (Bk : Nat) => ?_ | intro h))
    exact J.fin ih
  · obtain rfl : i = k.length := by omega
    rw [List.drop_length, sumL, Int.add_zero] at h2
    subst h2
    clear ih
    all_goals (refine go ?_; and_intros <;> (try exact trivial) <;> repeat (first | refine fun (Bk : Nat) => ?_ | intro h))
    all_goals refine ret1b Tryz.func66 Tryz.results66 ?_
    all_goals rfl
end Go.Proofs.YtceaamdomkjmlaaGreatDoor
/-
  Contracts of kernels: the error, the total.
-/
namespace Go.Proofs.YtceaamdomkjmlaaGreatDoor
open Go.RowKit Go.Sl Go.Num
theorem badW_no {z : Int} (h : badW z = false) : 0 ≤ z ∧ z ≤ 999999999999999 := by
  rw [badW, Bool.or_eq_false_iff, decide_eq_false_iff_not, decide_eq_false_iff_not] at h; omega
theorem badW_yes {z : Int} (h : ¬ badW z = false) : z < 0 ∨ 999999999999999 < z := by
  rw [Bool.not_eq_false, badW, Bool.or_eq_true, decide_eq_true_eq, decide_eq_true_eq] at h; exact h
theorem any_yes {k : List Int} {i : Nat} (hi : i < k.length) (h : ¬ badW k[i] = false) : k.any badW = true := List.any_eq_true.2 ⟨_, List.getElem_mem hi, by simpa using h⟩
theorem any_no {k : List Int} (h : ∀ i (hi : i < k.length), badW k[i] = false) : k.any badW = false := List.any_eq_false.2 fun x hx => by
  obtain ⟨i, hi, rfl⟩ := List.getElem_of_mem hx
  simp [h i hi]
theorem wOk_of {k : List Int} (h : ∀ i (hi : i < k.length), badW k[i] = false) (hl : k.length ≤ 400) : wOk k := ⟨fun w hw => by
  obtain ⟨i, hi, rfl⟩ := List.getElem_of_mem hw
  exact badW_no (h i hi), by omega⟩
theorem Ker.wOk {k : List Int} (h : Ker k) : wOk k := ⟨h.nn, by have := h.len; omega⟩
theorem kCheck_holds (a : Option Addr) (k : List Int) (c : Nat) (w : World) (hA : SlAt w a 1 (k.map isV)) :
    Calls Tryz.prog 62 #[.agg #[.slice a k.length c]] w fun e w' => e = .returned (.int .i64 (kerErr k)) ∧ Below w.heap.size w w' := by
  rw [kerErr]
  refine enterA [(0, .agg #[.slice a k.length c])] Tryz.func62 Tryz.ntmps62 ?_
  by_cases hl : k.length < 1 ∨ 400 < k.length
  · rw [if_pos hl]
    all_goals (refine go ?_; and_intros <;> (try exact trivial) <;> repeat (first | refine fun (Bk : Nat) => ?_ | intro h))
    all_goals refine ret1b Tryz.func62 Tryz.results62 ?_
    all_goals rfl
  rw [if_neg hl]
  all_goals (refine go ?_; and_intros <;> (try exact trivial) <;> repeat (first | refine fun (Bk : Nat) => ?_ | intro h))
  all_goals
    refine J.loop (c := _) (0 : Nat) (fun s => k.length - s) (fun s => [(1, .pointer (some ⟨_, 0, none⟩)), (17, .slice a k.length c), (18, .int .i64 k.length), (19, .int .i64 s)]) (fun s => [.blk _ 41 [.slice a k.length c] 1]) (fun s => s ≤ k.length ∧ ∀ i (hi : i < k.length), i < s → badW k[i] = false) ?_ sbT sbL ?_
    · exact ⟨Nat.zero_le _, fun i h h2 => absurd h2 (Nat.not_lt_zero _)⟩
    intro i ⟨h1, h2⟩ ih
    by_cases hi : i < k.length
    · obtain ⟨ba, oa, rfl, hra⟩ := SlAt.all hA (by omega)
      have hri := hra i hi
      by_cases hb : badW k[i] = false
      · have ih := ih (i + 1) ⟨hi, fun j hj hj2 => by
          rcases Nat.lt_or_ge j i with h | h
          · exact h2 j hj h
          · obtain rfl : j = i := by omega
            exact hb⟩ (by omega)
        have hb := badW_no hb
        clear hra h2
        generalize k[i] = z at *
        dsimp only [isV] at hri
        all_goals (refine go ?_; and_intros <;> (try exact trivial) <;> repeat (first | refine fun (Bk : Nat) => ?_ | intro h))
        exact J.fin ih
      · rw [if_pos (any_yes hi hb)]
        have hb := badW_yes hb
        clear hra h2 ih
        generalize k[i] = z at *
        dsimp only [isV] at hri
        all_goals (refine go ?_; and_intros <;> (try exact trivial) <;> repeat (first | refine fun (Bk : Nat) => ?_ | intro h))
        all_goals refine ret1b Tryz.func62 Tryz.results62 ?_
        all_goals rfl
    · obtain rfl : i = k.length := by omega
      have h3 := fun j hj => h2 j hj hj
      have ht := fun w' (hb : Below w.heap.size w w') => total_holds a k c w' (hA.below hb) (wOk_of h3 (by omega))
      rw [any_no h3, if_neg (by decide)]
      clear ih h2 h3
      generalize sumL k = T at *
      by_cases hT : 999999999999999 < T
      · rw [if_pos hT]
        all_goals (refine go ?_; and_intros <;> (try exact trivial) <;> repeat (first | refine fun (Bk : Nat) => ?_ | intro h))
        repeat' ((first | (refine G.cvb ht ?_)) <;> (refine go ?_; and_intros <;> (try exact trivial) <;> repeat (first | refine fun (Bk : Nat) => ?_ | intro h)))
        all_goals refine ret1b Tryz.func62 Tryz.results62 ?_
        all_goals rfl
      rw [if_neg hT]
      by_cases h0 : T = 0
      · subst h0
        rw [if_pos rfl]
        all_goals (refine go ?_; and_intros <;> (try exact trivial) <;> repeat (first | refine fun (Bk : Nat) => ?_ | intro h))
        repeat' ((first | (refine G.cvb ht ?_)) <;> (refine go ?_; and_intros <;> (try exact trivial) <;> repeat (first | refine fun (Bk : Nat) => ?_ | intro h)))
        all_goals refine ret1b Tryz.func62 Tryz.results62 ?_
        all_goals rfl
      rw [if_neg h0]
      all_goals (refine go ?_; and_intros <;> (try exact trivial) <;> repeat (first | refine fun (Bk : Nat) => ?_ | intro h))
      repeat' ((first | (refine G.cvb ht ?_)) <;> (refine go ?_; and_intros <;> (try exact trivial) <;> repeat (first | refine fun (Bk : Nat) => ?_ | intro h)))
      all_goals refine ret1b Tryz.func62 Tryz.results62 ?_
      all_goals rfl
end Go.Proofs.YtceaamdomkjmlaaGreatDoor
/-
  Contracts of kernels: reduced lists.
-/
namespace Go.Proofs.YtceaamdomkjmlaaGreatDoor
open Go.RowKit Go.Sl Go.Num
theorem fill_set {R : List Int} {i : Nat} (h : i < R.length) : (R.take i ++ List.replicate (R.length - i) 0).set i R[i] = R.take (i + 1) ++ List.replicate (R.length - (i + 1)) 0 := by
  rw [show R.length - i = (R.length - (i + 1)) + 1 by omega, List.replicate_succ]
  rw [List.take_succ_eq_append_getElem h, List.append_assoc, List.singleton_append]
  conv => lhs; rw [List.set_append_right _ _ (by rw [List.length_take]; omega)]
  rw [show i - (R.take i).length = 0 by rw [List.length_take]; omega, List.set_cons_zero]
theorem fill_len {R : List Int} {i : Nat} (h : i ≤ R.length) : (R.take i ++ List.replicate (R.length - i) (0 : Int)).length = R.length := by
  rw [List.length_append, List.length_take, List.length_replicate]; omega
theorem flat_zero (N : Nat) : flat (fun x : List Value => x) (List.replicate N [Value.int .i64 0]) = flat isV (List.replicate N 0) := by
  induction N with
  | zero => rfl
  | succ n ih => rw [List.replicate_succ, List.replicate_succ, flat_cons, flat_cons, ih]; rfl
theorem contF_le {w : Int} {g : Nat} (h1 : 0 ≤ w ∧ w ≤ 999999999999999) (h2 : g ≤ 999999999999999) : Nat.gcd g w.toNat ≤ 999999999999999 := by
  rcases Nat.eq_zero_or_pos g with rfl | h
  · rw [Nat.gcd_zero_left]; omega
  · exact Nat.le_trans (Nat.gcd_le_left _ h) h2
theorem red_get {k : List Int} {i : Nat} (h : i < (red k).length) : ∃ h2 : i < k.length, (red k)[i] = k[i] / (contF 0 k : Int) := by
  have h2 : i < k.length := by rw [red, List.length_map, List.length_take] at h; omega
  exact ⟨h2, by simp only [red, List.getElem_map, List.getElem_take]⟩
theorem red_len {k : List Int} (h : Pos k) : (red k).length = lastF 0 0 k := by
  obtain ⟨n, h1, h2, _⟩ := h.last
  rw [red, List.length_map, List.length_take]; omega
/-- What a call returns that lays a list of numbers anew, within a value. -/
def RetI (F : Value → Value) (w : World) (L : List Int) (e : Ending) (w' : World) : Prop := ∃ a' c', e = .returned (F (.slice a' L.length c')) ∧ SlAt w' a' 1 (L.map isV) ∧ (∀ p, a' = some p → w.heap.size ≤ p.block) ∧ Below w.heap.size w w'
theorem vReduced_holds (a : Option Addr) (k : List Int) (c : Nat) (w : World) (hA : SlAt w a 1 (k.map isV)) (hk : wOk k) (hp : Pos k) :
    Calls Tryz.prog 65 #[.agg #[.slice a k.length c]] w (RetI (fun v => .agg #[v]) w (red k)) := by
  have hl := hk.2
  have hlen := red_len hp
  have hC := hp.cont
  have hget := fun i h => red_get (k := k) (i := i) h
  generalize red k = R at *
  generalize hT : contF 0 k = T at *
  generalize hL : lastF 0 0 k = L at *
  refine enterA [(0, .agg #[.slice a k.length c])] Tryz.func65 Tryz.ntmps65 ?_
  all_goals (refine go ?_; and_intros <;> (try exact trivial) <;> repeat (first | refine fun (Bk : Nat) => ?_ | intro h))
  refine J.loop (c := _) ((0, 0, 0) : Nat × Nat × Nat) (fun s => k.length - s.1) (fun s => [(1, .pointer (some ⟨_, 0, none⟩)), (2, .pointer (some ⟨_, 0, none⟩)), (3, .int .i64 s.2.1), (4, .int .i64 s.2.2), (10, .slice a k.length c), (11, .int .i64 k.length), (12, .int .i64 s.1)]) (fun s => [.blk _ 41 [.slice none 0 0] 1, .blk _ 41 [.slice a k.length c] 1]) (fun s => s.1 ≤ k.length ∧ contF s.2.1 (k.drop s.1) = T ∧ lastF s.1 s.2.2 (k.drop s.1) = L ∧ s.2.1 ≤ 999999999999999 ∧ s.2.2 ≤ s.1) ?_ sbT sbL ?_
  · exact ⟨Nat.zero_le _, hT, hL, Nat.zero_le _, Nat.le_refl _⟩
  clear hT hL
  intro ⟨i, g, n⟩ ⟨h1, h2, h3, h4, h5⟩ ih
  dsimp only at h1 h2 h3 h4 h5 ⊢
  by_cases hi : i < k.length
  · obtain ⟨ba, oa, rfl, hra⟩ := SlAt.all hA (by omega)
    have hri := hra i hi
    have hw := hk.1 _ (List.getElem_mem hi)
    rw [List.drop_eq_getElem_cons hi, contF] at h2
    rw [List.drop_eq_getElem_cons hi, lastF] at h3
    clear hra hk hget
    generalize k[i] = z at *
    dsimp only [isV] at hri
    obtain ⟨z, rfl⟩ : ∃ n : Nat, z = n := ⟨z.toNat, by omega⟩
    rw [Int.toNat_natCast] at h2
    have hd := fun w' => divisor_holds g z w' h4 (by omega)
    have hg := contF_le hw h4
    rw [Int.toNat_natCast] at hg
    by_cases hz : 0 < (z : Int)
    · rw [if_pos hz] at h3
      have ih := ih (i + 1, Nat.gcd g z, i + 1) ⟨hi, h2, h3, hg, Nat.le_refl _⟩ (by dsimp only; omega)
      all_goals (refine go ?_; and_intros <;> (try exact trivial) <;> repeat (first | refine fun (Bk : Nat) => ?_ | intro h))
      repeat' ((first | (apply G.cV (g := 86); rfl; rfl; exact fun w' _ => hd w')) <;> (refine go ?_; and_intros <;> (try exact trivial) <;> repeat (first | refine fun (Bk : Nat) => ?_ | intro h)))
      exact J.fin ih
    · rw [if_neg hz] at h3
      have ih := ih (i + 1, Nat.gcd g z, n) ⟨hi, h2, h3, hg, by dsimp only; omega⟩ (by dsimp only; omega)
      all_goals (refine go ?_; and_intros <;> (try exact trivial) <;> repeat (first | refine fun (Bk : Nat) => ?_ | intro h))
      repeat' ((first | (apply G.cV (g := 86); rfl; rfl; exact fun w' _ => hd w')) <;> (refine go ?_; and_intros <;> (try exact trivial) <;> repeat (first | refine fun (Bk : Nat) => ?_ | intro h)))
      exact J.fin ih
  · obtain rfl : i = k.length := by omega
    rw [List.drop_length, contF] at h2
    rw [List.drop_length, lastF] at h3
    subst h2 h3
    clear ih
    rw [← hlen]
    all_goals (refine go ?_; and_intros <;> (try exact trivial) <;> repeat (first | refine fun (Bk : Nat) => ?_ | intro h))
    repeat' ((first | (apply G.make (n := R.length) [.int .i64 0]; rfl; rfl; rfl; rfl; rfl; rfl; rfl; rfl; omega; omega; intro B)) <;> (refine go ?_; and_intros <;> (try exact trivial) <;> repeat (first | refine fun (Bk : Nat) => ?_ | intro h)))
    rw [flat_zero]
    refine J.loop (c := _) (0 : Nat) (fun s => R.length - s) (fun s => [(1, .pointer (some ⟨_, 0, none⟩)), (2, .pointer (some ⟨_, 0, none⟩)), (3, .int .i64 g), (7, .slice (some ⟨B, 0, none⟩) R.length R.length), (28, .int .i64 R.length), (29, .int .i64 s)]) (fun s => [.blk B 3 (flat isV (R.take s ++ List.replicate (R.length - s) 0)) (R.length * 1), .blk _ 41 [.slice none 0 0] 1, .blk _ 41 [.slice a k.length c] 1]) (fun s => s ≤ R.length) ?_ sbT sbL ?_
    · exact Nat.zero_le _
    intro i hR ih
    by_cases hi : i < R.length
    · obtain ⟨h6, h7⟩ := hget i hi
      obtain ⟨ba, oa, rfl, hra⟩ := SlAt.all hA (by omega)
      have hri := hra i h6
      have hw := hk.1 _ (List.getElem_mem h6)
      have hset := is_set (p := R.take i ++ List.replicate (R.length - i) 0) (j := i) (v := R[i]) (by rw [fill_len hR]; exact hi)
      rw [fill_set hi] at hset
      have ih := ih (i + 1) hi (by omega)
      rw [h7] at hset
      have hfl : 0 + i * 1 < (flat isV (R.take i ++ List.replicate (R.length - i) 0)).length := by rw [isLen, fill_len hR]; omega
      clear hra hk hget h7
      generalize k[i] = z at *
      dsimp only [isV] at hri
      all_goals (refine go ?_; and_intros <;> (try exact trivial) <;> repeat (first | refine fun (Bk : Nat) => ?_ | intro h))
      repeat' ((first | (apply G.s1; rfl; rfl; rfl; (repeat (first | exact RAt.head | apply RAt.tail)); exact ⟨rfl, rfl⟩; exact hfl; exact hset)) <;> (refine go ?_; and_intros <;> (try exact trivial) <;> repeat (first | refine fun (Bk : Nat) => ?_ | intro h)))
      exact J.fin ih
    · obtain rfl : i = R.length := by omega
      rw [List.take_length, Nat.sub_self, List.replicate_zero, List.append_nil]
      clear ih
      all_goals (refine go ?_; and_intros <;> (try exact trivial) <;> repeat (first | refine fun (Bk : Nat) => ?_ | intro h))
      (refine ret1 Tryz.func65 Tryz.results65 ?_; intro w' hw)
      have hm := blkSlA hw isV_len (l := R)
      exact ⟨_, _, rfl, hm.1, fun p hp => by cases hp; exact hm.2, hw.below⟩
end Go.Proofs.YtceaamdomkjmlaaGreatDoor
/-
  Contracts of kernels: reduced lists by the specification; Reduce and Delay of both.
-/
namespace Go.Proofs.YtceaamdomkjmlaaGreatDoor
open Go.RowKit Go.Sl Go.Num
theorem satI {w0 w : World} {M : List Row} {i E base : Nat} {a : Option Addr} {n c : Nat} {l : List Int} (hw : Sat w0 M w) (hm : M[i]? = some (.own base (.slice a n c) E 1 n (flat isV l))) (hn : l.length = n) (F : Value → Value) : RetI F w0 l (.returned (F (.slice a n c))) w := by
  have hmem := List.mem_of_getElem? hm
  exact ⟨a, c, by rw [hn], SlAt.ofOwn isV_len (hw.hold _ hmem) hn, fun p hp => ((hw.old _ hmem).2 p.block (by subst hp; rfl)).1, hw.below⟩
theorem retI_nil {w w' : World} (F : Value → Value) (hb : Below w.heap.size w w') : RetI F w [] (.returned (F (.slice none 0 0))) w' := ⟨none, 0, rfl, SlAt.nil, (fun p hp => by cases hp), hb⟩
/-- The reduced list, or the error. -/
def redE (k : List Int) : List Int × Int := if kerErr k = 0 then (red k, 0) else ([], kerErr k)
theorem vReduce_holds (a : Option Addr) (k : List Int) (c : Nat) (w : World) (hA : SlAt w a 1 (k.map isV)) :
    Calls Tryz.prog 57 #[.agg #[.slice a k.length c]] w (RetI (fun v => .tuple #[.agg #[v], .int .i64 (redE k).2]) w (redE k).1) := by
  have hc := fun w' (hb : Below w.heap.size w w') => kCheck_holds a k c w' (hA.below hb)
  rw [redE]
  by_cases h0 : kerErr k = 0
  · have hr := fun w' (hb : Below w.heap.size w w') => vReduced_holds a k c w' (hA.below hb) (ker_of h0).wOk (ker_of h0).pos
    rw [if_pos h0]
    rw [h0] at hc
    dsimp only
    refine enterA [(0, .agg #[.slice a k.length c])] Tryz.func57 Tryz.ntmps57 ?_
    all_goals (refine go ?_; and_intros <;> (try exact trivial) <;> repeat (first | refine fun (Bk : Nat) => ?_ | intro h))
    repeat' ((first | (refine G.cvb hc ?_) | (apply G.cN (g := 65) (fun a' c' => .agg #[.slice a' (red k).length c']) ((red k).map isV); rfl; rfl; exact fun w' hw' => hr w' hw'.below; intro a1 c1 hp1 hq1)) <;> (refine go ?_; and_intros <;> (try exact trivial) <;> repeat (first | refine fun (Bk : Nat) => ?_ | intro h)))
    (refine ret2 Tryz.func57 Tryz.results57 ?_; intro w' hw)
    exact ⟨a1, c1, rfl, hw.sl (by exact mm), hq1, hw.below⟩
  · rw [if_neg h0]
    dsimp only
    generalize kerErr k = E at *
    refine enterA [(0, .agg #[.slice a k.length c])] Tryz.func57 Tryz.ntmps57 ?_
    all_goals (refine go ?_; and_intros <;> (try exact trivial) <;> repeat (first | refine fun (Bk : Nat) => ?_ | intro h))
    repeat' ((first | (refine G.cvb hc ?_)) <;> (refine go ?_; and_intros <;> (try exact trivial) <;> repeat (first | refine fun (Bk : Nat) => ?_ | intro h)))
    (refine ret2 Tryz.func57 Tryz.results57 ?_; intro w' hw)
    exact retI_nil (fun v => .tuple #[.agg #[v], .int .i64 E]) hw.below
/-- The kernel of no ticks. -/
theorem vDelay0_holds (w : World) : Calls Tryz.prog 56 #[.int .i64 0] w (RetI (fun v => .tuple #[.agg #[v], .int .i64 0]) w [1]) := by
  refine enterA [(0, .int .i64 0)] Tryz.func56 Tryz.ntmps56 ?_
  all_goals (refine go ?_; and_intros <;> (try exact trivial) <;> repeat (first | refine fun (Bk : Nat) => ?_ | intro h))
  repeat' ((first | (apply G.make (n := 1) [.int .i64 0]; rfl; rfl; rfl; rfl; rfl; rfl; rfl; rfl; omega; omega; intro B)) <;> (refine go ?_; and_intros <;> (try exact trivial) <;> repeat (first | refine fun (Bk : Nat) => ?_ | intro h)))
  (refine ret2 Tryz.func56 Tryz.results56 ?_; intro w' hw)
  have hm := blkSlA (f := isV) (sz := 1) (b := B) (e := 3) (tot := 1) (l := [1]) hw isV_len
  exact ⟨_, _, rfl, hm.1, fun p hp => by cases hp; exact hm.2, hw.below⟩
end Go.Proofs.YtceaamdomkjmlaaGreatDoor
