/-
  Contracts of rights: short numbers; lists of numbers that are equal.
-/
import Derived.Test.YtcdgibkbbcekhaaGreatDoorGR8
set_option linter.unusedVariables false
set_option linter.unusedSimpArgs false
set_option linter.unusedSectionVars false
namespace Go.Proofs.YtcdgibkbbcekhaaGreatDoor
open Go.RowKit Go.Sl Go.Num
def shB (q : Q3) : Bool := decide (q.num.length ≤ 20) && decide (q.den.length ≤ 20)
theorem shB_few {q : Q3} : shB q = true ↔ fewQ 20 q := by rw [shB, Bool.and_eq_true, decide_eq_true_eq, decide_eq_true_eq]; rfl
theorem short_holds (a : Q3) (w : World) : Calls Tryz.prog 49 #[qA a] w fun e w' => e = .returned (.bool (shB a)) ∧ Below w.heap.size w w' := by
  obtain ⟨s, n, d⟩ := a
  dsimp only [shB, qA]
  refine enterA [(0, .agg #[.bool s, .string (bs n), .string (bs d)])] Tryz.func49 Tryz.ntmps49 ?_
  by_cases h1 : n.length ≤ 20
  · rw [decide_eq_true h1, Bool.true_and]
    by_cases h2 : d.length ≤ 20
    · rw [decide_eq_true h2]
      all_goals (refine go ?_; and_intros <;> (try exact trivial) <;> repeat (first | refine fun (Bk : Nat) => ?_ | intro h))
      all_goals refine ret1b Tryz.func49 Tryz.results49 ?_
      all_goals rfl
    · rw [decide_eq_false h2]
      all_goals (refine go ?_; and_intros <;> (try exact trivial) <;> repeat (first | refine fun (Bk : Nat) => ?_ | intro h))
      all_goals refine ret1b Tryz.func49 Tryz.results49 ?_
      all_goals rfl
  · rw [decide_eq_false h1, Bool.false_and]
    all_goals (refine go ?_; and_intros <;> (try exact trivial) <;> repeat (first | refine fun (Bk : Nat) => ?_ | intro h))
    all_goals refine ret1b Tryz.func49 Tryz.results49 ?_
    all_goals rfl
theorem sameQ_holds (a b : Option Addr) (l m : List Q3) (c d : Nat) (w : World) (hA : SlAt w a 3 (l.map qV)) (hB : SlAt w b 3 (m.map qV)) (hn : l.length ≤ 1000000000) :
    Calls Tryz.prog 18 #[.slice a l.length c, .slice b m.length d] w fun e w' => e = .returned (.bool (decide (l = m))) ∧ Below w.heap.size w w' := by
  refine enterA [(0, .slice a l.length c), (1, .slice b m.length d)] Tryz.func18 Tryz.ntmps18 ?_
  by_cases hl : l.length = m.length
  case neg =>
    rw [decide_eq_false (fun e => hl (by rw [e]))]
    all_goals (refine go ?_; and_intros <;> (try exact trivial) <;> repeat (first | refine fun (Bk : Nat) => ?_ | intro h))
    all_goals refine ret1b Tryz.func18 Tryz.results18 ?_
    all_goals rfl
  all_goals (refine go ?_; and_intros <;> (try exact trivial) <;> repeat (first | refine fun (Bk : Nat) => ?_ | intro h))
  refine J.loop (c := _) (0 : Nat) (fun s => l.length - s) (fun s => [(0, .slice a l.length c), (1, .slice b m.length d), (5, .int .i64 s)]) (fun s => []) (fun s => s ≤ l.length ∧ ∀ i (h : i < l.length) (h2 : i < m.length), i < s → l[i] = m[i]) ?_ sbT sbL ?_
  · exact ⟨Nat.zero_le _, fun i _ _ h => absurd h (Nat.not_lt_zero _)⟩
  intro i ⟨h1, h2⟩ ih
  by_cases hi : i < l.length
  · have hj : i < m.length := by omega
    obtain ⟨ba, oa, rfl, hra⟩ := SlAt.all hA (by omega)
    obtain ⟨bb, ob, rfl, hrb⟩ := SlAt.all hB (by omega)
    have hri := hra i hi
    have hrj := hrb i hj
    have ihN := fun (he : l[i] = m[i]) => ih (i + 1) ⟨hi, fun j q1 q2 q3 => by
        rcases Nat.lt_or_ge j i with h | h
        · exact h2 j q1 q2 h
        · obtain rfl : j = i := by omega
          exact he⟩ (by omega)
    have hno : l[i] ≠ m[i] → l ≠ m := fun h e => h (by subst e; rfl)
    clear ih h2 hra hrb hA hB
    generalize l[i] = x at *
    generalize m[i] = y at *
    obtain ⟨s1, u1, v1⟩ := x
    obtain ⟨s2, u2, v2⟩ := y
    dsimp only [qV] at *
    by_cases he : (⟨s1, u1, v1⟩ : Q3) = ⟨s2, u2, v2⟩
    · have ihN := ihN he
      clear hno
      all_goals (refine go ?_; and_intros <;> (try exact trivial) <;> repeat (first | refine fun (Bk : Nat) => ?_ | intro h))
      repeat' ((first | (apply G.neR ⟨s1, u1, v1⟩ ⟨s2, u2, v2⟩; rfl; rfl; rfl; all_goals intro h; all_goals try (exact absurd he h))) <;> (refine go ?_; and_intros <;> (try exact trivial) <;> repeat (first | refine fun (Bk : Nat) => ?_ | intro h)))
      exact J.fin ihN
    · rw [decide_eq_false (hno he)]
      clear ihN hno
      all_goals (refine go ?_; and_intros <;> (try exact trivial) <;> repeat (first | refine fun (Bk : Nat) => ?_ | intro h))
      repeat' ((first | (apply G.neR ⟨s1, u1, v1⟩ ⟨s2, u2, v2⟩; rfl; rfl; rfl; all_goals intro h; all_goals try (exact absurd h he))) <;> (refine go ?_; and_intros <;> (try exact trivial) <;> repeat (first | refine fun (Bk : Nat) => ?_ | intro h)))
      all_goals refine ret1b Tryz.func18 Tryz.results18 ?_
      all_goals rfl
  · obtain rfl : i = l.length := by omega
    rw [decide_eq_true (show l = m from List.ext_getElem hl fun i q1 q2 => h2 i q1 q2 q1)]
    clear ih
    all_goals (refine go ?_; and_intros <;> (try exact trivial) <;> repeat (first | refine fun (Bk : Nat) => ?_ | intro h))
    all_goals refine ret1b Tryz.func18 Tryz.results18 ?_
    all_goals rfl
def briefB (l : List Q3) : Bool := decide (l.length ≤ 205) && l.all shB
theorem briefB_few {l : List Q3} : briefB l = true ↔ l.length ≤ 205 ∧ ∀ q ∈ l, fewQ 20 q := by
  rw [briefB, Bool.and_eq_true, decide_eq_true_eq, List.all_eq_true]
  exact and_congr_right fun _ => ⟨fun h q hq => shB_few.1 (h q hq), fun h q hq => shB_few.2 (h q hq)⟩
theorem all_upto {α : Type} {l : List α} {p : α → Bool} (h : ∀ i (h : i < l.length), p l[i] = true) : l.all p = true := by
  rw [List.all_eq_true]
  intro x hx
  obtain ⟨i, hi, rfl⟩ := List.getElem_of_mem hx
  exact h i hi
theorem all_not {α : Type} {l : List α} {p : α → Bool} {i : Nat} (hi : i < l.length) (h : p l[i] = false) : l.all p = false := by
  rw [List.all_eq_false]
  exact ⟨l[i], List.getElem_mem hi, by rw [h]; decide⟩
theorem brief_holds (a : Option Addr) (l : List Q3) (c : Nat) (w : World) (hA : SlAt w a 3 (l.map qV)) :
    Calls Tryz.prog 11 #[.slice a l.length c] w fun e w' => e = .returned (.bool (briefB l)) ∧ Below w.heap.size w w' := by
  rw [briefB]
  refine enterA [(0, .slice a l.length c)] Tryz.func11 Tryz.ntmps11 ?_
  by_cases hl : l.length ≤ 205
  case neg =>
    rw [decide_eq_false hl, Bool.false_and]
    all_goals (refine go ?_; and_intros <;> (try exact trivial) <;> repeat (first | refine fun (Bk : Nat) => ?_ | intro h))
    all_goals refine ret1b Tryz.func11 Tryz.results11 ?_
    all_goals rfl
  rw [decide_eq_true hl, Bool.true_and]
  all_goals (refine go ?_; and_intros <;> (try exact trivial) <;> repeat (first | refine fun (Bk : Nat) => ?_ | intro h))
  refine J.loop (c := _) (0 : Nat) (fun s => l.length - s) (fun s => [(0, .slice a l.length c), (3, .int .i64 s)]) (fun s => []) (fun s => s ≤ l.length ∧ ∀ i (h : i < l.length), i < s → shB l[i] = true) ?_ sbT sbL ?_
  · exact ⟨Nat.zero_le _, fun i _ h => absurd h (Nat.not_lt_zero _)⟩
  intro i ⟨h1, h2⟩ ih
  by_cases hi : i < l.length
  · obtain ⟨ba, oa, rfl, hra⟩ := SlAt.all hA (by omega)
    have hri := hra i hi
    have hsh := fun w' => short_holds l[i] w'
    have ihN := fun (he : shB l[i] = true) => ih (i + 1) ⟨hi, fun j q1 q3 => by
        rcases Nat.lt_or_ge j i with h | h
        · exact h2 j q1 h
        · obtain rfl : j = i := by omega
          exact he⟩ (by omega)
    have hno := fun h => all_not (p := shB) hi h
    clear ih h2 hra hA
    generalize l.all shB = res at *
    generalize l[i] = x at *
    generalize shB x = b at *
    obtain ⟨s1, u1, v1⟩ := x
    dsimp only [qV, qA] at *
    cases b
    · obtain rfl := hno rfl
      clear ihN hno
      all_goals (refine go ?_; and_intros <;> (try exact trivial) <;> repeat (first | refine fun (Bk : Nat) => ?_ | intro h))
      repeat' ((first | (apply G.cV (g := 49); rfl; rfl; exact fun w' _ => hsh w')) <;> (refine go ?_; and_intros <;> (try exact trivial) <;> repeat (first | refine fun (Bk : Nat) => ?_ | intro h)))
      all_goals refine ret1b Tryz.func11 Tryz.results11 ?_
      all_goals rfl
    · have ihN := ihN rfl
      clear hno
      all_goals (refine go ?_; and_intros <;> (try exact trivial) <;> repeat (first | refine fun (Bk : Nat) => ?_ | intro h))
      repeat' ((first | (apply G.cV (g := 49); rfl; rfl; exact fun w' _ => hsh w')) <;> (refine go ?_; and_intros <;> (try exact trivial) <;> repeat (first | refine fun (Bk : Nat) => ?_ | intro h)))
      exact J.fin ihN
  · obtain rfl : i = l.length := by omega
    rw [all_upto fun j hj => h2 j hj hj]
    clear ih
    all_goals (refine go ?_; and_intros <;> (try exact trivial) <;> repeat (first | refine fun (Bk : Nat) => ?_ | intro h))
    all_goals refine ret1b Tryz.func11 Tryz.results11 ?_
    all_goals rfl
end Go.Proofs.YtcdgibkbbcekhaaGreatDoor
