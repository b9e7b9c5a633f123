/-
  Contracts of kernels: Arrive of the program.
-/
import Derived.Test.YtceaamdomkjmlaaGreatDoorNA26
import Derived.ProofKit
set_option linter.unusedVariables false
set_option linter.unusedSimpArgs false
set_option linter.unusedSectionVars false
namespace Go.Proofs.YtceaamdomkjmlaaGreatDoor
open Go.RowKit Go.Sl Go.Num
/-- A part that arrives, in memory. -/
def wV (tot : Int) (p : Prt) : List Value := [.int .i64 p.1, .int .i64 p.2.1] ++ qV (rQ ((p.2.2 : Rat) / (tot : Rat)))
theorem wV_len (tot : Int) (p : Prt) : (wV tot p).length = 5 := rfl
theorem flat_last_get {A : Type} {f : A → List Value} {sz : Nat} (hf : ∀ x, (f x).length = sz) (o : List A) (p : A) (j : Nat) : (flat f (o ++ [p]))[0 + o.length * sz + j]? = (f p)[j]? := by
  rw [flat_append, List.getElem?_append_right (by rw [flat_len hf]; omega), flat_len hf, show 0 + o.length * sz + j - o.length * sz = j by omega, flat_cons, show flat f [] = [] from rfl, List.append_nil]
theorem flat_last_set {A : Type} {f : A → List Value} {sz : Nat} (hf : ∀ x, (f x).length = sz) (o : List A) (p p' : A) (j : Nat) (v : Value) (h : (f p).set j v = f p') : setL (flat f (o ++ [p])) (0 + o.length * sz + j) [v] = flat f (o ++ [p']) := by
  show (flat f (o ++ [p])).set (0 + o.length * sz + j) v = _
  rw [flat_append, flat_append, List.set_append_right _ _ (by rw [flat_len hf]; omega), flat_len hf, show 0 + o.length * sz + j - o.length * sz = j by omega, flat_cons, flat_cons, show flat f [] = [] from rfl, List.append_nil, List.append_nil, h]
theorem addP_snoc (o : List Prt) (p : Prt) {t w : Int} (hw : w ≠ 0) : addP (o ++ [p]) t w = if p.2.1 = t ∧ p.2.2 = w then o ++ [(p.1, t + 1, w)] else o ++ [p] ++ [(t, t + 1, w)] := by
  rw [addP, if_neg hw, List.getLast?_concat, List.dropLast_concat]
theorem addP_nil {t w : Int} (hw : w ≠ 0) : addP [] t w = [(t, t + 1, w)] := by
  rw [addP, if_neg hw]; rfl
theorem addP_len (o : List Prt) (t w : Int) : (addP o t w).length ≤ o.length + 1 := by
  rcases nil_or_snoc o with rfl | ⟨o, p, rfl⟩
  · by_cases hw : w = 0
    · rw [addP, if_pos hw]; exact Nat.zero_le _
    · rw [addP_nil hw]; exact Nat.le_refl _
  · by_cases hw : w = 0
    · rw [addP, if_pos hw]; omega
    · rw [addP_snoc o p hw]
      split <;> simp
theorem arrF_succ {W : Int → Int} (i : Nat) (t : Int) (out : List Prt) : arrF W (i + 1) t out = addP (arrF W i t out) (t + i) (W (t + i)) := by
  rw [arrF_add i 1]; rfl
theorem arrF_len {W : Int → Int} (t : Int) : ∀ i, (arrF W i t []).length ≤ i
  | 0 => Nat.le_refl _
  | i + 1 => by
    rw [arrF_succ]
    have := addP_len (arrF W i t []) (t + i) (W (t + i))
    have := arrF_len (W := W) t i
    omega
/-- The weight of the last part, if it ends at the tick at hand. -/
theorem arr_last {W : Int → Int} {t0 : Int} {i : Nat} {o : List Prt} {p : Prt} (h : arrF W i t0 [] = o ++ [p]) : (p.2.1 = t0 + i → 0 < i ∧ W (t0 + i - 1) = p.2.2) ∧ p.2.1 ≤ t0 + i ∧ p.1 < p.2.1 ∧ t0 ≤ p.1 := by
  have hP := arrF_ok (W := W) (t0 := t0) i t0 [] (Int.le_refl _) (Prts.nil W t0)
  rw [h] at hP
  have := hP.mem p (List.mem_append_right _ (List.mem_singleton.2 rfl))
  refine ⟨fun e => ⟨by omega, (this.2.2.2 (t0 + i - 1) (by omega) (by omega)).1⟩, this.2.2.1, this.2.1, this.1⟩
def arrE (k : List Int) (fr to : Int) : List Prt × Int := if kerErr k ≠ 0 then ([], kerErr k) else if fr < 0 ∨ to < fr ∨ 1402560 < to then ([], 3) else (arrL k fr to, 0)
/-- A new slice of parts. -/
def RetW (F : Value → Value) (tot : Int) (w : World) (L : List Prt) (e : Ending) (w' : World) : Prop := ∃ a' c', e = .returned (F (.slice a' L.length c')) ∧ SlAt w' a' 5 (L.map (wV tot)) ∧ (∀ p, a' = some p → w.heap.size ≤ p.block) ∧ Below w.heap.size w w'
theorem satW {w0 w : World} {M : List Row} {i E base : Nat} {a : Option Addr} {n c : Nat} {tot : Int} {l : List Prt} (hw : Sat w0 M w) (hm : M[i]? = some (.own base (.slice a n c) E 5 n (flat (wV tot) l))) (hn : l.length = n) (F : Value → Value) : RetW F tot w0 l (.returned (F (.slice a n c))) w := by
  have hmem := List.mem_of_getElem? hm
  exact ⟨a, c, by rw [hn], SlAt.ofOwn (wV_len tot) (hw.hold _ hmem) hn, fun p hp => ((hw.old _ hmem).2 p.block (by subst hp; rfl)).1, hw.below⟩
theorem retW_nil {w w' : World} (F : Value → Value) (tot : Int) (hb : Below w.heap.size w w') : RetW F tot w [] (.returned (F (.slice none 0 0))) w' := ⟨none, 0, rfl, SlAt.nil, (fun p hp => by cases hp), hb⟩
theorem vArrive_holds (a : Option Addr) (k : List Int) (c : Nat) (fr to : Int) (w : World) (hA : SlAt w a 1 (k.map isV)) :
    Calls Tryz.prog 60 #[.agg #[.slice a k.length c], .agg #[.int .i64 fr, .int .i64 to]] w (RetW (fun v => .tuple #[v, .int .i64 (arrE k fr to).2]) (sumL k) w (arrE k fr to).1) := by
  have hc := fun w' (hb : Below w.heap.size w w') => kCheck_holds a k c w' (hA.below hb)
  rw [arrE]
  by_cases h0 : kerErr k = 0
  case neg =>
    rw [if_pos h0]
    dsimp only
    generalize kerErr k = E at *
    refine enterA [(0, .agg #[.slice a k.length c]), (1, .agg #[.int .i64 fr, .int .i64 to])] Tryz.func60 Tryz.ntmps60 ?_
    all_goals (refine go ?_; and_intros <;> (try exact trivial) <;> repeat (first | refine fun (Bk : Nat) => ?_ | intro h))
    repeat' ((first | (refine G.cvb hc ?_)) <;> (refine go ?_; and_intros <;> (try exact trivial) <;> repeat (first | refine fun (Bk : Nat) => ?_ | intro h)))
    (refine ret2 Tryz.func60 Tryz.results60 ?_; intro w' hw)
    exact retW_nil (fun v => .tuple #[v, .int .i64 E]) _ hw.below
  have hk := ker_of h0
  rw [if_neg (fun h => h h0)]
  rw [h0] at hc
  by_cases h1 : fr < 0 ∨ to < fr ∨ 1402560 < to
  · rw [if_pos h1]
    dsimp only
    refine enterA [(0, .agg #[.slice a k.length c]), (1, .agg #[.int .i64 fr, .int .i64 to])] Tryz.func60 Tryz.ntmps60 ?_
    all_goals (refine go ?_; and_intros <;> (try exact trivial) <;> repeat (first | refine fun (Bk : Nat) => ?_ | intro h))
    repeat' ((first | (refine G.cvb hc ?_)) <;> (refine go ?_; and_intros <;> (try exact trivial) <;> repeat (first | refine fun (Bk : Nat) => ?_ | intro h)))
    all_goals
      (refine ret2 Tryz.func60 Tryz.results60 ?_; intro w' hw)
      exact retW_nil (fun v => .tuple #[v, .int .i64 3]) _ hw.below
  rw [if_neg h1]
  dsimp only
  have hsum := hk.sum
  have htt := fun w' (hb : Below w.heap.size w w') => total_holds a k c w' (hA.below hb) hk.wOk
  have hit : ∀ Bk Bt, IterG Tryz.prog w [.blk Bk 41 [.slice a k.length c] 1, .blk Bt 25 [.int .i64 fr, .int .i64 to] 2] 108 #[.pointer (some ⟨Bk, 0, none⟩), .pointer (some ⟨Bt, 0, none⟩)] (fun e : Int × Int => [.int .i64 e.1, .int .i64 e.2]) (tkE k fr to) := fun Bk Bt => ticks_iter w Bk Bt a k c fr to hA hk (by omega)
  have hT : arrF (wIn k fr to) (tkE k fr to).length (t0Of k fr) [] = arrL k fr to := by
    by_cases h : fr < to
    · rw [tkE_len h]; rfl
    · rw [tkE, if_neg h, List.length_nil, arrF, arrL, arrF_zero]
      intro s _ _
      rw [wIn_eq (by omega), show to = fr by omega]; omega
  have hget : ∀ (i : Nat) e, (tkE k fr to)[i]? = some e → e = (t0Of k fr + i, wIn k fr to (t0Of k fr + i)) ∧ t0Of k fr + i < to := fun i e he => by
    by_cases h : fr < to
    · have h2 := (List.getElem?_eq_some_iff.1 he).1
      rw [tkE_len h] at h2
      rw [tkE_get h h2] at he
      cases he
      exact ⟨rfl, by omega⟩
    · rw [tkE, if_neg h] at he; cases he
  have hlE : (tkE k fr to).length ≤ 1402560 := by
    by_cases h : fr < to
    · have : 0 ≤ t0Of k fr := by rw [t0Of]; omega
      rw [tkE_len h]; omega
    · rw [tkE, if_neg h]; exact Nat.zero_le _
  have ht0 : 0 ≤ t0Of k fr := by rw [t0Of]; omega
  have hwn := fun t => wIn_nn (fr := fr) (to := to) k t (fun w hw => (hk.nn w hw).1)
  generalize tkE k fr to = E at *
  generalize wIn k fr to = W at *
  generalize arrL k fr to = T at *
  generalize t0Of k fr = t0 at *
  generalize hq : sumL k = tot at *
  clear hq hk h0
  have hpt := fun t w' (_ : Below w.heap.size w w') => vPart_holds (W t) tot w' (by have := hwn t; omega) (by have := hwn t; omega) (by omega) (by omega) (by omega)
  refine enterA [(0, .agg #[.slice a k.length c]), (1, .agg #[.int .i64 fr, .int .i64 to])] Tryz.func60 Tryz.ntmps60 ?_
  all_goals (refine goR ?_; and_intros <;> (try exact trivial) <;> repeat (first | refine fun (Bk : Nat) => ?_ | intro h))
  repeat' ((first | (refine G.cvb hc ?_) | (apply G.cR (g := 84) (v := fun x : Nat × Nat => .func (.func 108) #[] #[.pointer (some ⟨x.1, 0, none⟩), .pointer (some ⟨x.2, 0, none⟩)]) (Mn := fun x => [.blk x.1 41 [.slice a k.length c] 1, .blk x.2 25 [.int .i64 fr, .int .i64 to] 2]); rfl; rfl; exact fun w' hw' => ticks_holds _ _ w' a k c fr to hw'; rintro ⟨Bk1, Bt1⟩) | (apply J.regQ; exact Tryz.mixed; decide +kernel) | (apply J.regL'; exact Tryz.mixed; decide +kernel)) <;> (refine goR ?_; and_intros <;> (try exact trivial) <;> repeat (first | refine fun (Bk : Nat) => ?_ | intro h)))
  apply J.nilOwn (E := 83) (size := 5)
  refine J.rangeG (e1 := fun e : Int × Int => .int .i64 e.1) (e2 := fun e => .int .i64 e.2) (es := E) (fun s : List Prt × (Option Addr × Nat × Nat) × Int => [.own 0 (.slice s.2.1.1 s.2.1.2.1 s.2.1.2.2) 83 5 s.2.1.2.1 (flat (wV tot) s.1), .blk _ 47 [.slice s.2.1.1 s.2.1.2.1 s.2.1.2.2] 1, .blk _ 3 [.int .i64 s.2.2] 1, .blk _ 41 [.slice a k.length c] 1]) (fun i s => s.1 = arrF W i t0 [] ∧ s.2.1.2.1 = s.1.length ∧ (0 < i → s.2.2 = W (t0 + i - 1))) (fun _ _ => False) ([], (none, 0, 0), 0) _ (hit Bk1 Bt1) rfl rfl rfl rfl (by (repeat (first | exact List.Perm.refl _ | (refine pickT (by (repeat (first | exact Pick.head | apply Pick.tail))) ?_)))) ⟨rfl, rfl, fun h => absurd h (Nat.lt_irrefl _)⟩ ?_ ?_ ?_
  · intro i ⟨L, ⟨au, n, cu⟩, lst⟩ e ⟨i1, i2, i3⟩ he L0 rr M' hrs hrp
    dsimp only at i1 i2 i3 ⊢
    obtain ⟨rfl, hti⟩ := hget i e he
    have hiE := (List.getElem?_eq_some_iff.1 he).1
    have hLl := arrF_len (W := W) t0 i
    rw [← i1] at hLl
    have hsu := arrF_succ (W := W) i t0 []
    rw [← i1] at hsu
    have hpt := hpt (t0 + i)
    have hwb := hwn (t0 + i)
    dsimp only
    have hnx : t0 + ((i + 1 : Nat) : Int) - 1 = t0 + i := by omega
    have hap : flat (wV tot) L ++ wV tot (t0 + i, t0 + i + 1, W (t0 + i)) = flat (wV tot) (L ++ [(t0 + i, t0 + i + 1, W (t0 + i))]) := flat1 _ _ _
    have hal := fun o p (h : L = o ++ [p]) => arr_last (W := W) (t0 := t0) (i := i) (o := o) (p := p) (i1.symm.trans h)
    clear he hget hit hT hwn hc i1
    by_cases hw0 : W (t0 + i) = 0
    · rw [addP, if_pos hw0] at hsu
      clear hal hap
      generalize hwt : W (t0 + i) = wt at *
      all_goals (refine goR ?_; and_intros <;> (try exact trivial) <;> repeat (first | refine fun (Bk : Nat) => ?_ | intro h))
      repeat' ((first | (refine J.beginR rfl (i := 0) rfl hrs ?_) | (apply J.regQ; exact Tryz.mixed; decide +kernel) | (apply J.regL'; exact Tryz.mixed; decide +kernel)) <;> (refine goR ?_; and_intros <;> (try exact trivial) <;> repeat (first | refine fun (Bk : Nat) => ?_ | intro h)))
      exact J.sel (leaveG hrs hrp (L, (au, n, cu), wt) ⟨hsu.symm, i2, fun _ => by rw [hnx]; exact hwt.symm⟩ rfl)
    · rcases nil_or_snoc L with rfl | ⟨o, p, rfl⟩
      · rw [addP_nil hw0] at hsu
        obtain rfl : n = 0 := i2
        clear hal
        generalize hwt : W (t0 + i) = wt at *
        all_goals (refine goR ?_; and_intros <;> (try exact trivial) <;> repeat (first | refine fun (Bk : Nat) => ?_ | intro h))
        repeat' ((first | (refine J.beginR rfl (i := 0) rfl hrs ?_) | (apply J.regA (.q 0 <| .q 1 <| .q 2 <| .q 3 <| .q 4 <| .q 5 <| .q 6 <| .q 7 <| .q 8 <| .e 9 <| .r 10 <| .r 11 <| .nil); exact Tryz.mixed; decide +kernel) | (apply G.cV (g := 66); rfl; rfl; exact fun w' hw' => htt w' hw'.below) | (apply G.cV (g := 78); rfl; rfl; exact fun w' hw' => hpt w' hw'.below) | (apply G.sliceL; rfl; rfl; rfl; rfl; rfl; rfl; rfl; rfl; intro Bs) | (apply G.apV; rfl; rfl; rfl; (repeat (first | exact RAt.head | apply RAt.tail)); exact SrcV.blk (by exact mm) rfl rfl; exact hap; omega; omega; intro a2 c2) | (apply J.regQ; exact Tryz.mixed; decide +kernel) | (apply J.regL'; exact Tryz.mixed; decide +kernel)) <;> (refine goR ?_; and_intros <;> (try exact trivial) <;> repeat (first | refine fun (Bk : Nat) => ?_ | intro h)))
        exact J.sel (leaveG hrs hrp ([(t0 + i, t0 + i + 1, wt)], (a2, 1, c2), wt) ⟨hsu.symm, rfl, fun _ => by rw [hnx]; exact hwt.symm⟩ rfl)
      · rw [addP_snoc o p hw0] at hsu
        obtain rfl : n = o.length + 1 := by rw [i2, List.length_append]; rfl
        obtain ⟨hal1, hal2, hal3, hal4⟩ := hal o p rfl
        have hg1 : (flat (wV tot) (o ++ [p]))[0 + o.length * 5 + 1]? = some (.int .i64 p.2.1) := flat_last_get (wV_len tot) o p 1
        rw [List.length_append] at hLl
        by_cases hm : p.2.1 = t0 + i ∧ p.2.2 = W (t0 + i)
        · rw [if_pos hm] at hsu
          have hls : lst = W (t0 + i) := by
            have h3 := hal1 hm.1
            rw [i3 h3.1, h3.2, hm.2]
          have r1 : setL (flat (wV tot) (o ++ [p])) (0 + o.length * 5 + 1) [.int .i64 (t0 + i + 1)] = flat (wV tot) (o ++ [(p.1, t0 + i + 1, p.2.2)]) := flat_last_set (wV_len tot) o p (p.1, t0 + i + 1, p.2.2) 1 _ rfl
          have l1 : 0 + o.length * 5 + 1 < (flat (wV tot) (o ++ [p])).length := by rw [flat_len (wV_len tot), List.length_append]; show _ < (o.length + 1) * 5; omega
          rw [← hm.2] at hsu
          clear hap
          generalize hwt : W (t0 + i) = wt at *
          have hm1 := hm.1
          refine J.ownOpen (by (repeat (first | exact RAt.head | apply RAt.tail))) (Nat.succ_pos _) fun g cap q1 q2 q3 => ?_
          cases q3
          all_goals (refine goR ?_; and_intros <;> (try exact trivial) <;> repeat (first | refine fun (Bk : Nat) => ?_ | intro h))
          repeat' ((first | (refine J.beginR rfl (i := 0) rfl hrs ?_) | (apply G.ld; rfl; (apply LdV.one; exact CellV.blk (by exact mm) hg1); rfl) | (apply G.s1; rfl; rfl; rfl; (repeat (first | exact RAt.head | apply RAt.tail)); exact ⟨rfl, rfl⟩; exact l1; exact r1) | (apply J.regQ; exact Tryz.mixed; decide +kernel) | (apply J.regL'; exact Tryz.mixed; decide +kernel)) <;> (refine goR ?_; and_intros <;> (try exact trivial) <;> repeat (first | refine fun (Bk : Nat) => ?_ | intro h)))
          refine J.blkCut (g := g) (f := wV tot) (l' := o ++ [(p.1, t0 + i + 1, p.2.2)]) (o.length + 1) (wV_len tot) (by (repeat (first | exact RAt.head | apply RAt.tail))) q1 q2 (by rw [List.length_append]; exact Nat.le_refl _) (List.take_of_length_le (by rw [List.length_append]; exact Nat.le_refl _)) ?_
          exact J.sel (leaveG hrs hrp (o ++ [(p.1, t0 + i + 1, p.2.2)], (some ⟨g, 0, none⟩, o.length + 1, cu), wt) ⟨hsu.symm, by rw [List.length_append]; rfl, fun _ => by rw [hnx]; exact hwt.symm⟩ rfl)
        · rw [if_neg hm] at hsu
          have hno : ¬ (p.2.1 = t0 + i ∧ lst = W (t0 + i)) := fun h => by
            have h3 := hal1 h.1
            exact hm ⟨h.1, by rw [← h3.2, ← i3 h3.1]; exact h.2⟩
          generalize hwt : W (t0 + i) = wt at *
          refine J.ownOpen (by (repeat (first | exact RAt.head | apply RAt.tail))) (Nat.succ_pos _) fun g cap q1 q2 q3 => ?_
          cases q3
          all_goals (refine goR ?_; and_intros <;> (try exact trivial) <;> repeat (first | refine fun (Bk : Nat) => ?_ | intro h))
          repeat' ((first | (refine J.beginR rfl (i := 0) rfl hrs ?_) | (apply G.ld; rfl; (apply LdV.one; exact CellV.blk (by exact mm) hg1); rfl) | (apply J.regQ; exact Tryz.mixed; decide +kernel) | (apply J.regL'; exact Tryz.mixed; decide +kernel)) <;> (refine goR ?_; and_intros <;> (try exact trivial) <;> repeat (first | refine fun (Bk : Nat) => ?_ | intro h)))
          all_goals
            refine J.blkCut (g := g) (f := wV tot) (l' := o ++ [p]) (o.length + 1) (wV_len tot) (by (repeat (first | exact RAt.head | apply RAt.tail))) q1 q2 (by rw [List.length_append]; exact Nat.le_refl _) (List.take_of_length_le (by rw [List.length_append]; exact Nat.le_refl _)) ?_
            all_goals (refine goR ?_; and_intros <;> (try exact trivial) <;> repeat (first | refine fun (Bk : Nat) => ?_ | intro h))
            repeat' ((first | (apply J.regA (.q 0 <| .q 1 <| .q 2 <| .q 3 <| .q 4 <| .q 5 <| .q 6 <| .q 7 <| .q 8 <| .e 9 <| .r 10 <| .r 11 <| .nil); exact Tryz.mixed; decide +kernel) | (apply G.cV (g := 66); rfl; rfl; exact fun w' hw' => htt w' hw'.below) | (apply G.cV (g := 78); rfl; rfl; exact fun w' hw' => hpt w' hw'.below) | (apply G.sliceL; rfl; rfl; rfl; rfl; rfl; rfl; rfl; rfl; intro Bs) | (apply G.apV; rfl; rfl; rfl; (repeat (first | exact RAt.head | apply RAt.tail)); exact SrcV.blk (by exact mm) rfl rfl; exact hap; omega; omega; intro a2 c2) | (apply J.regQ; exact Tryz.mixed; decide +kernel) | (apply J.regL'; exact Tryz.mixed; decide +kernel)) <;> (refine goR ?_; and_intros <;> (try exact trivial) <;> repeat (first | refine fun (Bk : Nat) => ?_ | intro h)))
            exact J.sel (leaveG hrs hrp (o ++ [p] ++ [(t0 + i, t0 + i + 1, wt)], (a2, o.length + 1 + 1, c2), wt) ⟨hsu.symm, by rw [List.length_append, List.length_append]; rfl, fun _ => by rw [hnx]; exact hwt.symm⟩ rfl)
  · intro Bd ⟨L, ⟨au, n, cu⟩, lst⟩ ⟨i1, i2, i3⟩
    dsimp only at i1 i2 i3 ⊢
    rw [hT] at i1
    subst i1
    all_goals (refine go ?_; and_intros <;> (try exact trivial) <;> repeat (first | refine fun (Bk : Nat) => ?_ | intro h))
    refine leaveM (v := .tuple #[.slice au n cu, .int .i64 0]) (ds := [Bd]) Tryz.func60 rfl rfl rfl rfl (RunsTo.two Tryz.results60 (by (first | (apply ResV.tmp; rfl) | (apply ResV.cell; rfl; (first | (apply LdV.one; (first | exact CellV.row0 (by assumption) rfl | exact CellV.rowS (by assumption) rfl | exact CellV.rowSS (by assumption) rfl | (apply CellV.blk; exact mm; rfl))) | (apply LdV.aggBlk; exact mm; rfl) | (apply LdV.part; exact mm; rfl; rfl) | (apply LdV.aggRow; assumption; rfl) | (apply LdV.partRow; assumption; rfl; rfl))))) (by (first | (apply ResV.tmp; rfl) | (apply ResV.cell; rfl; (first | (apply LdV.one; (first | exact CellV.row0 (by assumption) rfl | exact CellV.rowS (by assumption) rfl | exact CellV.rowSS (by assumption) rfl | (apply CellV.blk; exact mm; rfl))) | (apply LdV.aggBlk; exact mm; rfl) | (apply LdV.part; exact mm; rfl; rfl) | (apply LdV.aggRow; assumption; rfl) | (apply LdV.partRow; assumption; rfl; rfl)))))) (List.Perm.refl _) fun w' hw' => ?_
    exact satW hw' (i := 2) rfl i2.symm fun v => .tuple #[v, .int .i64 0]
  · intro Bd _ _ h
    exact h.elim
end Go.Proofs.YtceaamdomkjmlaaGreatDoor
/-
  Contracts of rivers: Parts of both; equal parts.
-/
namespace Go.Sl
open Go.RowKit
variable {C : Ctx} {st : List (Nat × Value)} {M : List Row} {k : List Item} {q q' : Md} {all rest : List Oper} {d : Nat} {ty : TypeId} {pos : String} {after : Array Edge} {gd : Option (Nat × Bool)}
/-- A struct is not unlike itself. -/
theorem G.neE {T : TypeId} {x y : Operand} {yt : TypeId} {cs : Array Value} (hx : evS st x = some (.agg cs)) (hy : evS st y = some (.agg cs)) (hE : ∀ w, (Op.equal T (.agg cs) (.agg cs)).run C.P w = .ok true w) (hG : C.P.eqGuardType C.P.depth T = false) (hs : sideB all st gd d C.N q.calm = some q') (h : G q' C all ((d, .bool false) :: st) M rest k) :
    G q C all st M ({ dst := some d, op := .binOp .neq T x y yt, type := ty, pos, after, guard := gd } :: rest) k := by
  obtain ⟨g1, g2, g3⟩ := sideB_ok hs
  refine G.op (OpV.of fun ac w hf _ dst pos after guard => ?_) g1 rfl g2 g3 h
  have hg : (eqGuard .neq T x y (.agg cs) (.agg cs)).run C.P w = .ok () w := run_eqGuard_agg w .neq T x y _ _ hG
  have e : (binOp .neq T (.agg cs) (.agg cs)).run C.P w = .ok (.bool false) w := by
    show ((Op.equal T _ _).bind fun b => Sem.pure (Value.bool (!b))).run C.P w = _
    rw [Sem.run_bind', hE]; rfl
  simp only [execOp, hf.eval hx, hf.eval hy, Sem.run_bind, hg, e, Result.andThen_ok]; rfl
end Go.Sl
namespace Go.Proofs.YtceaamdomkjmlaaGreatDoor
open Go.RowKit Go.Sl Go.Num
theorem eqWt (s t : Int) (a : Bool) (x u : ByteArray) (w : World) : (Op.equal 83 (.agg #[.int .i64 s, .int .i64 t, .bool a, .string x, .string u]) (.agg #[.int .i64 s, .int .i64 t, .bool a, .string x, .string u])).run Tryz.prog w = .ok true w := by simp [go_sem, Op.equal, Op.maxDepth]
theorem eqgWt : Tryz.prog.eqGuardType Tryz.prog.depth 83 = false := by kernel_rfl
theorem sameParts_holds (a b : Option Addr) (tot : Int) (l : List Prt) (c d : Nat) (w : World) (hA : SlAt w a 5 (l.map (wV tot))) (hB : SlAt w b 5 (l.map (wV tot))) (hl : l.length ≤ 1000000000) :
    Calls Tryz.prog 29 #[.slice a l.length c, .slice b l.length d] w fun e w' => e = .returned (.bool true) ∧ Below w.heap.size w w' := by
  refine enterA [(0, .slice a l.length c), (1, .slice b l.length d)] Tryz.func29 Tryz.ntmps29 ?_
  all_goals (refine go ?_; and_intros <;> (try exact trivial) <;> repeat (first | refine fun (Bk : Nat) => ?_ | intro h))
  refine J.loop (c := _) (0 : Nat) (fun s => l.length - s) (fun s => [(0, .slice a l.length c), (1, .slice b l.length d), (5, .int .i64 s)]) (fun s => []) (fun s => s ≤ l.length) ?_ sbT sbL ?_
  · exact Nat.zero_le _
  intro i h1 ih
  by_cases hi : i < l.length
  · obtain ⟨ba, oa, rfl, hra⟩ := SlAt.all hA (by omega)
    obtain ⟨bb, ob, rfl, hrb⟩ := SlAt.all hB (by omega)
    have hr1 := hra i hi
    have hr2 := hrb i hi
    have ih := ih (i + 1) hi (by omega)
    clear hra hrb
    generalize l[i] = p at *
    obtain ⟨f, t, x⟩ := p
    dsimp only [wV] at hr1 hr2
    generalize rQ ((x : Rat) / (tot : Rat)) = Q at *
    obtain ⟨ng, nu, de⟩ := Q
    dsimp only [qV, List.cons_append, List.nil_append] at hr1 hr2
    all_goals (refine go ?_; and_intros <;> (try exact trivial) <;> repeat (first | refine fun (Bk : Nat) => ?_ | intro h))
    repeat' ((first | (apply G.neE; rfl; rfl; exact fun w => eqWt _ _ _ _ _ w; exact eqgWt; rfl)) <;> (refine go ?_; and_intros <;> (try exact trivial) <;> repeat (first | refine fun (Bk : Nat) => ?_ | intro h)))
    exact J.fin ih
  · skip
    all_goals (refine go ?_; and_intros <;> (try exact trivial) <;> repeat (first | refine fun (Bk : Nat) => ?_ | intro h))
    all_goals refine ret1b Tryz.func29 Tryz.results29 ?_
    all_goals rfl
/-- The parts of what passes a gauge that arrive at another one, or the error. -/
def partsE (l : List Rch) (fr to f t : Int) : List Prt × Int := if (alongE l fr to).2 ≠ 0 then ([], (alongE l fr to).2) else arrE (alongE l fr to).1 f t
theorem vParts_holds (a : Option Addr) (l : List Rch) (c : Nat) (fr to f t : Int) (w : World) (hA : SlAt w a 2 (l.map rcV)) (hK : KerAt w l) :
    Calls Tryz.prog 21 #[.slice a l.length c, .int .i64 fr, .int .i64 to, .agg #[.int .i64 f, .int .i64 t]] w (RetW (fun v => .tuple #[v, .int .i64 (partsE l fr to f t).2]) (sumL (alongE l fr to).1) w (partsE l fr to f t).1) := by
  have ha := fun w' (hb : Below w.heap.size w w') => vAlong_holds a l c fr to w' (hA.below hb) (hK.below hb)
  rw [partsE]
  generalize (alongE l fr to).1 = K at *
  generalize (alongE l fr to).2 = E at *
  by_cases h0 : E = 0
  · subst h0
    rw [if_neg (fun h => h rfl)]
    have hr := fun w' ka kc hk => vArrive_holds ka K kc f t w' hk
    generalize sumL K = tot at *
    generalize (arrE K f t).1 = L at *
    generalize (arrE K f t).2 = E2 at *
    refine enterA [(0, .slice a l.length c), (1, .int .i64 fr), (2, .int .i64 to), (3, .agg #[.int .i64 f, .int .i64 t])] Tryz.func21 Tryz.ntmps21 ?_
    all_goals (refine go ?_; and_intros <;> (try exact trivial) <;> repeat (first | refine fun (Bk : Nat) => ?_ | intro h))
    repeat' ((first | (apply G.cN (g := 19) (fun a' c' => .tuple #[.agg #[.slice a' K.length c'], .int .i64 0]) (K.map isV); rfl; rfl; exact fun w' hw' => ha w' hw'.below; intro a1 c1 hp1 hq1) | (apply G.cN (g := 60) (fun a' c' => .tuple #[.slice a' L.length c', .int .i64 E2]) (L.map (wV tot)); rfl; rfl; exact fun w' hw' => hr w' a1 c1 (hw'.sl (by exact mm)); intro a2 c2 hp2 hq2)) <;> (refine go ?_; and_intros <;> (try exact trivial) <;> repeat (first | refine fun (Bk : Nat) => ?_ | intro h)))
    (refine ret2 Tryz.func21 Tryz.results21 ?_; intro w' hw)
    exact ⟨a2, c2, rfl, hw.sl (by exact mm), hq2, hw.below⟩
  · rw [if_pos h0]
    dsimp only
    refine enterA [(0, .slice a l.length c), (1, .int .i64 fr), (2, .int .i64 to), (3, .agg #[.int .i64 f, .int .i64 t])] Tryz.func21 Tryz.ntmps21 ?_
    all_goals (refine go ?_; and_intros <;> (try exact trivial) <;> repeat (first | refine fun (Bk : Nat) => ?_ | intro h))
    repeat' ((first | (apply G.cN (g := 19) (fun a' c' => .tuple #[.agg #[.slice a' K.length c'], .int .i64 E]) (K.map isV); rfl; rfl; exact fun w' hw' => ha w' hw'.below; intro a1 c1 hp1 hq1)) <;> (refine go ?_; and_intros <;> (try exact trivial) <;> repeat (first | refine fun (Bk : Nat) => ?_ | intro h)))
    (refine ret2 Tryz.func21 Tryz.results21 ?_; intro w' hw)
    exact retW_nil (fun v => .tuple #[v, .int .i64 E]) _ hw.below
end Go.Proofs.YtceaamdomkjmlaaGreatDoor
/-
  Contracts of rivers: Inflow of both; equal inflows.
-/
namespace Go.Proofs.YtceaamdomkjmlaaGreatDoor
open Go.RowKit Go.Sl Go.Num
/-- What flows in from a gauge, in memory. -/
structure Ifl where
  g : Int
  L : List Prt
  tot : Int
  adr : Option Addr
  cap : Nat
def ifV (r : Ifl) : List Value := [.int .i64 r.g, .slice r.adr r.L.length r.cap]
theorem ifV_len (r : Ifl) : (ifV r).length = 2 := rfl
def ifL (r : Ifl) : List (List Value) := r.L.map (wV r.tot)
def coreI (r : Ifl) : Int × List Prt × Int := (r.g, r.L, r.tot)
/-- The inflows of some gauges, or the first error. -/
def infF (l : List Rch) (g f t : Int) : List (Int × List Prt × Int) → List Int → List (Int × List Prt × Int) × Int
  | out, [] => (out, 0)
  | out, u :: r => if (partsE l u g f t).2 ≠ 0 then ([], (partsE l u g f t).2) else infF l g f t (out ++ [(u, (partsE l u g f t).1, sumL (alongE l u g).1)]) r
def inflowE (l : List Rch) (g f t : Int) : List (Int × List Prt × Int) × Int := if errG l g ≠ 0 then ([], errG l g) else infF l g f t [] (aboveL l g)
abbrev RetF (G : List (Int × List Prt × Int)) (F : Value → Value) := RetN ifV 2 Ifl.adr 5 ifL (fun R => R.map coreI = G) (fun R a c => F (.slice a R.length c))
theorem retF_nil {w w' : World} (F : Value → Value) (hb : Below w.heap.size w w') : RetF [] F w (.returned (F (.slice none 0 0))) w' :=
  ⟨[], none, 0, rfl, rfl, ⟨SlAt.nil, fun r hr => by cases hr⟩, (fun p hp => by cases hp), (fun r hr => by cases hr), hb⟩
theorem retF_sat {w0 w : World} {M : List Row} {i j E base N : Nat} {a : Option Addr} {n c : Nat} {R : List Ifl} (hw : Sat w0 M w) (hm : M[i]? = some (.own base (.slice a n c) E 2 n (flat ifV R))) (hf : M[j]? = some (famRow N Ifl.adr 5 ifL R)) (hn : R.length = n) (hq : ∀ r ∈ R, ∀ p, r.adr = some p → w0.heap.size ≤ p.block) (F : Value → Value) : RetF (R.map coreI) F w0 (.returned (F (.slice a n c))) w := by
  have hmem := List.mem_of_getElem? hm
  exact ⟨R, a, c, rfl, by show _ = Ending.returned (F (.slice a R.length c)); rw [hn], ⟨SlAt.ofOwn ifV_len (hw.hold _ hmem) hn, hw.fam (List.mem_of_getElem? hf)⟩, fun p hp => ((hw.old _ hmem).2 p.block (by subst hp; rfl)).1, hq, hw.below⟩
theorem vInflow_holds (a : Option Addr) (l : List Rch) (c : Nat) (g f t : Int) (w : World) (hA : SlAt w a 2 (l.map rcV)) (hK : KerAt w l) :
    Calls Tryz.prog 23 #[.slice a l.length c, .int .i64 g, .agg #[.int .i64 f, .int .i64 t]] w (RetF (inflowE l g f t).1 (fun v => .tuple #[v, .int .i64 (inflowE l g f t).2]) w) := by
  have ha := fun w' (hb : Below w.heap.size w w') => vAbove_holds a l c g w' (hA.below hb) (hK.below hb)
  rw [inflowE]
  rw [aboveE] at ha
  by_cases h0 : errG l g = 0
  case neg =>
    rw [if_pos h0] at ha ⊢
    dsimp only at ha ⊢
    generalize errG l g = E at *
    refine enterA [(0, .slice a l.length c), (1, .int .i64 g), (2, .agg #[.int .i64 f, .int .i64 t])] Tryz.func23 Tryz.ntmps23 ?_
    all_goals (refine go ?_; and_intros <;> (try exact trivial) <;> repeat (first | refine fun (Bk : Nat) => ?_ | intro h))
    repeat' ((first | (apply G.cN (g := 13) (fun a' c' => .tuple #[.slice a' 0 c', .int .i64 E]) (([] : List Int).map isV); rfl; rfl; exact fun w' hw' => ha w' hw'.below; intro a1 c1 hp1 hq1)) <;> (refine go ?_; and_intros <;> (try exact trivial) <;> repeat (first | refine fun (Bk : Nat) => ?_ | intro h)))
    (refine ret2 Tryz.func23 Tryz.results23 ?_; intro w' hw)
    exact retF_nil (fun v => .tuple #[v, .int .i64 E]) hw.below
  rw [if_neg (fun h => h h0)] at ha ⊢
  have hul : (aboveL l g).length ≤ 40 := by
    have := abU_len l l.length g
    have := (riv_of (errG_ok h0).1).len
    rw [show aboveL l g = abU l l.length g from rfl]; omega
  dsimp only at ha
  generalize aboveL l g = U at *
  generalize hT : infF l g f t [] U = T
  obtain ⟨T1, T2⟩ := T
  dsimp only
  refine enterA [(0, .slice a l.length c), (1, .int .i64 g), (2, .agg #[.int .i64 f, .int .i64 t])] Tryz.func23 Tryz.ntmps23 ?_
  all_goals (refine go ?_; and_intros <;> (try exact trivial) <;> repeat (first | refine fun (Bk : Nat) => ?_ | intro h))
  repeat' ((first | (apply G.cN (g := 13) (fun a' c' => .tuple #[.slice a' U.length c', .int .i64 0]) (U.map isV); rfl; rfl; exact fun w' hw' => ha w' hw'.below; intro a1 c1 hp1 hq1)) <;> (refine go ?_; and_intros <;> (try exact trivial) <;> repeat (first | refine fun (Bk : Nat) => ?_ | intro h)))
  apply J.nilOwn (E := 99) (size := 2)
  apply J.fam0 Ifl.adr 5 ifL
  refine J.loop (c := _) ((0, [], (none, 0, 0)) : Nat × List Ifl × (Option Addr × Nat × Nat)) (fun s => U.length - s.1) (fun s => [(0, .slice a l.length c), (1, .int .i64 g), (5, .pointer (some ⟨_, 0, none⟩)), (10, .slice s.2.2.1 s.2.2.2.1 s.2.2.2.2), (24, .slice a1 U.length c1), (25, .int .i64 U.length), (26, .int .i64 s.1)]) (fun s => [famRow w.heap.size Ifl.adr 5 ifL s.2.1, .own 0 (.slice s.2.2.1 s.2.2.2.1 s.2.2.2.2) 99 2 s.2.2.2.1 (flat ifV s.2.1), slRow w.heap.size a1 1 (U.map isV), .blk _ 25 [.int .i64 f, .int .i64 t] 2]) (fun s => s.1 ≤ U.length ∧ s.2.2.2.1 = s.2.1.length ∧ infF l g f t (s.2.1.map coreI) (U.drop s.1) = (T1, T2) ∧ s.2.1.length = s.1 ∧ ∀ r ∈ s.2.1, ∀ p, r.adr = some p → w.heap.size ≤ p.block) ?_ sbT sbL ?_
  · exact ⟨Nat.zero_le _, rfl, hT, rfl, fun r hr => by cases hr⟩
  clear hT ha
  intro ⟨i, R, ⟨au, n, cu⟩⟩ ⟨i1, i2, i3, i4, i5⟩ ih
  dsimp only at i1 i2 i3 i4 i5 ⊢
  by_cases hi : i < U.length
  · obtain ⟨b1, o1, rfl⟩ := hp1 (by rw [List.length_map]; omega)
    have hgt := fun {C M} (hm : slRow w.heap.size (some ⟨b1, o1, none⟩) 1 (U.map isV) ∈ M) => CellV.sl0 (C := C) (M := M) (f := isV) (l := U) hm hi rfl
    rw [List.drop_eq_getElem_cons hi, infF] at i3
    have hp := fun w' (hb : Below w.heap.size w w') => vParts_holds a l c U[i] g f t w' (hA.below hb) (hK.below hb)
    have hap : ∀ (P : List Prt) (tot : Int) (a2 : Option Addr) (c2 : Nat), flat ifV R ++ ifV ⟨U[i], P, tot, a2, c2⟩ = flat ifV (R ++ [⟨U[i], P, tot, a2, c2⟩]) := fun P tot a2 c2 => flat1 ifV R ⟨U[i], P, tot, a2, c2⟩
    have ih := fun (P : List Prt) (tot : Int) (a2 : Option Addr) (c2 : Nat) (h : infF l g f t (R.map coreI ++ [(U[i], P, tot)]) (U.drop (i + 1)) = (T1, T2)) (hq : ∀ p, a2 = some p → w.heap.size ≤ p.block) (x3 : Option Addr × Nat × Nat) (hx : x3.2.1 = n + 1) => ih (i + 1, R ++ [⟨U[i], P, tot, a2, c2⟩], x3) ⟨hi, by dsimp only; rw [hx, List.length_append, i2]; rfl, by dsimp only; rw [List.map_append]; exact h, by dsimp only; rw [List.length_append, i4]; rfl, fun r hr p hp => by
      rcases List.mem_append.1 hr with hr | hr
      · exact i5 r hr p hp
      · rw [List.mem_singleton.1 hr] at hp; exact hq p hp⟩ (by dsimp only; omega)
    generalize U[i] = u at *
    generalize sumL (alongE l u g).1 = tot at *
    have hap := hap (partsE l u g f t).1 tot
    have ih := ih (partsE l u g f t).1 tot
    generalize (partsE l u g f t).1 = P at *
    generalize (partsE l u g f t).2 = E at *
    by_cases he : E = 0
    · rw [if_neg (fun h => h he)] at i3
      have ih := fun a2 c2 => ih a2 c2 i3
      dsimp only [ifV] at hap
      all_goals (refine go ?_; and_intros <;> (try exact trivial) <;> repeat (first | refine fun (Bk : Nat) => ?_ | intro h))
      repeat' ((first | (apply G.ld; rfl; (apply LdV.one; exact hgt (by exact mm)); rfl) | (apply G.cN (g := 21) (fun a' c' => .tuple #[.slice a' P.length c', .int .i64 E]) (P.map (wV tot)); rfl; rfl; exact fun w' hw' => hp w' hw'.below; intro a2 c2 hp2 hq2) | (apply G.sliceL; rfl; rfl; rfl; rfl; rfl; rfl; rfl; rfl; intro Bs) | (apply G.apV; rfl; rfl; rfl; (repeat (first | exact RAt.head | apply RAt.tail)); exact SrcV.blk (by exact mm) rfl rfl; exact hap _ _; omega; omega; intro a3 c3)) <;> (refine go ?_; and_intros <;> (try exact trivial) <;> repeat (first | refine fun (Bk : Nat) => ?_ | intro h)))
      refine J.famAdd (r := (⟨u, P, tot, a2, c2⟩ : Ifl)) (o := R) mm mm ?_
      exact J.finS (ih a2 c2 hq2 (a3, n + 1, c3) rfl)
    · rw [if_pos he] at i3
      have e1 : [] = T1 := (Prod.mk.inj i3).1
      have e2 : E = T2 := (Prod.mk.inj i3).2
      subst e1 e2
      clear ih i3
      all_goals (refine go ?_; and_intros <;> (try exact trivial) <;> repeat (first | refine fun (Bk : Nat) => ?_ | intro h))
      repeat' ((first | (apply G.ld; rfl; (apply LdV.one; exact hgt (by exact mm)); rfl) | (apply G.cN (g := 21) (fun a' c' => .tuple #[.slice a' P.length c', .int .i64 E]) (P.map (wV tot)); rfl; rfl; exact fun w' hw' => hp w' hw'.below; intro a2 c2 hp2 hq2)) <;> (refine go ?_; and_intros <;> (try exact trivial) <;> repeat (first | refine fun (Bk : Nat) => ?_ | intro h)))
      (refine ret2 Tryz.func23 Tryz.results23 ?_; intro w' hw)
      exact retF_nil (fun v => .tuple #[v, .int .i64 E]) hw.below
  · rw [show U.drop i = [] from List.drop_eq_nil_of_le (by omega), infF] at i3
    cases i3
    clear ih
    all_goals (refine go ?_; and_intros <;> (try exact trivial) <;> repeat (first | refine fun (Bk : Nat) => ?_ | intro h))
    (refine ret2 Tryz.func23 Tryz.results23 ?_; intro w' hw)
    exact retF_sat hw (i := 1) (j := 0) rfl rfl i2.symm i5 fun v => .tuple #[v, .int .i64 0]
theorem sameFlows_holds (a b : Option Addr) (R S : List Ifl) (c d : Nat) (w : World) (hA : NstAt ifV 2 Ifl.adr 5 ifL w a R) (hB : NstAt ifV 2 Ifl.adr 5 ifL w b S) (hs : R.map coreI = S.map coreI) (hl : R.length ≤ 1000000 ∧ ∀ r ∈ R, r.L.length ≤ 1000000000) :
    Calls Tryz.prog 30 #[.slice a R.length c, .slice b S.length d] w fun e w' => e = .returned (.bool true) ∧ Below w.heap.size w w' := by
  have hlen : S.length = R.length := by
    have := congrArg List.length hs
    simpa using this.symm
  refine enterA [(0, .slice a R.length c), (1, .slice b S.length d)] Tryz.func30 Tryz.ntmps30 ?_
  all_goals (refine go ?_; and_intros <;> (try exact trivial) <;> repeat (first | refine fun (Bk : Nat) => ?_ | intro h))
  refine J.loop (c := _) (0 : Nat) (fun s => R.length - s) (fun s => [(0, .slice a R.length c), (1, .slice b S.length d), (5, .int .i64 s)]) (fun s => []) (fun s => s ≤ R.length) ?_ sbT sbL ?_
  · exact Nat.zero_le _
  intro i h1 ih
  by_cases hi : i < R.length
  · have hi2 : i < S.length := by omega
    obtain ⟨ba, oa, rfl, hra⟩ := SlAt.all hA.out (by omega)
    obtain ⟨bb, ob, rfl, hrb⟩ := SlAt.all hB.out (by omega)
    have hr1 := hra i hi
    have hr2 := hrb i hi2
    have ih := ih (i + 1) hi (by omega)
    have hc : coreI R[i] = coreI S[i] := by
      have := congrArg (·[i]?) hs
      simpa [hi, hi2] using this
    have k1 := hA.inn _ (List.getElem_mem hi)
    have k2 := hB.inn _ (List.getElem_mem hi2)
    have k3 := hl.2 _ (List.getElem_mem hi)
    clear hra hrb
    generalize R[i] = r at *
    generalize S[i] = s at *
    obtain ⟨g1, L1, t1, a1, c1⟩ := r
    obtain ⟨g2, L2, t2, a2, c2⟩ := s
    dsimp only [coreI] at hc
    obtain ⟨e1, hc2⟩ := Prod.mk.inj hc
    obtain ⟨e2, e3⟩ := Prod.mk.inj hc2
    subst e1 e2 e3
    clear hc hc2
    dsimp only [ifV, ifL] at hr1 hr2 k1 k2 k3
    have hsp := fun w' (hb : Below w.heap.size w w') => sameParts_holds a1 a2 t1 L1 c1 c2 w' (k1.below hb) (k2.below hb) k3
    all_goals (refine go ?_; and_intros <;> (try exact trivial) <;> repeat (first | refine fun (Bk : Nat) => ?_ | intro h))
    repeat' ((first | (apply G.cV (g := 29); rfl; rfl; exact fun w' hw' => hsp w' hw'.below)) <;> (refine go ?_; and_intros <;> (try exact trivial) <;> repeat (first | refine fun (Bk : Nat) => ?_ | intro h)))
    exact J.fin ih
  · skip
    all_goals (refine go ?_; and_intros <;> (try exact trivial) <;> repeat (first | refine fun (Bk : Nat) => ?_ | intro h))
    all_goals refine ret1b Tryz.func30 Tryz.results30 ?_
    all_goals rfl
end Go.Proofs.YtceaamdomkjmlaaGreatDoor
/-
  Contracts: equality and search in lists of numbers; what the law's examples are made of.
-/
namespace Go.Proofs.YtceaamdomkjmlaaGreatDoor
open Go.RowKit Go.Sl Go.Num
theorem equalI_holds (a b : Option Addr) (l m : List Int) (c d : Nat) (w : World) (hA : SlAt w a 1 (l.map isV)) (hB : SlAt w b 1 (m.map isV)) (hn : l.length ≤ 1000000000) :
    Calls Tryz.prog 35 #[.slice a l.length c, .slice b m.length d] w fun e w' => e = .returned (.bool (decide (l = m))) ∧ Below w.heap.size w w' := by
  refine enterA [(0, .slice a l.length c), (1, .slice b m.length d)] Tryz.func35 Tryz.ntmps35 ?_
  by_cases hl : l.length = m.length
  case neg =>
    rw [decide_eq_false (fun e => hl (by rw [e]))]
    all_goals (refine go ?_; and_intros <;> (try exact trivial) <;> repeat (first | refine fun (Bk : Nat) => ?_ | intro h))
    all_goals refine ret1b Tryz.func35 Tryz.results35 ?_
    all_goals rfl
  all_goals (refine go ?_; and_intros <;> (try exact trivial) <;> repeat (first | refine fun (Bk : Nat) => ?_ | intro h))
  refine J.loop (c := _) (0 : Nat) (fun s => l.length - s) (fun s => [(0, .slice a l.length c), (1, .slice b m.length d), (12, .int .i64 l.length), (13, .int .i64 s)]) (fun s => []) (fun s => s ≤ l.length ∧ ∀ i (h : i < l.length) (h2 : i < m.length), i < s → l[i] = m[i]) ?_ sbT sbL ?_
  · exact ⟨Nat.zero_le _, fun i _ _ h => absurd h (Nat.not_lt_zero _)⟩
  intro i ⟨h1, h2⟩ ih
  by_cases hi : i < l.length
  · have hj : i < m.length := by omega
    obtain ⟨ba, oa, rfl, hra⟩ := SlAt.all hA (by omega)
    obtain ⟨bb, ob, rfl, hrb⟩ := SlAt.all hB (by omega)
    have hri := hra i hi
    have hrj := hrb i hj
    by_cases he : l[i] = m[i]
    · have ih := ih (i + 1) ⟨hi, fun j q1 q2 q3 => by
        rcases Nat.lt_or_ge j i with h | h
        · exact h2 j q1 q2 h
        · obtain rfl : j = i := by omega
          exact he⟩ (by omega)
      clear hra hrb h2
      generalize l[i] = y at *
      generalize m[i] = z at *
      dsimp only [isV] at hri hrj
      all_goals (refine go ?_; and_intros <;> (try exact trivial) <;> repeat (first | refine fun (Bk : Nat) => ?_ | intro h))
      exact J.fin ih
    · rw [decide_eq_false (fun e => he (by subst e; rfl))]
      clear hra hrb h2 ih
      generalize l[i] = y at *
      generalize m[i] = z at *
      dsimp only [isV] at hri hrj
      all_goals (refine go ?_; and_intros <;> (try exact trivial) <;> repeat (first | refine fun (Bk : Nat) => ?_ | intro h))
      all_goals refine ret1b Tryz.func35 Tryz.results35 ?_
      all_goals rfl
  · obtain rfl : i = l.length := by omega
    rw [decide_eq_true (eq_all hl h2)]
    clear ih
    all_goals (refine go ?_; and_intros <;> (try exact trivial) <;> repeat (first | refine fun (Bk : Nat) => ?_ | intro h))
    all_goals refine ret1b Tryz.func35 Tryz.results35 ?_
    all_goals rfl
theorem index_ne {L : List Int} {x : Int} {i : Nat} (h : ∀ j (hj : j < L.length), j < i → L[j] ≠ x) (hi : L.length ≤ i) : x ∉ L := fun hm => by
  obtain ⟨j, hj, rfl⟩ := List.getElem_of_mem hm
  exact h j hj (by omega) rfl
/-- Where a number stands in a list, or -1. -/
theorem indexI_holds (a : Option Addr) (L : List Int) (c : Nat) (x : Int) (w : World) (hA : SlAt w a 1 (L.map isV)) (hl : L.length ≤ 1000000000) :
    Calls Tryz.prog 64 #[.slice a L.length c, .int .i64 x] w fun e w' => ∃ z : Int, (0 ≤ z ↔ x ∈ L) ∧ e = .returned (.int .i64 z) ∧ Below w.heap.size w w' := by
  refine enterA [(0, .slice a L.length c), (1, .int .i64 x)] Tryz.func64 Tryz.ntmps64 ?_
  all_goals (refine go ?_; and_intros <;> (try exact trivial) <;> repeat (first | refine fun (Bk : Nat) => ?_ | intro h))
  refine J.loop (c := _) (0 : Nat) (fun s => L.length - s) (fun s => [(0, .slice a L.length c), (1, .int .i64 x), (7, .int .i64 L.length), (8, .int .i64 s)]) (fun s => []) (fun s => s ≤ L.length ∧ ∀ j (hj : j < L.length), j < s → L[j] ≠ x) ?_ sbT sbL ?_
  · exact ⟨Nat.zero_le _, fun j hj h => absurd h (Nat.not_lt_zero _)⟩
  intro i ⟨h1, h2⟩ ih
  by_cases hi : i < L.length
  · obtain ⟨ba, oa, rfl, hra⟩ := SlAt.all hA (by omega)
    have hri := hra i hi
    have hm := List.getElem_mem hi
    have ih := fun (h : L[i] ≠ x) => ih (i + 1) ⟨hi, fun j hj h3 => by
      rcases Nat.lt_or_ge j i with h4 | h4
      · exact h2 j hj h4
      · obtain rfl : j = i := by omega
        exact h⟩ (by omega)
    clear hra h2
    generalize L[i] = y at *
    dsimp only [isV] at hri
    by_cases he : x = y
    · subst he
      clear ih
      all_goals (refine go ?_; and_intros <;> (try exact trivial) <;> repeat (first | refine fun (Bk : Nat) => ?_ | intro h))
      refine ret1 Tryz.func64 Tryz.results64 fun w' hw => ⟨i, ⟨fun _ => hm, fun _ => by omega⟩, rfl, hw.below⟩
    · have ih := ih fun h => he h.symm
      all_goals (refine go ?_; and_intros <;> (try exact trivial) <;> repeat (first | refine fun (Bk : Nat) => ?_ | intro h))
      exact J.fin ih
  · have hn := index_ne h2 (by omega)
    clear ih
    all_goals (refine go ?_; and_intros <;> (try exact trivial) <;> repeat (first | refine fun (Bk : Nat) => ?_ | intro h))
    refine ret1 Tryz.func64 Tryz.results64 fun w' hw => ⟨-1, ⟨fun h => by omega, fun h => absurd h hn⟩, rfl, hw.below⟩
theorem containsI_holds (a : Option Addr) (L : List Int) (c : Nat) (x : Int) (w : World) (hA : SlAt w a 1 (L.map isV)) (hl : L.length ≤ 1000000000) :
    Calls Tryz.prog 32 #[.slice a L.length c, .int .i64 x] w fun e w' => e = .returned (.bool (decide (x ∈ L))) ∧ Below w.heap.size w w' := by
  have hc := fun w' (hb : Below w.heap.size w w') => indexI_holds a L c x w' (hA.below hb) hl
  refine enterA [(0, .slice a L.length c), (1, .int .i64 x)] Tryz.func32 Tryz.ntmps32 ?_
  by_cases hm : x ∈ L
  · rw [decide_eq_true hm]
    all_goals (refine go ?_; and_intros <;> (try exact trivial) <;> repeat (first | refine fun (Bk : Nat) => ?_ | intro h))
    repeat' ((first | (refine G.cX (X := { z : Int // 0 ≤ z ↔ x ∈ L }) (v := fun z => .int .i64 z.1) (fun w' hb => (hc w' hb).mono fun e w2 ⟨z, h1, h2, h3⟩ => ⟨⟨z, h1⟩, h2, h3⟩) ?_; rintro ⟨z, hz⟩; have hz := hz.2 hm; dsimp only)) <;> (refine go ?_; and_intros <;> (try exact trivial) <;> repeat (first | refine fun (Bk : Nat) => ?_ | intro h)))
    all_goals refine ret1b Tryz.func32 Tryz.results32 ?_
    all_goals rfl
  · rw [decide_eq_false hm]
    all_goals (refine go ?_; and_intros <;> (try exact trivial) <;> repeat (first | refine fun (Bk : Nat) => ?_ | intro h))
    repeat' ((first | (refine G.cX (X := { z : Int // 0 ≤ z ↔ x ∈ L }) (v := fun z => .int .i64 z.1) (fun w' hb => (hc w' hb).mono fun e w2 ⟨z, h1, h2, h3⟩ => ⟨⟨z, h1⟩, h2, h3⟩) ?_; rintro ⟨z, hz⟩; have hz : z < 0 := Int.not_le.1 fun h => hm (hz.1 h); dsimp only)) <;> (refine go ?_; and_intros <;> (try exact trivial) <;> repeat (first | refine fun (Bk : Nat) => ?_ | intro h)))
    all_goals refine ret1b Tryz.func32 Tryz.results32 ?_
    all_goals rfl
theorem weights_holds (v : Value) (w : World) (hv : ∃ a n c, v = .slice a n c) : Calls Tryz.prog 46 #[v] w fun e w' => e = .returned (.agg #[v]) ∧ Below w.heap.size w w' := by
  obtain ⟨a, n, c, rfl⟩ := hv
  refine enterA [(0, .slice a n c)] Tryz.func46 Tryz.ntmps46 ?_
  all_goals (refine go ?_; and_intros <;> (try exact trivial) <;> repeat (first | refine fun (Bk : Nat) => ?_ | intro h))
  all_goals refine ret1b Tryz.func46 Tryz.results46 ?_
  all_goals rfl
theorem part_holds (f t den : Int) (w : World) (h1 : 0 < den) (h2 : den ≤ 999999999999999) : Calls Tryz.prog 48 #[.int .i64 f, .int .i64 t, .int .i64 den] w fun e w' => e = .returned (.agg (wV den (f, t, 1)).toArray) ∧ Below w.heap.size w w' := by
  have hm := fun w' (_ : Below w.heap.size w w') => make_holds 1 den w' (by decide) (by decide) (by omega) h2 (by omega)
  unfold wV
  dsimp only
  generalize rQ (((1 : Int) : Rat) / (den : Rat)) = Q at *
  refine enterA [(0, .int .i64 f), (1, .int .i64 t), (2, .int .i64 den)] Tryz.func48 Tryz.ntmps48 ?_
  all_goals (refine go ?_; and_intros <;> (try exact trivial) <;> repeat (first | refine fun (Bk : Nat) => ?_ | intro h))
  repeat' ((first | (refine G.cvb hm ?_)) <;> (refine go ?_; and_intros <;> (try exact trivial) <;> repeat (first | refine fun (Bk : Nat) => ?_ | intro h)))
  all_goals refine ret1b Tryz.func48 Tryz.results48 ?_
  all_goals rfl
/-- A list without an error that is the expected one. -/
theorem is_holds (a b : Option Addr) (l : List Int) (c d : Nat) (w : World) (hA : SlAt w a 1 (l.map isV)) (hB : SlAt w b 1 (l.map isV)) (hn : l.length ≤ 1000000000) :
    Calls Tryz.prog 47 #[.slice a l.length c, .int .i64 0, .slice b l.length d] w fun e w' => e = .returned (.bool true) ∧ Below w.heap.size w w' := by
  have he := fun w' (hb : Below w.heap.size w w') => equalI_holds a b l l c d w' (hA.below hb) (hB.below hb) hn
  rw [decide_eq_true rfl] at he
  refine enterA [(0, .slice a l.length c), (1, .int .i64 0), (2, .slice b l.length d)] Tryz.func47 Tryz.ntmps47 ?_
  all_goals (refine go ?_; and_intros <;> (try exact trivial) <;> repeat (first | refine fun (Bk : Nat) => ?_ | intro h))
  repeat' ((first | (refine G.cvb he ?_)) <;> (refine go ?_; and_intros <;> (try exact trivial) <;> repeat (first | refine fun (Bk : Nat) => ?_ | intro h)))
  all_goals refine ret1b Tryz.func47 Tryz.results47 ?_
  all_goals rfl
end Go.Proofs.YtceaamdomkjmlaaGreatDoor
/-
  The law's example rivers, and what is reckoned of them.
-/
namespace Go.Proofs.YtceaamdomkjmlaaGreatDoor
open Go.RowKit Go.Sl Go.Num
/-- The river of the documentation. -/
def exL (a0 a1 a2 a3 : Option Addr) (c0 c1 c2 c3 : Nat) : List Rch := [⟨2, [1, 1], a0, c0⟩, ⟨2, [0, 1], a1, c1⟩, ⟨4, [1, 0, 1], a2, c2⟩, ⟨4, [1], a3, c3⟩, ⟨-1, [], none, 0⟩]
def exL2 (a0 a2 : Option Addr) (c0 c2 : Nat) : List Rch := [⟨2, [1], a0, c0⟩, ⟨-1, [], none, 0⟩, ⟨1, [1], a2, c2⟩]
section
variable (a0 a1 a2 a3 : Option Addr) (c0 c1 c2 c3 : Nat)
theorem ex_riv : rivErr (exL a0 a1 a2 a3 c0 c1 c2 c3) = 0 := by kernel_rfl
theorem ex_p1 : pathE (exL a0 a1 a2 a3 c0 c1 c2 c3) 0 4 = ([0, 2, 4], 0) := by kernel_rfl
theorem ex_p2 : pathE (exL a0 a1 a2 a3 c0 c1 c2 c3) 2 2 = ([2], 0) := by kernel_rfl
theorem ex_p3 : pathE (exL a0 a1 a2 a3 c0 c1 c2 c3) 3 2 = ([], 8) := by kernel_rfl
theorem ex_ab : aboveE (exL a0 a1 a2 a3 c0 c1 c2 c3) 4 = ([2, 3], 0) := by kernel_rfl
theorem ex_ba : basinE (exL a0 a1 a2 a3 c0 c1 c2 c3) 4 = ([0, 1, 2, 3], 0) := by kernel_rfl
theorem ex_or : ordE (exL a0 a1 a2 a3 c0 c1 c2 c3) = ([0, 1, 2, 3, 4], 0) := by kernel_rfl
theorem ex_or2 : ordE (exL2 a0 a2 c0 c2) = ([0, 2, 1], 0) := by kernel_rfl
theorem ex_a1 : alongE (exL a0 a1 a2 a3 c0 c1 c2 c3) 0 4 = ([1, 1, 1, 1], 0) := by kernel_rfl
theorem ex_a2 : alongE (exL a0 a1 a2 a3 c0 c1 c2 c3) 1 4 = ([0, 1, 0, 1], 0) := by kernel_rfl
theorem ex_a3 : alongE (exL a0 a1 a2 a3 c0 c1 c2 c3) 3 3 = ([1], 0) := by kernel_rfl
theorem ex_pa : partsE (exL a0 a1 a2 a3 c0 c1 c2 c3) 0 4 10 12 = ([(7, 8, 1), (8, 11, 2), (11, 12, 1)], 0) := by kernel_rfl
theorem ex_in : inflowE (exL a0 a1 a2 a3 c0 c1 c2 c3) 2 10 11 = ([(0, [(9, 11, 1)], 2), (1, [(9, 10, 1)], 1)], 0) := by kernel_rfl
end
def krL (r : Rch) : List (List Value) := r.ws.map isV
abbrev RetR (P : List Rch → Prop) (F : Value → Value) := RetN rcV 2 Rch.adr 1 krL P (fun R a c => F (.slice a R.length c))
theorem example_holds (w : World) : Calls Tryz.prog 45 #[] w (RetR (fun L => ∃ a0 a1 a2 a3 c0 c1 c2 c3, L = exL a0 a1 a2 a3 c0 c1 c2 c3) (fun v => v) w) := by
  refine enterA [] Tryz.func45 Tryz.ntmps45 ?_
  all_goals (refine go ?_; and_intros <;> (try exact trivial) <;> repeat (first | refine fun (Bk : Nat) => ?_ | intro h))
  repeat' ((first | (apply G.sliceL; rfl; rfl; rfl; rfl; rfl; rfl; rfl; rfl; intro Bs) | (apply G.cV (g := 46); rfl; rfl; exact fun w' _ => weights_holds _ w' ⟨_, _, _, rfl⟩)) <;> (refine go ?_; and_intros <;> (try exact trivial) <;> repeat (first | refine fun (Bk : Nat) => ?_ | intro h)))
  rename_i b0 b1 b2 b3
  (refine ret1 Tryz.func45 Tryz.results45 ?_; intro w' hw)
  have h0 := blkSlA (f := isV) (sz := 1) (b := b0) (l := [1, 1]) hw isV_len
  have h1 := blkSlA (f := isV) (sz := 1) (b := b1) (l := [0, 1]) hw isV_len
  have h2 := blkSlA (f := isV) (sz := 1) (b := b2) (l := [1, 0, 1]) hw isV_len
  have h3 := blkSlA (f := isV) (sz := 1) (b := b3) (l := [1]) hw isV_len
  have h4 := blkSlA (f := rcV) (sz := 2) (b := Bs) (l := exL (some ⟨b0, 0, none⟩) (some ⟨b1, 0, none⟩) (some ⟨b2, 0, none⟩) (some ⟨b3, 0, none⟩) 2 2 3 1) hw rcV_len
  refine ⟨exL (some ⟨b0, 0, none⟩) (some ⟨b1, 0, none⟩) (some ⟨b2, 0, none⟩) (some ⟨b3, 0, none⟩) 2 2 3 1, some ⟨Bs, 0, none⟩, 5, ⟨_, _, _, _, _, _, _, _, rfl⟩, rfl, ⟨h4.1, fun r hr => ?_⟩, fun p hp => by cases hp; exact h4.2, fun r hr p hp => ?_, hw.below⟩
  all_goals
    simp only [exL, List.mem_cons, List.not_mem_nil, or_false] at hr
    rcases hr with rfl | rfl | rfl | rfl | rfl
  · exact h0.1
  · exact h1.1
  · exact h2.1
  · exact h3.1
  · exact SlAt.nil
  · cases hp; exact h0.2
  · cases hp; exact h1.2
  · cases hp; exact h2.2
  · cases hp; exact h3.2
  · cases hp
end Go.Proofs.YtceaamdomkjmlaaGreatDoor
/-
  Contract: the law's examples hold.
-/
namespace Go.Proofs.YtceaamdomkjmlaaGreatDoor
open Go.RowKit Go.Sl Go.Num
/-- A part with its number. -/
def fV (p : Int × Int × Q3) : List Value := [.int .i64 p.1, .int .i64 p.2.1] ++ qV p.2.2
theorem fV_len (p : Int × Int × Q3) : (fV p).length = 5 := rfl
set_option maxHeartbeats 4000000 in
theorem sanity32_holds (w : World) : Calls Tryz.prog 10 #[] w fun e w' => e = .returned (.bool true) ∧ Below w.heap.size w w' := by
  have p2 := fun w' => part_holds 9 11 2 w' (by decide) (by decide)
  have p1 := fun w' => part_holds 9 10 1 w' (by decide) (by decide)
  have p3 := fun w' => part_holds 7 8 4 w' (by decide) (by decide)
  have p4 := fun w' => part_holds 8 11 2 w' (by decide) (by decide)
  have p5 := fun w' => part_holds 11 12 4 w' (by decide) (by decide)
  have e24 : rQ (((2 : Int) : Rat) / ((4 : Int) : Rat)) = rQ (((1 : Int) : Rat) / ((2 : Int) : Rat)) := congrArg rQ (by decide +kernel)
  have hm4 : ([(7, 8, 1), (8, 11, 2), (11, 12, 1)] : List Prt).map (wV 4) = [(7, 8, rQ (((1 : Int) : Rat) / ((4 : Int) : Rat))), (8, 11, rQ (((1 : Int) : Rat) / ((2 : Int) : Rat))), (11, 12, rQ (((1 : Int) : Rat) / ((4 : Int) : Rat)))].map fV := by
    simp only [List.map_cons, List.map_nil, wV, fV, e24]
  have hm2 : ([(9, 11, 1)] : List Prt).map (wV 2) = [(9, 11, rQ (((1 : Int) : Rat) / ((2 : Int) : Rat)))].map fV := rfl
  have hm1 : ([(9, 10, 1)] : List Prt).map (wV 1) = [(9, 10, rQ (((1 : Int) : Rat) / ((1 : Int) : Rat)))].map fV := rfl
  unfold wV at p1 p2 p3 p4 p5
  dsimp only at p1 p2 p3 p4 p5
  clear e24
  generalize rQ (((1 : Int) : Rat) / ((2 : Int) : Rat)) = q2 at *
  generalize rQ (((1 : Int) : Rat) / ((4 : Int) : Rat)) = q4 at *
  generalize rQ (((1 : Int) : Rat) / ((1 : Int) : Rat)) = q1 at *
  refine enterA [] Tryz.func10 Tryz.ntmps10 ?_
  all_goals (refine go ?_; and_intros <;> (try exact trivial) <;> repeat (first | refine fun (Bk : Nat) => ?_ | intro h))
  repeat' ((first | (apply G.cNst (g := 45) (f := rcV) (sz := 2) (adr := Rch.adr) (sz2 := 1) (F2 := krL) (fun R a' c' => .slice a' R.length c') (fun L => ∃ a0 a1 a2 a3 c0 c1 c2 c3, L = exL a0 a1 a2 a3 c0 c1 c2 c3); rfl; rfl; exact fun w' _ => example_holds w'; rintro L a1 c1 ⟨x0, x1, x2, x3, y0, y1, y2, y3, hL⟩ hq1 hq2; rw [show L.length = 5 from by rw [hL]; rfl])) <;> (refine go ?_; and_intros <;> (try exact trivial) <;> repeat (first | refine fun (Bk : Nat) => ?_ | intro h)))
  have hl5 : L.length = 5 := by rw [hL]; rfl
  have E1 := ex_p1 x0 x1 x2 x3 y0 y1 y2 y3
  have E2 := ex_p2 x0 x1 x2 x3 y0 y1 y2 y3
  have E3 := ex_p3 x0 x1 x2 x3 y0 y1 y2 y3
  have E4 := ex_ab x0 x1 x2 x3 y0 y1 y2 y3
  have E5 := ex_ba x0 x1 x2 x3 y0 y1 y2 y3
  have E6 := ex_or x0 x1 x2 x3 y0 y1 y2 y3
  have E7 := ex_a1 x0 x1 x2 x3 y0 y1 y2 y3
  have E8 := ex_a2 x0 x1 x2 x3 y0 y1 y2 y3
  have E9 := ex_a3 x0 x1 x2 x3 y0 y1 y2 y3
  have EA := ex_pa x0 x1 x2 x3 y0 y1 y2 y3
  have EB := ex_in x0 x1 x2 x3 y0 y1 y2 y3
  have EC := ex_riv x0 x1 x2 x3 y0 y1 y2 y3
  rw [← hL] at E1 E2 E3 E4 E5 E6 E7 E8 E9 EA EB EC
  clear hL
  have H1 := fun w' (h : NstAt rcV 2 Rch.adr 1 krL w' a1 L) => vPath_holds a1 L c1 0 4 w' h.out h.inn
  have H2 := fun w' (h : NstAt rcV 2 Rch.adr 1 krL w' a1 L) => vPath_holds a1 L c1 2 2 w' h.out h.inn
  have H3 := fun w' (h : NstAt rcV 2 Rch.adr 1 krL w' a1 L) => vPath_holds a1 L c1 3 2 w' h.out h.inn
  have H4 := fun w' (h : NstAt rcV 2 Rch.adr 1 krL w' a1 L) => vAbove_holds a1 L c1 4 w' h.out h.inn
  have H5 := fun w' (h : NstAt rcV 2 Rch.adr 1 krL w' a1 L) => vBasin_holds a1 L c1 4 w' h.out h.inn (fun _ => by omega)
  have H6 := fun w' (h : NstAt rcV 2 Rch.adr 1 krL w' a1 L) => vOrder_holds a1 L c1 w' h.out h.inn
  have H7 := fun w' (h : NstAt rcV 2 Rch.adr 1 krL w' a1 L) => vAlong_holds a1 L c1 0 4 w' h.out h.inn
  have H8 := fun w' (h : NstAt rcV 2 Rch.adr 1 krL w' a1 L) => vAlong_holds a1 L c1 1 4 w' h.out h.inn
  have H9 := fun w' (h : NstAt rcV 2 Rch.adr 1 krL w' a1 L) => vAlong_holds a1 L c1 3 3 w' h.out h.inn
  have HA := fun w' (h : NstAt rcV 2 Rch.adr 1 krL w' a1 L) => vParts_holds a1 L c1 0 4 10 12 w' h.out h.inn
  have HB := fun w' (h : NstAt rcV 2 Rch.adr 1 krL w' a1 L) => vInflow_holds a1 L c1 2 10 11 w' h.out h.inn
  have HC := fun w' (h : NstAt rcV 2 Rch.adr 1 krL w' a1 L) => vCheckR_holds a1 L c1 w' h.out h.inn
  rw [hl5] at H1 H2 H3 H4 H5 H6 H7 H8 H9 HA HB HC
  rw [E1] at H1
  rw [E2] at H2
  rw [E3] at H3
  rw [E4] at H4
  rw [E5] at H5
  rw [E6] at H6
  rw [E7] at H7 HA
  rw [E8] at H8
  rw [E9] at H9
  rw [EA] at HA
  rw [EB] at HB
  rw [EC] at HC
  dsimp only at H1 H2 H3 H4 H5 H6 H7 H8 H9 HA HB HC
  clear E1 E2 E3 E4 E5 E6 E7 E8 E9 EA EB EC
  all_goals (refine go ?_; and_intros <;> (try exact trivial) <;> repeat (first | refine fun (Bk : Nat) => ?_ | intro h))
  repeat' ((first | (apply G.cN (g := 11) (vs := [.slice a1 5 c1, .int .i64 0, .int .i64 4]) (fun a' c' => .tuple #[.slice a' 3 c', .int .i64 0]) (([0, 2, 4] : List Int).map isV); rfl; rfl; exact fun w' hw' => H1 w' (hw'.nst (by exact mm)); intro u1 v1 hp1 hq1) | (apply G.cN (g := 11) (vs := [.slice a1 5 c1, .int .i64 2, .int .i64 2]) (fun a' c' => .tuple #[.slice a' 1 c', .int .i64 0]) (([2] : List Int).map isV); rfl; rfl; exact fun w' hw' => H2 w' (hw'.nst (by exact mm)); intro u2 v2 hp2 hq2) | (apply G.cN (g := 11) (vs := [.slice a1 5 c1, .int .i64 3, .int .i64 2]) (fun a' c' => .tuple #[.slice a' 0 c', .int .i64 8]) (([] : List Int).map isV); rfl; rfl; exact fun w' hw' => H3 w' (hw'.nst (by exact mm)); intro u3 v3 hp3 hq3) | (apply G.cN (g := 13) (fun a' c' => .tuple #[.slice a' 2 c', .int .i64 0]) (([2, 3] : List Int).map isV); rfl; rfl; exact fun w' hw' => H4 w' (hw'.nst (by exact mm)); intro u4 v4 hp4 hq4) | (apply G.cN (g := 15) (fun a' c' => .tuple #[.slice a' 4 c', .int .i64 0]) (([0, 1, 2, 3] : List Int).map isV); rfl; rfl; exact fun w' hw' => H5 w' (hw'.nst (by exact mm)); intro u5 v5 hp5 hq5) | (apply G.cN (g := 17) (vs := [.slice a1 5 c1]) (fun a' c' => .tuple #[.slice a' 5 c', .int .i64 0]) (([0, 1, 2, 3, 4] : List Int).map isV); rfl; rfl; exact fun w' hw' => H6 w' (hw'.nst (by exact mm)); intro u6 v6 hp6 hq6) | (apply G.sliceL; rfl; rfl; rfl; rfl; rfl; rfl; rfl; rfl; intro Bs) | (apply G.cV (g := 46); rfl; rfl; exact fun w' _ => weights_holds _ w' ⟨_, _, _, rfl⟩)) <;> (refine go ?_; and_intros <;> (try exact trivial) <;> repeat (first | refine fun (Bk : Nat) => ?_ | intro h)))
  rename_i bA bB
  have H6b := fun w' (h : NstAt rcV 2 Rch.adr 1 krL w' (some ⟨Bs, 0, none⟩) (exL2 (some ⟨bA, 0, none⟩) (some ⟨bB, 0, none⟩) 1 1)) => vOrder_holds (some ⟨Bs, 0, none⟩) (exL2 (some ⟨bA, 0, none⟩) (some ⟨bB, 0, none⟩) 1 1) 3 w' h.out h.inn
  rw [ex_or2] at H6b
  dsimp only at H6b
  refine G.cN (vs := [.slice (some ⟨Bs, 0, none⟩) 3 3]) (fun a' c' => .tuple #[.slice a' 3 c', .int .i64 0]) (([0, 2, 1] : List Int).map isV) rfl rfl (fun w' hw' => H6b w' ⟨(blkSlA (f := rcV) (l := exL2 (some ⟨bA, 0, none⟩) (some ⟨bB, 0, none⟩) 1 1) hw' rcV_len).1, fun r hr => ?_⟩) ?_
  · simp only [exL2, List.mem_cons, List.not_mem_nil, or_false] at hr
    rcases hr with rfl | rfl | rfl
    · exact (blkSlA (f := isV) (l := [1]) hw' isV_len).1
    · exact SlAt.nil
    · exact (blkSlA (f := isV) (l := [1]) hw' isV_len).1
  intro u7 v7 hp7 hq7
  clear H6b H1 H2 H3 H4 H5 H6
  all_goals (refine go ?_; and_intros <;> (try exact trivial) <;> repeat (first | refine fun (Bk : Nat) => ?_ | intro h))
  repeat' ((first | (refine G.cV (v := .int .i64 0) rfl rfl (fun w' hw' => HC w' (hw'.nst (by exact mm))) ?_) | (apply G.cV (g := 47) (vs := [.slice u1 3 v1, .int .i64 0, .slice (some ⟨_, 0, none⟩) 3 3]); rfl; rfl; exact fun w' hw' => is_holds _ _ ([0, 2, 4] : List Int) _ _ w' (hw'.sl (by exact mm)) (blkSlA (l := [0, 2, 4]) hw' isV_len).1 (show 3 ≤ 1000000000 by decide)) | (apply G.cV (g := 47) (vs := [.slice u2 1 v2, .int .i64 0, .slice (some ⟨_, 0, none⟩) 1 1]); rfl; rfl; exact fun w' hw' => is_holds _ _ ([2] : List Int) _ _ w' (hw'.sl (by exact mm)) (blkSlA (l := [2]) hw' isV_len).1 (show 1 ≤ 1000000000 by decide)) | (apply G.cV (g := 47) (vs := [.slice u4 2 v4, .int .i64 0, .slice (some ⟨_, 0, none⟩) 2 2]); rfl; rfl; exact fun w' hw' => is_holds _ _ ([2, 3] : List Int) _ _ w' (hw'.sl (by exact mm)) (blkSlA (l := [2, 3]) hw' isV_len).1 (show 2 ≤ 1000000000 by decide)) | (apply G.cV (g := 47) (vs := [.slice u5 4 v5, .int .i64 0, .slice (some ⟨_, 0, none⟩) 4 4]); rfl; rfl; exact fun w' hw' => is_holds _ _ ([0, 1, 2, 3] : List Int) _ _ w' (hw'.sl (by exact mm)) (blkSlA (l := [0, 1, 2, 3]) hw' isV_len).1 (show 4 ≤ 1000000000 by decide)) | (apply G.cV (g := 47) (vs := [.slice u6 5 v6, .int .i64 0, .slice (some ⟨_, 0, none⟩) 5 5]); rfl; rfl; exact fun w' hw' => is_holds _ _ ([0, 1, 2, 3, 4] : List Int) _ _ w' (hw'.sl (by exact mm)) (blkSlA (l := [0, 1, 2, 3, 4]) hw' isV_len).1 (show 5 ≤ 1000000000 by decide)) | (apply G.cV (g := 47) (vs := [.slice u7 3 v7, .int .i64 0, .slice (some ⟨_, 0, none⟩) 3 3]); rfl; rfl; exact fun w' hw' => is_holds _ _ ([0, 2, 1] : List Int) _ _ w' (hw'.sl (by exact mm)) (blkSlA (l := [0, 2, 1]) hw' isV_len).1 (show 3 ≤ 1000000000 by decide)) | (apply G.cN (g := 19) (vs := [.slice a1 5 c1, .int .i64 0, .int .i64 4]) (fun a' c' => .tuple #[.agg #[.slice a' 4 c'], .int .i64 0]) (([1, 1, 1, 1] : List Int).map isV); rfl; rfl; exact fun w' hw' => H7 w' (hw'.nst (by exact mm)); intro u8 v8 hp8 hq8) | (apply G.cN (g := 19) (vs := [.slice a1 5 c1, .int .i64 1, .int .i64 4]) (fun a' c' => .tuple #[.agg #[.slice a' 4 c'], .int .i64 0]) (([0, 1, 0, 1] : List Int).map isV); rfl; rfl; exact fun w' hw' => H8 w' (hw'.nst (by exact mm)); intro u9 v9 hp9 hq9) | (apply G.cN (g := 19) (vs := [.slice a1 5 c1, .int .i64 3, .int .i64 3]) (fun a' c' => .tuple #[.agg #[.slice a' 1 c'], .int .i64 0]) (([1] : List Int).map isV); rfl; rfl; exact fun w' hw' => H9 w' (hw'.nst (by exact mm)); intro u10 v10 hp10 hq10) | (apply G.cN (g := 21) (fun a' c' => .tuple #[.slice a' 3 c', .int .i64 0]) (([(7, 8, 1), (8, 11, 2), (11, 12, 1)] : List Prt).map (wV 4)); rfl; rfl; exact fun w' hw' => HA w' (hw'.nst (by exact mm)); intro u11 v11 hp11 hq11) | (apply G.cNst (g := 23) (f := ifV) (sz := 2) (adr := Ifl.adr) (sz2 := 5) (F2 := ifL) (fun R a' c' => .tuple #[.slice a' R.length c', .int .i64 0]) (fun R => R.map coreI = [(0, [(9, 11, 1)], 2), (1, [(9, 10, 1)], 1)]); rfl; rfl; exact fun w' hw' => HB w' (hw'.nst (by exact mm)); intro R u12 v12 hR hq12 hq13) | (apply G.cV (g := 47) (vs := [.slice u8 4 v8, .int .i64 0, .slice (some ⟨_, 0, none⟩) 4 4]); rfl; rfl; exact fun w' hw' => is_holds _ _ ([1, 1, 1, 1] : List Int) _ _ w' (hw'.sl (by exact mm)) (blkSlA (l := [1, 1, 1, 1]) hw' isV_len).1 (show 4 ≤ 1000000000 by decide)) | (apply G.cV (g := 47) (vs := [.slice u9 4 v9, .int .i64 0, .slice (some ⟨_, 0, none⟩) 4 4]); rfl; rfl; exact fun w' hw' => is_holds _ _ ([0, 1, 0, 1] : List Int) _ _ w' (hw'.sl (by exact mm)) (blkSlA (l := [0, 1, 0, 1]) hw' isV_len).1 (show 4 ≤ 1000000000 by decide)) | (apply G.cV (g := 47) (vs := [.slice u10 1 v10, .int .i64 0, .slice (some ⟨_, 0, none⟩) 1 1]); rfl; rfl; exact fun w' hw' => is_holds _ _ ([1] : List Int) _ _ w' (hw'.sl (by exact mm)) (blkSlA (l := [1]) hw' isV_len).1 (show 1 ≤ 1000000000 by decide)) | (apply G.sliceL; rfl; rfl; rfl; rfl; rfl; rfl; rfl; rfl; intro Bs)) <;> (refine go ?_; and_intros <;> (try exact trivial) <;> repeat (first | refine fun (Bk : Nat) => ?_ | intro h)))
  all_goals (refine go ?_; and_intros <;> (try exact trivial) <;> repeat (first | refine fun (Bk : Nat) => ?_ | intro h))
  repeat' ((first | (apply G.cV (g := 48) (vs := [.int .i64 9, .int .i64 11, .int .i64 2]); rfl; rfl; exact fun w' _ => p2 w') | (apply G.cV (g := 48) (vs := [.int .i64 9, .int .i64 10, .int .i64 1]); rfl; rfl; exact fun w' _ => p1 w') | (apply G.sliceL; rfl; rfl; rfl; rfl; rfl; rfl; rfl; rfl; intro Bs)) <;> (refine go ?_; and_intros <;> (try exact trivial) <;> repeat (first | refine fun (Bk : Nat) => ?_ | intro h)))
  rename_i bP bQ
  clear H7 H8 H9 HA HB HC
  have hRl : R.length = 2 := by
    have := congrArg List.length hR
    rwa [List.length_map] at this
  have hRi : ∀ r ∈ R, r.L.length ≤ 1000000000 := fun r hr => by
    have h := List.mem_map_of_mem (f := coreI) hr
    rw [hR] at h
    simp only [List.mem_cons, List.not_mem_nil, or_false, coreI, Prod.mk.injEq] at h
    rcases h with ⟨_, h, _⟩ | ⟨_, h, _⟩ <;> rw [h] <;> decide
  refine G.cV (v := .bool true) rfl rfl (fun w' hw' => sameFlows_holds u12 (some ⟨Bs, 0, none⟩) R [⟨0, [(9, 11, 1)], 2, some ⟨bP, 0, none⟩, 1⟩, ⟨1, [(9, 10, 1)], 1, some ⟨bQ, 0, none⟩, 1⟩] v12 2 w' (hw'.nst (by exact mm)) ⟨(blkSlA (f := ifV) (l := [⟨0, [(9, 11, 1)], 2, some ⟨bP, 0, none⟩, 1⟩, ⟨1, [(9, 10, 1)], 1, some ⟨bQ, 0, none⟩, 1⟩]) hw' ifV_len).1, fun r hr => ?_⟩ hR ⟨by omega, hRi⟩) ?_
  · simp only [List.mem_cons, List.not_mem_nil, or_false] at hr
    rcases hr with rfl | rfl
    · show SlAt w' _ 5 (([(9, 11, 1)] : List Prt).map (wV 2))
      rw [hm2]
      exact (blkSlA (f := fV) (l := [(9, 11, q2)]) hw' fV_len).1
    · show SlAt w' _ 5 (([(9, 10, 1)] : List Prt).map (wV 1))
      rw [hm1]
      exact (blkSlA (f := fV) (l := [(9, 10, q1)]) hw' fV_len).1
  all_goals (refine go ?_; and_intros <;> (try exact trivial) <;> repeat (first | refine fun (Bk : Nat) => ?_ | intro h))
  repeat' ((first | (apply G.cV (g := 48) (vs := [.int .i64 7, .int .i64 8, .int .i64 4]); rfl; rfl; exact fun w' _ => p3 w') | (apply G.cV (g := 48) (vs := [.int .i64 8, .int .i64 11, .int .i64 2]); rfl; rfl; exact fun w' _ => p4 w') | (apply G.cV (g := 48) (vs := [.int .i64 11, .int .i64 12, .int .i64 4]); rfl; rfl; exact fun w' _ => p5 w') | (apply G.sliceL; rfl; rfl; rfl; rfl; rfl; rfl; rfl; rfl; intro Bs)) <;> (refine go ?_; and_intros <;> (try exact trivial) <;> repeat (first | refine fun (Bk : Nat) => ?_ | intro h)))
  refine G.cV (v := .bool true) rfl rfl (fun w' hw' => sameParts_holds u11 (some ⟨Bs, 0, none⟩) 4 [(7, 8, 1), (8, 11, 2), (11, 12, 1)] v11 3 w' (hw'.sl (by exact mm)) ?_ (by decide)) ?_
  · rw [hm4]
    exact (blkSlA (f := fV) (l := [(7, 8, q4), (8, 11, q2), (11, 12, q4)]) hw' fV_len).1
  all_goals (refine go ?_; and_intros <;> (try exact trivial) <;> repeat (first | refine fun (Bk : Nat) => ?_ | intro h))
  all_goals refine ret1b Tryz.func10 Tryz.results10 ?_
  all_goals rfl
end Go.Proofs.YtceaamdomkjmlaaGreatDoor
/-
  The law ReachesAreAsSpecified returns true.
-/
namespace Go.Proofs.YtceaamdomkjmlaaGreatDoor
open Go.RowKit Go.Sl Go.Num
/-! ### how long results are -/
theorem red_le (l : List Int) : (red l).length ≤ l.length := by
  rw [red, List.length_map, List.length_take]; exact Nat.min_le_right _ _
theorem compE_len (a b : List Int) : (compE a b).1.length ≤ 400 := by
  rw [compE]
  split
  · exact Nat.zero_le _
  · split
    · exact Nat.zero_le _
    · split
      · exact Nat.zero_le _
      · split
        · exact Nat.zero_le _
        · have := red_le (convL (red a) (red b))
          rw [convL_len] at this
          show (red _).length ≤ 400
          omega
theorem foldK_len : ∀ (m : List (List Int)) (s : List Int × Int), s.1.length ≤ 400 → (foldK s m).1.length ≤ 400
  | [], s, h => h
  | x :: m, s, h => by
    rw [foldK]
    split
    · exact h
    · exact foldK_len m _ (compE_len _ _)
theorem alongE_len (l : List Rch) (fr to : Int) : (alongE l fr to).1.length ≤ 400 := by
  by_cases he : (pathE l fr to).2 = 0
  · by_cases hne : fr = to
    · rw [alongE, if_neg (fun h => h he), if_pos hne]; show 1 ≤ 400; decide
    · obtain ⟨d, h1, h2, h3, h4, h5⟩ := along_path he hne
      rw [h4]
      refine foldK_len _ _ ?_
      have hR := riv_of h1
      obtain ⟨k0, k1, k2⟩ := h5 0 (Nat.zero_le _)
      have := (ker_of (hR.pos ⟨k0, k1⟩ k2).2).len
      rw [itr] at this
      exact Nat.le_trans (red_le _) this.2
  · rw [alongE, if_pos he]; exact Nat.zero_le _
end Go.Proofs.YtceaamdomkjmlaaGreatDoor
/-
  How the arguments of the laws of rivers read.
-/
namespace Go.Proofs.YtceaamdomkjmlaaGreatDoor
open Go.RowKit Go.Sl Go.Num Go.ChangeShapes Go.WideShapes
theorem rKer : Reads Tryz.prog 41 (fun s : Sld Int => [s.v]) (fun w s => SlAt w s.ad 1 (s.l.map isV)) := (Reads.struct1 (n := 1) Tryz.underlying41 (by kernel_rfl) (by kernel_rfl) rInts).mono fun _ _ h => h.1
theorem rRch : Reads Tryz.prog 68 rcV (fun w r => SlAt w r.adr 1 (r.ws.map isV)) := (Reads.struct2 (n := 2) Tryz.underlying68 (by kernel_rfl) (by kernel_rfl) rInt rKer).turn fun _ a h => ⟨⟨a.1, a.2.l, a.2.ad, a.2.cap⟩, rfl, h.2⟩
theorem rRchs : Reads Tryz.prog 22 (fun s : Sld Rch => [s.v]) (fun w s => SlAt w s.ad 2 (s.l.map rcV) ∧ KerAt w s.l) := (Reads.slice (sz := 2) Tryz.underlying22 (by kernel_rfl) (by decide) rRch).mono fun _ _ h => ⟨h.1, h.2.2.2⟩
theorem rB3 : Reads Tryz.prog 65 (fun a : Nat × Nat × Nat => [.int .u8 a.1, .int .u8 a.2.1, .int .u8 a.2.2]) (fun _ a => a.1 ≤ 255 ∧ a.2.1 ≤ 255 ∧ a.2.2 ≤ 255) := (Reads.array (sz := 1) Tryz.underlying65 (by kernel_rfl) (by kernel_rfl) rU8).turn fun _ l h => by
  obtain ⟨a, b, c, rfl⟩ := list3 h.1
  exact ⟨(a, b, c), rfl, h.2 a (.head _), h.2 b (.tail _ (.head _)), h.2 c (.tail _ (.tail _ (.head _)))⟩
end Go.Proofs.YtceaamdomkjmlaaGreatDoor
/-
  Contract: which rivers the laws are about; plain laws of paths.
-/
namespace Go.Proofs.YtceaamdomkjmlaaGreatDoor
open Go.RowKit Go.Sl Go.Num
def validR (l : List Rch) : Prop := 0 < l.length ∧ l.length ≤ 10 ∧ fewRv 10 l ∧ rivErr l = 0
instance (l : List Rch) : Decidable (validR l) := by unfold validR; exact inferInstance
theorem valid32_holds (a : Option Addr) (l : List Rch) (c : Nat) (w : World) (hA : SlAt w a 2 (l.map rcV)) (hK : KerAt w l) :
    Calls Tryz.prog 31 #[.slice a l.length c] w fun e w' => e = .returned (.bool (decide (validR l))) ∧ Below w.heap.size w w' := by
  have hf := fun w' (hb : Below w.heap.size w w') => fewRv_holds a l c 10 w' (hA.below hb)
  have hc := fun w' (hb : Below w.heap.size w w') => vCheckR_holds a l c w' (hA.below hb) (hK.below hb)
  refine enterA [(0, .slice a l.length c)] Tryz.func31 Tryz.ntmps31 ?_
  by_cases h : validR l
  · rw [decide_eq_true h]
    obtain ⟨h1, h2, h3, h4⟩ := h
    rw [decide_eq_true h3] at hf
    rw [h4] at hc
    all_goals (refine go ?_; and_intros <;> (try exact trivial) <;> repeat (first | refine fun (Bk : Nat) => ?_ | intro h))
    repeat' ((first | (refine G.cvb hf ?_) | (refine G.cvb hc ?_)) <;> (refine go ?_; and_intros <;> (try exact trivial) <;> repeat (first | refine fun (Bk : Nat) => ?_ | intro h)))
    all_goals refine ret1b Tryz.func31 Tryz.results31 ?_
    all_goals rfl
  · rw [decide_eq_false h]
    by_cases h1 : 0 < l.length ∧ l.length ≤ 10
    · by_cases h3 : fewRv 10 l
      · have h4 : rivErr l ≠ 0 := fun h4 => h ⟨h1.1, h1.2, h3, h4⟩
        rw [decide_eq_true h3] at hf
        clear h
        generalize rivErr l = E at *
        all_goals (refine go ?_; and_intros <;> (try exact trivial) <;> repeat (first | refine fun (Bk : Nat) => ?_ | intro h))
        repeat' ((first | (refine G.cvb hf ?_) | (refine G.cvb hc ?_)) <;> (refine go ?_; and_intros <;> (try exact trivial) <;> repeat (first | refine fun (Bk : Nat) => ?_ | intro h)))
        all_goals refine ret1b Tryz.func31 Tryz.results31 ?_
        all_goals rfl
      · rw [decide_eq_false h3] at hf
        clear h
        all_goals (refine go ?_; and_intros <;> (try exact trivial) <;> repeat (first | refine fun (Bk : Nat) => ?_ | intro h))
        repeat' ((first | (refine G.cvb hf ?_)) <;> (refine go ?_; and_intros <;> (try exact trivial) <;> repeat (first | refine fun (Bk : Nat) => ?_ | intro h)))
        all_goals refine ret1b Tryz.func31 Tryz.results31 ?_
        all_goals rfl
    · clear h
      all_goals (refine go ?_; and_intros <;> (try exact trivial) <;> repeat (first | refine fun (Bk : Nat) => ?_ | intro h))
      all_goals refine ret1b Tryz.func31 Tryz.results31 ?_
      all_goals rfl
theorem path_cases {l : List Rch} (h : rivErr l = 0) {fr to : Int} (h1 : 0 ≤ fr ∧ fr < l.length) (h2 : 0 ≤ to ∧ to < l.length) : (∃ d, itr l d fr = to ∧ pathE l fr to = (stepsL l d fr, 0)) ∨ ((∀ d, itr l d fr ≠ to) ∧ pathE l fr to = ([], 8)) := by
  have hR := riv_of h
  rcases hR.path_iff h1 h2.1 with ⟨d, h3, _⟩ | ⟨h3, _⟩
  · exact .inl ⟨d, h3, Riv.pathE h h1 h2 h3⟩
  · exact .inr ⟨h3, pathE_none h h1 h2 (hR.dep h1.2).1 fun i _ => h3 i⟩
theorem mem_steps {l : List Rch} (h : rivErr l = 0) {fr via to : Int} (h1 : 0 ≤ fr ∧ fr < l.length) (hv : 0 ≤ via ∧ via < l.length) (h2 : 0 ≤ to ∧ to < l.length) {d : Nat} (hd : itr l d fr = to) : via ∈ stepsL l d fr ↔ (pathE l fr via).2 = 0 ∧ (pathE l via to).2 = 0 := by
  have hR := riv_of h
  rw [stepsL_mem]
  constructor
  · rintro ⟨i, hi, rfl⟩
    refine ⟨by rw [Riv.pathE h h1 hv rfl], ?_⟩
    rw [Riv.pathE h hv h2 (d := d - i)]
    rw [← itr_add, show i + (d - i) = d by omega]; exact hd
  · rintro ⟨q1, q2⟩
    rcases path_cases h h1 hv with ⟨e, q3, _⟩ | ⟨_, q3⟩
    · rcases path_cases h hv h2 with ⟨f, q4, _⟩ | ⟨_, q4⟩
      · have := hR.inj h1.2 (by omega) (i := d) (j := e + f) (by rw [itr_add, q3, q4, hd]) (by omega)
        exact ⟨e, by omega, q3⟩
      · rw [q4] at q2; cases q2
    · rw [q3] at q1; cases q1
theorem path_via {l : List Rch} (h : rivErr l = 0) {fr via to : Int} (h1 : 0 ≤ fr ∧ fr < l.length) (hv : 0 ≤ via ∧ via < l.length) (h2 : 0 ≤ to ∧ to < l.length) (hn : ∀ d, itr l d fr ≠ to) : (pathE l fr via).2 = 8 ∨ (pathE l via to).2 = 8 := by
  rcases path_cases h h1 hv with ⟨e, q3, _⟩ | ⟨_, q3⟩
  · rcases path_cases h hv h2 with ⟨f, q4, _⟩ | ⟨_, q4⟩
    · exact absurd (by rw [itr_add, q3, q4]) (hn (e + f))
    · exact .inr (by rw [q4])
  · exact .inl (by rw [q3])
end Go.Proofs.YtceaamdomkjmlaaGreatDoor
/-
  The law ReachPathsCompose returns true.
-/
namespace Go.Proofs.YtceaamdomkjmlaaGreatDoor
open Go.RowKit Go.Sl Go.Num
set_option maxHeartbeats 4000000 in
theorem law2_holds (a : Option Addr) (l : List Rch) (c : Nat) (g0 g1 g2 : Nat) (w : World) (hA : SlAt w a 2 (l.map rcV)) (hK : KerAt w l) (hg : g0 ≤ 255 ∧ g1 ≤ 255 ∧ g2 ≤ 255) :
    Calls Tryz.prog 4 #[.slice a l.length c, .agg #[.int .u8 g0, .int .u8 g1, .int .u8 g2]] w fun e w' => e = .returned (.bool true) ∧ Below w.heap.size w w' := by
  have hv := fun w' (hb : Below w.heap.size w w') => valid32_holds a l c w' (hA.below hb) (hK.below hb)
  by_cases h1 : validR l
  case neg =>
    rw [decide_eq_false h1] at hv
    refine enterA [(0, .slice a l.length c), (1, .agg #[.int .u8 g0, .int .u8 g1, .int .u8 g2])] Tryz.func4 Tryz.ntmps4 ?_
    all_goals (refine go ?_; and_intros <;> (try exact trivial) <;> repeat (first | refine fun (Bk : Nat) => ?_ | intro h))
    repeat' ((first | (apply G.cV (g := 10); rfl; rfl; exact fun w' _ => sanity32_holds w') | (refine G.cvb hv ?_)) <;> (refine go ?_; and_intros <;> (try exact trivial) <;> repeat (first | refine fun (Bk : Nat) => ?_ | intro h)))
    all_goals refine ret1b Tryz.func4 Tryz.results4 ?_
    all_goals rfl
  rw [decide_eq_true h1] at hv
  obtain ⟨n1, n2, n3, n4⟩ := h1
  obtain ⟨ba, oa, rfl, hra⟩ := SlAt.all hA n1
  have hR := riv_of n4
  obtain ⟨fr, hfr⟩ : ∃ fr, g0 % l.length = fr := ⟨_, rfl⟩
  obtain ⟨via, hvi⟩ : ∃ via, g1 % l.length = via := ⟨_, rfl⟩
  obtain ⟨to, hto⟩ : ∃ to, g2 % l.length = to := ⟨_, rfl⟩
  have l1 : fr < l.length := by rw [← hfr]; exact Nat.mod_lt _ n1
  have l2 : via < l.length := by rw [← hvi]; exact Nat.mod_lt _ n1
  have l3 : to < l.length := by rw [← hto]; exact Nat.mod_lt _ n1
  have m1 : (g0 : Int) % (l.length : Int) = (fr : Int) := by rw [← hfr]; rfl
  have m2 : (g1 : Int) % (l.length : Int) = (via : Int) := by rw [← hvi]; rfl
  have m3 : (g2 : Int) % (l.length : Int) = (to : Int) := by rw [← hto]; rfl
  have b1 : (0 : Int) ≤ (fr : Int) ∧ (fr : Int) < l.length := by omega
  have b2 : (0 : Int) ≤ (via : Int) ∧ (via : Int) < l.length := by omega
  have b3 : (0 : Int) ≤ (to : Int) ∧ (to : Int) < l.length := by omega
  have hp1 := fun w' (hb : Below w.heap.size w w') => vPath_holds (some ⟨ba, oa, none⟩) l c fr to w' (hA.below hb) (hK.below hb)
  have hp2 := fun w' (hb : Below w.heap.size w w') => vPath_holds (some ⟨ba, oa, none⟩) l c fr via w' (hA.below hb) (hK.below hb)
  have hp3 := fun w' (hb : Below w.heap.size w w') => vPath_holds (some ⟨ba, oa, none⟩) l c via to w' (hA.below hb) (hK.below hb)
  have c2 := path_cases n4 b1 b2
  have c3 := path_cases n4 b2 b3
  have hvia := path_via n4 b1 b2 b3
  have hmem := fun d hd => mem_steps n4 b1 b2 b3 (d := d) hd
  have hal := fun d e (hd : itr l d fr = via) (he : itr l e via = to) => along_comp n4 b1 b2 b3 hd he
  have ha1 := fun w' (hb : Below w.heap.size w w') => vAlong_holds (some ⟨ba, oa, none⟩) l c fr to w' (hA.below hb) (hK.below hb)
  have ha2 := fun w' (hb : Below w.heap.size w w') => vAlong_holds (some ⟨ba, oa, none⟩) l c fr via w' (hA.below hb) (hK.below hb)
  have ha3 := fun w' (hb : Below w.heap.size w w') => vAlong_holds (some ⟨ba, oa, none⟩) l c via to w' (hA.below hb) (hK.below hb)
  have hcp := fun w' x y p q hx hy => vCompose_holds x y (alongE l fr via).1 (alongE l via to).1 p q w' hx hy
  have k1 := alongE_len l fr to
  generalize alongE l fr to = W1 at *
  generalize alongE l fr via = W2 at *
  generalize alongE l via to = W3 at *
  obtain ⟨K1, d1⟩ := W1
  obtain ⟨K2, d2⟩ := W2
  obtain ⟨K3, d3⟩ := W3
  dsimp only at hal ha1 ha2 ha3 hcp k1
  generalize compE K2 K3 = W4 at *
  obtain ⟨K4, d4⟩ := W4
  dsimp only at hal hcp
  have e2c : (pathE l fr via).2 = 0 ∨ (pathE l fr via).2 = 8 := by
    rcases c2 with ⟨d, _, h⟩ | ⟨_, h⟩
    · exact .inl (by rw [h])
    · exact .inr (by rw [h])
  have e3c : (pathE l via to).2 = 0 ∨ (pathE l via to).2 = 8 := by
    rcases c3 with ⟨d, _, h⟩ | ⟨_, h⟩
    · exact .inl (by rw [h])
    · exact .inr (by rw [h])
  have hover : (pathE l fr via).2 = 0 → (pathE l via to).2 = 0 → d1 = 0 → d2 = 0 → d3 = 0 → d4 = 0 → K4 = K1 := fun q1 q2 => by
    rcases c2 with ⟨d, q3, _⟩ | ⟨_, h⟩
    · rcases c3 with ⟨e, q4, _⟩ | ⟨_, h⟩
      · exact hal d e q3 q4
      · rw [h] at q2; cases q2
    · rw [h] at q1; cases q1
  clear c2 c3 hal
  rcases path_cases n4 b1 b3 with ⟨d, hd, hpe⟩ | ⟨hn, hpe⟩
  · rw [hpe] at hp1
    have hmem := hmem d hd
    generalize pathE l fr via = X2 at *
    generalize pathE l via to = X3 at *
    obtain ⟨P2, e2⟩ := X2
    obtain ⟨P3, e3⟩ := X3
    dsimp only at hp1 hp2 hp3 hmem e2c e3c hover hvia
    obtain ⟨P1, hP1⟩ : ∃ P1 : List Int, P1 = stepsL l d fr := ⟨_, rfl⟩
    obtain ⟨e1, he1⟩ : ∃ e1 : Int, e1 = 0 := ⟨_, rfl⟩
    rw [← hP1] at hmem hp1
    rw [← he1] at hp1
    have hPl : P1.length = d + 1 := by rw [hP1, stepsL_len]
    have hPg : ∀ i (hi : i < P1.length), P1[i] = itr l i fr := fun i hi => by simp only [hP1, stepsL_get]
    have hin := fun i => hR.in_ i b1.2 (by omega)
    have hps : ∀ i, i ≤ d → 0 ≤ itr l i fr := fun i hi => itr_pos (k := d) (by rw [hd]; exact b3.1) hi
    have hdb : d ≤ 10 := by
      have h7 := hR.dep b1.2
      rcases Nat.lt_or_ge d (dpt l fr) with h8 | h8
      · omega
      · have := itr_pos (hps d (Nat.le_refl _)) h8
        omega
    clear hpe hP1 hvia
    refine enterA [(0, .slice (some ⟨ba, oa, none⟩) l.length c), (1, .agg #[.int .u8 g0, .int .u8 g1, .int .u8 g2])] Tryz.func4 Tryz.ntmps4 ?_
    all_goals (refine go ?_; and_intros <;> (try exact trivial) <;> repeat (first | refine fun (Bk : Nat) => ?_ | intro h))
    repeat' ((first | (apply G.cV (g := 10); rfl; rfl; exact fun w' _ => sanity32_holds w') | (refine G.cvb hv ?_) | (apply G.indexArr (i := 0) (o' := 0); rfl; rfl; rfl; omega; rfl; rfl; rfl; rfl) | (apply G.indexArr (i := 1) (o' := 1); rfl; rfl; rfl; omega; rfl; rfl; rfl; rfl) | (apply G.indexArr (i := 2) (o' := 2); rfl; rfl; rfl; omega; rfl; rfl; rfl; rfl)) <;> (refine go ?_; and_intros <;> (try exact trivial) <;> repeat (first | refine fun (Bk : Nat) => ?_ | intro h)))
    simp only [m1, m2, m3]
    all_goals (refine go ?_; and_intros <;> (try exact trivial) <;> repeat (first | refine fun (Bk : Nat) => ?_ | intro h))
    repeat' ((first | (apply G.cN (g := 11) (vs := [.slice (some ⟨ba, oa, none⟩) l.length c, .int .i64 (fr : Nat), .int .i64 (to : Nat)]) (fun a' c' => .tuple #[.slice a' P1.length c', .int .i64 e1]) (P1.map isV); rfl; rfl; exact fun w' hw' => hp1 w' hw'.below; intro u1 v1 hn1 hq1) | (apply G.cN (g := 11) (vs := [.slice (some ⟨ba, oa, none⟩) l.length c, .int .i64 (fr : Nat), .int .i64 (via : Nat)]) (fun a' c' => .tuple #[.slice a' P2.length c', .int .i64 e2]) (P2.map isV); rfl; rfl; exact fun w' hw' => hp2 w' hw'.below; intro u2 v2 hn2 hq2) | (apply G.cN (g := 11) (vs := [.slice (some ⟨ba, oa, none⟩) l.length c, .int .i64 (via : Nat), .int .i64 (to : Nat)]) (fun a' c' => .tuple #[.slice a' P3.length c', .int .i64 e3]) (P3.map isV); rfl; rfl; exact fun w' hw' => hp3 w' hw'.below; intro u3 v3 hn3 hq3)) <;> (refine go ?_; and_intros <;> (try exact trivial) <;> repeat (first | refine fun (Bk : Nat) => ?_ | intro h)))
    all_goals
      obtain ⟨b0, o0, rfl⟩ := hn1 (by rw [List.length_map]; omega)
      refine J.loop (c := _) (0 : Nat) (fun s => P1.length - s) (fun s => [(0, .slice (some ⟨ba, oa, none⟩) l.length c), (6, .int .i64 fr), (7, .int .i64 via), (8, .int .i64 to), (9, .slice (some ⟨b0, o0, none⟩) P1.length v1), (12, .int .i64 e2), (14, .int .i64 e3), (91, .slice (some ⟨b0, o0, none⟩) P1.length v1), (92, .int .i64 P1.length), (93, .int .i64 s)]) (fun s => [slRow w.heap.size (some ⟨b0, o0, none⟩) 1 (P1.map isV)]) (fun s => s ≤ P1.length) ?_ sbT sbL ?_
      · exact Nat.zero_le _
      clear hv hp1 hp2 hp3 hn1 hn2 hn3 hq1 hq2 hq3
      intro i i1 ih
      by_cases hi : i < P1.length
      · have ih := ih (i + 1) hi (by omega)
        have hgi := fun {C M} (hm : slRow w.heap.size (some ⟨b0, o0, none⟩) 1 (P1.map isV) ∈ M) => CellV.sl0 (C := C) (M := M) (f := isV) (l := P1) hm hi rfl
        rw [hPg i hi] at hgi
        clear ha1 ha2 ha3 hcp hmem hover
        cases i with
        | zero =>
          generalize itr l 0 fr = x at *
          all_goals (refine go ?_; and_intros <;> (try exact trivial) <;> repeat (first | refine fun (Bk : Nat) => ?_ | intro h))
          repeat' ((first | (apply G.ld; rfl; (apply LdV.one; exact hgi (by exact mm)); rfl)) <;> (refine go ?_; and_intros <;> (try exact trivial) <;> repeat (first | refine fun (Bk : Nat) => ?_ | intro h)))
          exact J.fin ih
        | succ j =>
          have hj1 := hin j
          have hj2 := hps j (by omega)
          have hgj := fun {C M} (hm : slRow w.heap.size (some ⟨b0, o0, none⟩) 1 (P1.map isV) ∈ M) => CellV.sl0 (C := C) (M := M) (f := isV) (l := P1) hm (show j < P1.length by omega) rfl
          rw [hPg j (by omega)] at hgj
          rw [itr_succ] at hgi
          generalize itr l j fr = y at *
          obtain ⟨z, rfl⟩ : ∃ z : Nat, y = z := ⟨y.toNat, by omega⟩
          have hz : z < l.length := by omega
          have hrz := hra z hz
          rw [dnOf_at hz] at hgi
          clear hin hps hPg hra
          generalize l[z] = r at *
          obtain ⟨dn, ws, adr, cap⟩ := r
          dsimp only [rcV] at *
          all_goals (refine go ?_; and_intros <;> (try exact trivial) <;> repeat (first | refine fun (Bk : Nat) => ?_ | intro h))
          repeat' ((first | (apply G.ld; rfl; (apply LdV.one; exact hgi (by exact mm)); rfl) | (apply G.ld; rfl; (apply LdV.one; exact hgj (by exact mm)); rfl)) <;> (refine go ?_; and_intros <;> (try exact trivial) <;> repeat (first | refine fun (Bk : Nat) => ?_ | intro h)))
          exact J.fin ih
      · obtain rfl : i = P1.length := by omega
        clear ih
        have hg0 := fun {C M} (hm : slRow w.heap.size (some ⟨b0, o0, none⟩) 1 (P1.map isV) ∈ M) => CellV.sl0 (C := C) (M := M) (f := isV) (l := P1) hm (show 0 < P1.length by omega) rfl
        have hgd := fun {C M} (hm : slRow w.heap.size (some ⟨b0, o0, none⟩) 1 (P1.map isV) ∈ M) => CellV.sl0 (C := C) (M := M) (f := isV) (l := P1) hm (show d < P1.length by omega) rfl
        rw [hPg 0 (by omega), itr] at hg0
        rw [hPg d (by omega), hd] at hgd
        have hct := fun w' hx => containsI_holds (some ⟨b0, o0, none⟩) P1 v1 (via : Int) w' hx (by omega)
        clear hin hps hPg hra
        by_cases ho : e2 = 0 ∧ e3 = 0
        · rw [decide_eq_true (hmem.2 ho)] at hct
          have hover := hover ho.1 ho.2
          have sK := fun (hz : d1 = 0 ∧ d2 = 0 ∧ d3 = 0 ∧ d4 = 0) w' a b c d hx hy => same_holds a c K4 K1 b d w' hx hy (by rw [hover hz.1 hz.2.1 hz.2.2.1 hz.2.2.2]; omega)
          have sK := fun hz w' a b c d hx hy => by
            have := sK hz w' a b c d hx hy
            rw [decide_eq_true (hover hz.1 hz.2.1 hz.2.2.1 hz.2.2.2)] at this
            exact this
          obtain ⟨ho1, ho2⟩ := ho
          clear hmem
          all_goals (refine go ?_; and_intros <;> (try exact trivial) <;> repeat (first | refine fun (Bk : Nat) => ?_ | intro h))
          repeat' ((first | (apply G.ld; rfl; (apply LdV.one; exact hg0 (by exact mm)); rfl) | (apply G.ld; rfl; (apply LdV.one; exact hgd (by exact mm)); rfl) | (apply G.ix (i := d); rfl; rfl; omega; omega; rfl) | (apply G.cV (g := 32) (v := .bool true); rfl; rfl; exact fun w' hw' => hct w' (hw'.sl (by exact mm))) | (apply G.cN (g := 19) (vs := [.slice (some ⟨ba, oa, none⟩) l.length c, .int .i64 (fr : Nat), .int .i64 (to : Nat)]) (fun a' c' => .tuple #[.agg #[.slice a' K1.length c'], .int .i64 d1]) (K1.map isV); rfl; rfl; exact fun w' hw' => ha1 w' hw'.below; intro u4 v4 hn4 hq4) | (apply G.cN (g := 19) (vs := [.slice (some ⟨ba, oa, none⟩) l.length c, .int .i64 (fr : Nat), .int .i64 (via : Nat)]) (fun a' c' => .tuple #[.agg #[.slice a' K2.length c'], .int .i64 d2]) (K2.map isV); rfl; rfl; exact fun w' hw' => ha2 w' hw'.below; intro u5 v5 hn5 hq5) | (apply G.cN (g := 19) (vs := [.slice (some ⟨ba, oa, none⟩) l.length c, .int .i64 (via : Nat), .int .i64 (to : Nat)]) (fun a' c' => .tuple #[.agg #[.slice a' K3.length c'], .int .i64 d3]) (K3.map isV); rfl; rfl; exact fun w' hw' => ha3 w' hw'.below; intro u6 v6 hn6 hq6) | (apply G.cN (g := 33) (fun a' c' => .tuple #[.agg #[.slice a' K4.length c'], .int .i64 d4]) (K4.map isV); rfl; rfl; exact fun w' hw' => hcp w' u5 u6 v5 v6 (hw'.sl (by exact mm)) (hw'.sl (by exact mm)); intro u7 v7 hn7 hq7) | (apply G.cV (g := 28) (v := .bool true); rfl; rfl; exact fun w' hw' => sK (by omega) w' u7 v7 u4 v4 (hw'.sl (by exact mm)) (hw'.sl (by exact mm)))) <;> (refine go ?_; and_intros <;> (try exact trivial) <;> repeat (first | refine fun (Bk : Nat) => ?_ | intro h)))
          all_goals
            all_goals refine ret1b Tryz.func4 Tryz.results4 ?_
            all_goals rfl
        · rw [decide_eq_false (fun h => ho (hmem.1 h))] at hct
          have ho : e2 = 8 ∨ e3 = 8 := by omega
          all_goals (refine go ?_; and_intros <;> (try exact trivial) <;> repeat (first | refine fun (Bk : Nat) => ?_ | intro h))
          repeat' ((first | (apply G.ld; rfl; (apply LdV.one; exact hg0 (by exact mm)); rfl) | (apply G.ld; rfl; (apply LdV.one; exact hgd (by exact mm)); rfl) | (apply G.ix (i := d); rfl; rfl; omega; omega; rfl) | (apply G.cV (g := 32) (v := .bool false); rfl; rfl; exact fun w' hw' => hct w' (hw'.sl (by exact mm)))) <;> (refine go ?_; and_intros <;> (try exact trivial) <;> repeat (first | refine fun (Bk : Nat) => ?_ | intro h)))
          all_goals
            all_goals refine ret1b Tryz.func4 Tryz.results4 ?_
            all_goals rfl
  · rw [hpe] at hp1
    have hv8 := hvia hn
    generalize pathE l fr via = X2 at *
    generalize pathE l via to = X3 at *
    obtain ⟨P2, e2⟩ := X2
    obtain ⟨P3, e3⟩ := X3
    dsimp only at hp1 hp2 hp3 e2c e3c hv8
    obtain ⟨P1, hP1⟩ : ∃ P1 : List Int, P1 = [] := ⟨_, rfl⟩
    obtain ⟨e1, he1⟩ : ∃ e1 : Int, e1 = 8 := ⟨_, rfl⟩
    rw [← hP1, ← he1] at hp1
    have hP0 : P1.length = 0 := by rw [hP1]; rfl
    clear hmem hover hpe hn hvia
    refine enterA [(0, .slice (some ⟨ba, oa, none⟩) l.length c), (1, .agg #[.int .u8 g0, .int .u8 g1, .int .u8 g2])] Tryz.func4 Tryz.ntmps4 ?_
    all_goals (refine go ?_; and_intros <;> (try exact trivial) <;> repeat (first | refine fun (Bk : Nat) => ?_ | intro h))
    repeat' ((first | (apply G.cV (g := 10); rfl; rfl; exact fun w' _ => sanity32_holds w') | (refine G.cvb hv ?_) | (apply G.indexArr (i := 0) (o' := 0); rfl; rfl; rfl; omega; rfl; rfl; rfl; rfl) | (apply G.indexArr (i := 1) (o' := 1); rfl; rfl; rfl; omega; rfl; rfl; rfl; rfl) | (apply G.indexArr (i := 2) (o' := 2); rfl; rfl; rfl; omega; rfl; rfl; rfl; rfl)) <;> (refine go ?_; and_intros <;> (try exact trivial) <;> repeat (first | refine fun (Bk : Nat) => ?_ | intro h)))
    simp only [m1, m2, m3]
    all_goals (refine go ?_; and_intros <;> (try exact trivial) <;> repeat (first | refine fun (Bk : Nat) => ?_ | intro h))
    repeat' ((first | (apply G.cN (g := 11) (vs := [.slice (some ⟨ba, oa, none⟩) l.length c, .int .i64 (fr : Nat), .int .i64 (to : Nat)]) (fun a' c' => .tuple #[.slice a' P1.length c', .int .i64 e1]) (P1.map isV); rfl; rfl; exact fun w' hw' => hp1 w' hw'.below; intro u1 v1 hn1 hq1) | (apply G.cN (g := 11) (vs := [.slice (some ⟨ba, oa, none⟩) l.length c, .int .i64 (fr : Nat), .int .i64 (via : Nat)]) (fun a' c' => .tuple #[.slice a' P2.length c', .int .i64 e2]) (P2.map isV); rfl; rfl; exact fun w' hw' => hp2 w' hw'.below; intro u2 v2 hn2 hq2) | (apply G.cN (g := 11) (vs := [.slice (some ⟨ba, oa, none⟩) l.length c, .int .i64 (via : Nat), .int .i64 (to : Nat)]) (fun a' c' => .tuple #[.slice a' P3.length c', .int .i64 e3]) (P3.map isV); rfl; rfl; exact fun w' hw' => hp3 w' hw'.below; intro u3 v3 hn3 hq3)) <;> (refine go ?_; and_intros <;> (try exact trivial) <;> repeat (first | refine fun (Bk : Nat) => ?_ | intro h)))
    all_goals
      all_goals refine ret1b Tryz.func4 Tryz.results4 ?_
      all_goals rfl
end Go.Proofs.YtceaamdomkjmlaaGreatDoor
