/-
  Contracts of kernels: divisor, total, the error.
-/
import Derived.Test.YteaccaieaigeaaaGreatDoorNB6
set_option linter.unusedVariables false
set_option linter.unusedSimpArgs false
set_option linter.unusedSectionVars false
namespace Go.Proofs.YteaccaieaigeaaaGreatDoor
open Go.RowKit Go.Sl Go.Num
def wOk (k : List Int) : Prop := (∀ w ∈ k, 0 ≤ w ∧ w ≤ 999999999999999) ∧ k.length ≤ 1000
theorem total_holds (a : Option Addr) (k : List Int) (c : Nat) (w : World) (hA : SlAt w a 1 (k.map isV)) (hk : wOk k) :
    Calls Tryz.prog 116 #[.agg #[.slice a k.length c]] w fun e w' => e = .returned (.int .i64 (sumL k)) ∧ Below w.heap.size w w' := by
  generalize hT : sumL k = T
  refine enterA [(0, .agg #[.slice a k.length c])] Tryz.func116 Tryz.ntmps116 ?_
  all_goals (refine go ?_; and_intros <;> (try exact trivial) <;> repeat (first | refine fun (Bk : Nat) => ?_ | intro h))
  refine J.loop (c := _) ((0, 0) : Nat × Int) (fun s => k.length - s.1) (fun s => [(3, .int .i64 s.2), (7, .slice a k.length c), (8, .int .i64 k.length), (9, .int .i64 s.1)]) (fun s => []) (fun s => s.1 ≤ k.length ∧ s.2 + sumL (k.drop s.1) = T ∧ 0 ≤ s.2 ∧ s.2 ≤ 999999999999999 * s.1) ?_ sbT sbL ?_
  · exact ⟨Nat.zero_le _, by rw [List.drop_zero, Int.zero_add]; exact hT, Int.le_refl _, Int.le_refl _⟩
  intro ⟨i, x⟩ ⟨h1, h2, h3, h4⟩ ih
  dsimp only at h1 h2 h3 h4 ⊢
  have hl := hk.2
  by_cases hi : i < k.length
  · obtain ⟨ba, oa, rfl, hra⟩ := SlAt.all hA (by omega)
    have hri := hra i hi
    have hw := hk.1 _ (List.getElem_mem hi)
    rw [List.drop_eq_getElem_cons hi, sumL] at h2
    clear hra hk
    have ih := ih (i + 1, x + k[i]) ⟨hi, by rw [← h2]; dsimp only; omega, by dsimp only; omega, by dsimp only; omega⟩ (by dsimp only; omega)
    generalize k[i] = z at *
    dsimp only [isV] at hri
    all_goals (refine go ?_; and_intros <;> (try exact trivial) <;> repeat (first | refine fun (Bk : Nat) => ?_ | intro h))
    exact J.fin ih
  · obtain rfl : i = k.length := by omega
    rw [List.drop_length, sumL, Int.add_zero] at h2
    subst h2
    clear ih
    all_goals (refine go ?_; and_intros <;> (try exact trivial) <;> repeat (first | refine fun (Bk : Nat) => ?_ | intro h))
    all_goals refine ret1b Tryz.func116 Tryz.results116 ?_
    all_goals rfl
end Go.Proofs.YteaccaieaigeaaaGreatDoor
/-
  Contracts of kernels: the error, the total.
-/
namespace Go.Proofs.YteaccaieaigeaaaGreatDoor
open Go.RowKit Go.Sl Go.Num
theorem badW_no {z : Int} (h : badW z = false) : 0 ≤ z ∧ z ≤ 999999999999999 := by
  rw [badW, Bool.or_eq_false_iff, decide_eq_false_iff_not, decide_eq_false_iff_not] at h; omega
theorem badW_yes {z : Int} (h : ¬ badW z = false) : z < 0 ∨ 999999999999999 < z := by
  rw [Bool.not_eq_false, badW, Bool.or_eq_true, decide_eq_true_eq, decide_eq_true_eq] at h; exact h
theorem any_yes {k : List Int} {i : Nat} (hi : i < k.length) (h : ¬ badW k[i] = false) : k.any badW = true := List.any_eq_true.2 ⟨_, List.getElem_mem hi, by simpa using h⟩
theorem any_no {k : List Int} (h : ∀ i (hi : i < k.length), badW k[i] = false) : k.any badW = false := List.any_eq_false.2 fun x hx => by
  obtain ⟨i, hi, rfl⟩ := List.getElem_of_mem hx
  simp [h i hi]
theorem wOk_of {k : List Int} (h : ∀ i (hi : i < k.length), badW k[i] = false) (hl : k.length ≤ 400) : wOk k := ⟨fun w hw => by
  obtain ⟨i, hi, rfl⟩ := List.getElem_of_mem hw
  exact badW_no (h i hi), by omega⟩
theorem Ker.wOk {k : List Int} (h : Ker k) : wOk k := ⟨h.nn, by have := h.len; omega⟩
theorem kCheck_holds (a : Option Addr) (k : List Int) (c : Nat) (w : World) (hA : SlAt w a 1 (k.map isV)) :
    Calls Tryz.prog 85 #[.agg #[.slice a k.length c]] w fun e w' => e = .returned (.int .i64 (kerErr k)) ∧ Below w.heap.size w w' := by
  rw [kerErr]
  refine enterA [(0, .agg #[.slice a k.length c])] Tryz.func85 Tryz.ntmps85 ?_
  by_cases hl : k.length < 1 ∨ 400 < k.length
  · rw [if_pos hl]
    all_goals (refine go ?_; and_intros <;> (try exact trivial) <;> repeat (first | refine fun (Bk : Nat) => ?_ | intro h))
    all_goals refine ret1b Tryz.func85 Tryz.results85 ?_
    all_goals rfl
  rw [if_neg hl]
  all_goals (refine go ?_; and_intros <;> (try exact trivial) <;> repeat (first | refine fun (Bk : Nat) => ?_ | intro h))
  all_goals
    refine J.loop (c := _) (0 : Nat) (fun s => k.length - s) (fun s => [(1, .pointer (some ⟨_, 0, none⟩)), (17, .slice a k.length c), (18, .int .i64 k.length), (19, .int .i64 s)]) (fun s => [.blk _ 57 [.slice a k.length c] 1]) (fun s => s ≤ k.length ∧ ∀ i (hi : i < k.length), i < s → badW k[i] = false) ?_ sbT sbL ?_
    · exact ⟨Nat.zero_le _, fun i h h2 => absurd h2 (Nat.not_lt_zero _)⟩
    intro i ⟨h1, h2⟩ ih
    by_cases hi : i < k.length
    · obtain ⟨ba, oa, rfl, hra⟩ := SlAt.all hA (by omega)
      have hri := hra i hi
      by_cases hb : badW k[i] = false
      · have ih := ih (i + 1) ⟨hi, fun j hj hj2 => by
          rcases Nat.lt_or_ge j i with h | h
          · exact h2 j hj h
          · obtain rfl : j = i := by omega
            exact hb⟩ (by omega)
        have hb := badW_no hb
        clear hra h2
        generalize k[i] = z at *
        dsimp only [isV] at hri
        all_goals (refine go ?_; and_intros <;> (try exact trivial) <;> repeat (first | refine fun (Bk : Nat) => ?_ | intro h))
        exact J.fin ih
      · rw [if_pos (any_yes hi hb)]
        have hb := badW_yes hb
        clear hra h2 ih
        generalize k[i] = z at *
        dsimp only [isV] at hri
        all_goals (refine go ?_; and_intros <;> (try exact trivial) <;> repeat (first | refine fun (Bk : Nat) => ?_ | intro h))
        all_goals refine ret1b Tryz.func85 Tryz.results85 ?_
        all_goals rfl
    · obtain rfl : i = k.length := by omega
      have h3 := fun j hj => h2 j hj hj
      have ht := fun w' (hb : Below w.heap.size w w') => total_holds a k c w' (hA.below hb) (wOk_of h3 (by omega))
      rw [any_no h3, if_neg (by decide)]
      clear ih h2 h3
      generalize sumL k = T at *
      by_cases hT : 999999999999999 < T
      · rw [if_pos hT]
        all_goals (refine go ?_; and_intros <;> (try exact trivial) <;> repeat (first | refine fun (Bk : Nat) => ?_ | intro h))
        repeat' ((first | (refine G.cvb ht ?_)) <;> (refine go ?_; and_intros <;> (try exact trivial) <;> repeat (first | refine fun (Bk : Nat) => ?_ | intro h)))
        all_goals refine ret1b Tryz.func85 Tryz.results85 ?_
        all_goals rfl
      rw [if_neg hT]
      by_cases h0 : T = 0
      · subst h0
        rw [if_pos rfl]
        all_goals (refine go ?_; and_intros <;> (try exact trivial) <;> repeat (first | refine fun (Bk : Nat) => ?_ | intro h))
        repeat' ((first | (refine G.cvb ht ?_)) <;> (refine go ?_; and_intros <;> (try exact trivial) <;> repeat (first | refine fun (Bk : Nat) => ?_ | intro h)))
        all_goals refine ret1b Tryz.func85 Tryz.results85 ?_
        all_goals rfl
      rw [if_neg h0]
      all_goals (refine go ?_; and_intros <;> (try exact trivial) <;> repeat (first | refine fun (Bk : Nat) => ?_ | intro h))
      repeat' ((first | (refine G.cvb ht ?_)) <;> (refine go ?_; and_intros <;> (try exact trivial) <;> repeat (first | refine fun (Bk : Nat) => ?_ | intro h)))
      all_goals refine ret1b Tryz.func85 Tryz.results85 ?_
      all_goals rfl
end Go.Proofs.YteaccaieaigeaaaGreatDoor
/-
  Contracts of kernels: reduced lists.
-/
namespace Go.Proofs.YteaccaieaigeaaaGreatDoor
open Go.RowKit Go.Sl Go.Num
/-- What a call returns that lays a list of numbers anew, within a value. -/
def RetI (F : Value → Value) (w : World) (L : List Int) (e : Ending) (w' : World) : Prop := ∃ a' c', e = .returned (F (.slice a' L.length c')) ∧ SlAt w' a' 1 (L.map isV) ∧ (∀ p, a' = some p → w.heap.size ≤ p.block) ∧ Below w.heap.size w w'
end Go.Proofs.YteaccaieaigeaaaGreatDoor
/-
  Contracts of kernels: reduced lists by the specification; Reduce and Delay of both.
-/
namespace Go.Proofs.YteaccaieaigeaaaGreatDoor
open Go.RowKit Go.Sl Go.Num
theorem retI_nil {w w' : World} (F : Value → Value) (hb : Below w.heap.size w w') : RetI F w [] (.returned (F (.slice none 0 0))) w' := ⟨none, 0, rfl, SlAt.nil, (fun p hp => by cases hp), hb⟩
end Go.Proofs.YteaccaieaigeaaaGreatDoor
/-
  Contracts: parts of kernels, equal lists, equal kernels.
-/
namespace Go.Proofs.YteaccaieaigeaaaGreatDoor
open Go.RowKit Go.Sl Go.Num
theorem eq_all {l m : List Int} (hl : l.length = m.length) (h : ∀ i (h : i < l.length) (h2 : i < m.length), i < l.length → l[i] = m[i]) : l = m := List.ext_getElem hl fun i h1 h2 => h i h1 h2 h1
theorem sameInts_holds (a b : Option Addr) (l m : List Int) (c d : Nat) (w : World) (hA : SlAt w a 1 (l.map isV)) (hB : SlAt w b 1 (m.map isV)) (hn : l.length ≤ 1000000000) :
    Calls Tryz.prog 23 #[.slice a l.length c, .slice b m.length d] w fun e w' => e = .returned (.bool (decide (l = m))) ∧ Below w.heap.size w w' := by
  refine enterA [(0, .slice a l.length c), (1, .slice b m.length d)] Tryz.func23 Tryz.ntmps23 ?_
  by_cases hl : l.length = m.length
  case neg =>
    rw [decide_eq_false (fun e => hl (by rw [e]))]
    all_goals (refine go ?_; and_intros <;> (try exact trivial) <;> repeat (first | refine fun (Bk : Nat) => ?_ | intro h))
    all_goals refine ret1b Tryz.func23 Tryz.results23 ?_
    all_goals rfl
  all_goals (refine go ?_; and_intros <;> (try exact trivial) <;> repeat (first | refine fun (Bk : Nat) => ?_ | intro h))
  refine J.loop (c := _) (0 : Nat) (fun s => l.length - s) (fun s => [(0, .slice a l.length c), (1, .slice b m.length d), (5, .int .i64 s)]) (fun s => []) (fun s => s ≤ l.length ∧ ∀ i (h : i < l.length) (h2 : i < m.length), i < s → l[i] = m[i]) ?_ sbT sbL ?_
  · exact ⟨Nat.zero_le _, fun i _ _ h => absurd h (Nat.not_lt_zero _)⟩
  intro i ⟨h1, h2⟩ ih
  by_cases hi : i < l.length
  · have hj : i < m.length := by omega
    obtain ⟨ba, oa, rfl, hra⟩ := SlAt.all hA (by omega)
    obtain ⟨bb, ob, rfl, hrb⟩ := SlAt.all hB (by omega)
    have hri := hra i hi
    have hrj := hrb i hj
    by_cases he : l[i] = m[i]
    · have ih := ih (i + 1) ⟨hi, fun j q1 q2 q3 => by
        rcases Nat.lt_or_ge j i with h | h
        · exact h2 j q1 q2 h
        · obtain rfl : j = i := by omega
          exact he⟩ (by omega)
      clear hra hrb h2
      generalize l[i] = y at *
      generalize m[i] = z at *
      dsimp only [isV] at hri hrj
      all_goals (refine go ?_; and_intros <;> (try exact trivial) <;> repeat (first | refine fun (Bk : Nat) => ?_ | intro h))
      exact J.fin ih
    · rw [decide_eq_false (fun e => he (by subst e; rfl))]
      clear hra hrb h2 ih
      generalize l[i] = y at *
      generalize m[i] = z at *
      dsimp only [isV] at hri hrj
      all_goals (refine go ?_; and_intros <;> (try exact trivial) <;> repeat (first | refine fun (Bk : Nat) => ?_ | intro h))
      all_goals refine ret1b Tryz.func23 Tryz.results23 ?_
      all_goals rfl
  · obtain rfl : i = l.length := by omega
    rw [decide_eq_true (eq_all hl h2)]
    clear ih
    all_goals (refine go ?_; and_intros <;> (try exact trivial) <;> repeat (first | refine fun (Bk : Nat) => ?_ | intro h))
    all_goals refine ret1b Tryz.func23 Tryz.results23 ?_
    all_goals rfl
end Go.Proofs.YteaccaieaigeaaaGreatDoor
/-
  Ranges over functions with one value that may go on for ever, unless a round leaves the loop.
-/
namespace Go.Sl
open Go.RowKit
variable {C : Ctx} {st : List (Nat × Value)} {M : List Row} {k : List Item} {q q' : Md} {all rest : List Oper} {d : Nat} {ty : TypeId} {pos : String} {after : Array Edge} {gd : Option (Nat × Bool)}
/-- The function f with the captures cap calls yield with each of es, until it says false; it ends behind them if fin holds. -/
def IterH (P : Program) (w0 : World) (K : List Row) (f : FuncId) (cap : Array Value) {E : Type} (enc : E → List Value) (es : List E) (fin : Prop) : Prop :=
  ∀ {X : Type} (Rs : X → List Row) (Inv : Nat → X → Prop) (Out : X → Prop) (fY : Fn) (cY : Array Value), (fin ∨ ∀ x, ¬ Inv es.length x) →
    (∀ i x e, Inv i x → es[i]? = some e → ∀ M' w, Sat w0 (Rs x ++ M') w → CallsV P (.func fY #[] cY) (enc e) w fun v w' => ∃ x', Sat w0 (Rs x' ++ M') w' ∧ (v = .bool true ∧ Inv (i + 1) x' ∨ v = .bool false ∧ Out x')) →
    ∀ x0, Inv 0 x0 → ∀ M1 w, Sat w0 (K ++ (Rs x0 ++ M1)) w →
      Calls P f (#[.func fY #[] cY] ++ cap) w fun e w' => e = .returned (.tuple #[]) ∧ ∃ x', Sat w0 (K ++ (Rs x' ++ M1)) w' ∧ (Inv es.length x' ∨ Out x')
/-- The statement, where a round may leave. -/
theorem J.rangeH1 {f : FuncId} [hF : Fun C.P f] {cap : Array Value} {g : Operand} {p1 : Tmp} {assign body : Code} {E : Type} {e1 : E → Value} {es : List E} {fin : Prop} {K : List Row} {X : Type} (Rs : X → List Row) (Inv : Nat → X → Prop) (Out : Code → X → Prop) (x0 : X) (M1 : List Row)
    (hIt : IterH C.P C.w0 K f cap (fun e => [e1 e]) es fin) (hfin : fin ∨ ∀ x, ¬ Inv es.length x) (hb : C.b.roundOf = none) (hg : evS st g = some (.func (.func f) #[] cap)) (hp1 : Nat.blt p1 C.N = true) (hM : M.Perm (K ++ (Rs x0 ++ M1))) (hI : Inv 0 x0)
    (hround : ∀ i x e, Inv i x → es[i]? = some e → ∀ L (r : Loop) M', r.state = .ready → r.pending = none →
      J (rctx C.P L C.b.fn C.N (RoundR C.w0 L r Rs M' (Inv (i + 1)) Out) C.w0) ((p1, e1 e) :: st) (.obj L (.loop r) :: Rs x ++ M') [.code assign, .beginRound, .code body])
    (h1 : ∀ Bd x, Inv es.length x → J { C with D := mark Bd :: C.D } st (.obj Bd (.deferred (some [])) :: (K ++ (Rs x ++ M1))) k)
    (h2 : ∀ Bd x c, Out c x → J { C with D := mark Bd :: C.D } st (.obj Bd (.deferred (some [])) :: (K ++ (Rs x ++ M1))) (.code c :: k)) :
    J C st M (.code (.rangeFunc g #[p1] assign body) :: k) := by
  refine J.perm hM (J.range (f := f) (cap := cap) (X := { x : X × Option Code // match x.2 with | none => Inv es.length x.1 | some c => Out c x.1 }) (fun x => K ++ (Rs x.1.1 ++ M1)) (fun x => x.1.2) (fun x => loopSt x.1.2) hb hg (fun x => by rcases x with ⟨⟨_, _ | _⟩, _⟩ <;> simp [loopSt]) ?_ fun Bd x => ?_)
  · intro tmps Bd L w r hr hfit hw
    have hrs : r.state = .ready := by rw [hr]
    have hrp : r.pending = none := by rw [hr]
    have hperm : ∀ (o : Obj) x, (Row.obj L o :: .obj Bd (.deferred (some [])) :: (K ++ (Rs x ++ M1))).Perm (K ++ ((.obj L o :: Rs x) ++ (.obj Bd (.deferred (some [])) :: M1))) := fun o x =>
      perm_cat [[Row.obj L o], [.obj Bd (.deferred (some []))], K, Rs x, M1] [0, 1, 2, 3, 4] [2, 0, 3, 1, 4] rfl
    have hmain := hIt (X := X × Option Code) (fun x => Row.obj L (.loop (loopAt r x.2)) :: Rs x.1) (fun i x => x.2 = none ∧ Inv i x.1) (fun x => ∃ c, x.2 = some c ∧ Out c x.1) (.yield L) #[] (hfin.imp id fun h x hx => h x.1 hx.2) ?_ (x0, none) ⟨rfl, hI⟩ (.obj Bd (.deferred (some [])) :: M1) w (hw.perm (hperm _ x0))
    · refine hmain.mono fun e w2 ⟨q1, ⟨x, o⟩, q2, q3⟩ => ?_
      have key : Sat C.w0 (.obj L (.loop { r with state := loopSt o, pending := o }) :: .obj Bd (.deferred (some [])) :: (K ++ (Rs x ++ M1))) w2 := by
        have h3 := q2.perm (hperm _ x).symm
        cases o with
        | none =>
          have hrr : ({ r with state := .ready, pending := none } : Loop) = r := by rw [hr]
          show Sat C.w0 (.obj L (.loop { r with state := .ready, pending := none }) :: _) w2
          rw [hrr]; exact h3
        | some c => exact h3
      rcases q3 with ⟨q4, q5⟩ | ⟨c, q4, q5⟩
      · dsimp only at q4; subst q4
        exact ⟨_, ⟨(x, none), q5⟩, q1, key⟩
      · dsimp only at q4; subst q4
        exact ⟨_, ⟨(x, some c), q5⟩, q1, key⟩
    · rintro i ⟨x, o⟩ e ⟨h3, h4⟩ h5 M' w1 hw1
      dsimp only at h3 h4 hw1; subst h3
      have h6 := hround i x e h4 h5 L r M' hrs hrp
      refine .yield L r rfl (hw1.hold _ (.head _)) (by rw [hr]; rfl) ?_
      have hf6 := hfit.put hp1 (e1 e)
      have e3 : (r.params.zip [e1 e].toArray).foldl (fun tmps (t, a) => tmps.setIfInBounds t a) r.tmps = (({ tmps := tmps, defers := [] } : Act).put (some p1) (e1 e)).tmps := by
        have e0 : ((#[p1] : Array Tmp).zip [e1 e].toArray) = #[(p1, e1 e)] := by simp
        rw [hr]; dsimp only; rw [e0]; simp [Act.put]
      rw [e3, show r.fn = C.b.fn by rw [hr], show r.assign = assign by rw [hr], show r.body = body by rw [hr]]
      have h7 := rounds_of hf6 hw1 h6
      intro c cs
      obtain ⟨v, w', ⟨x', h8⟩, h9⟩ := h7 c cs
      refine ⟨v, w', ?_, h9⟩
      rcases h8 with ⟨g1, g2, g3⟩ | ⟨cc, g1, g2, g3⟩
      · exact ⟨(x', none), g3, .inl ⟨g1, rfl, g2⟩⟩
      · exact ⟨(x', some cc), g3, .inr ⟨g1, cc, rfl, g2⟩⟩
  · rcases x with ⟨⟨x, _ | c⟩, hx⟩
    · exact h1 Bd x hx
    · exact h2 Bd x c hx
end Go.Sl
/-
  Calls that lay rows; rows brought to the front; what later chapters share.
-/
namespace Go.Sl
open Go.RowKit
variable {C : Ctx} {st : List (Nat × Value)} {M : List Row} {k : List Item} {q q' : Md} {all rest : List Oper} {d : Nat} {opn : Op} {ty : TypeId} {pos : String} {after : Array Edge} {gd : Option (Nat × Bool)}
/-- A call whose value is one of many. -/
theorem G.cX {X : Type} {g : FuncId} {args : List Operand} {vs : List Value} {at_ : Array TypeId} {v : X → Value} {w : World} [hF : Fun C.P g]
    (hc : ∀ w', Below w.heap.size w w' → Calls C.P g vs.toArray w' fun e w'' => ∃ x, e = .returned (v x) ∧ Below w'.heap.size w' w'') (h : ∀ x, G q' C all ((d, v x) :: st) M rest k) (hw : w = C.w0 := by rfl) (ha : evL st args = some vs := by rfl) (hs : sideB all st gd d C.N q.ext = some q' := by rfl) :
    G q C all st M ({ dst := some d, op := .call { callee := .value (.func g), args := args.toArray, argTypes := at_ }, type := ty, pos, after, guard := gd } :: rest) k := by
  subst hw
  obtain ⟨g1, g2, g3⟩ := sideB_ok hs
  exact G.call0 (X := X) (v := v) (Mn := fun _ => []) g1 g2 g3 ha (fun w hw => (hc w hw.below).mono fun e w' ⟨x, h1, h2⟩ => ⟨x, h1, hw.ext h2⟩) h
/-- A call that lays rows. -/
theorem G.cR {X : Type} {g : FuncId} {args : List Operand} {vs : List Value} {at_ : Array TypeId} {v : X → Value} {Mn : X → List Row} (ha : evL st args = some vs) (hs : sideB all st gd d C.N q.ext = some q') [hF : Fun C.P g]
    (hc : ∀ w, Sat C.w0 M w → Calls C.P g vs.toArray w fun e w' => ∃ x, e = .returned (v x) ∧ Sat C.w0 (Mn x ++ M) w') (h : ∀ x, G q' C all ((d, v x) :: st) (Mn x ++ M) rest k) :
    G q C all st M ({ dst := some d, op := .call { callee := .value (.func g), args := args.toArray, argTypes := at_ }, type := ty, pos, after, guard := gd } :: rest) k := by
  obtain ⟨g1, g2, g3⟩ := sideB_ok hs
  exact G.call0 g1 g2 g3 ha hc h
end Go.Sl
namespace Go.Sl
end Go.Sl
namespace Go.Sl
open Go.RowKit
/-- An own slice has a slice's form. -/
theorem G.ownForm {C : Ctx} {st : List (Nat × Value)} {M : List Row} {k : List Item} {all rest : List Oper} {base E size n i : Nat} {v : Value} {xs : List Value} (hm : M[i]? = some (.own base v E size n xs)) (h : ∀ a c, v = .slice a n c → G .seq C all st M rest k) : G .seq C all st M rest k :=
  ⟨fun a w hf hd hw => by
    obtain ⟨hl, hv⟩ := hw.hold _ (List.mem_of_getElem? hm)
    rcases hv with ⟨rfl, rfl⟩ | ⟨g, cap, cur, rfl, _⟩
    · exact (h _ _ rfl).go a w hf hd hw
    · exact (h _ _ rfl).go a w hf hd hw⟩
end Go.Sl
namespace Go.Sl
open Go.RowKit Go.ChangeShapes Go.WideShapes
theorem list1 {A : Type} {l : List A} (h : l.length = 1) : ∃ a, l = [a] := by
  match l, h with
  | [a], _ => exact ⟨a, rfl⟩
theorem Reads.struct1 {P : Program} {T : TypeId} {A1 : Type} {f1 : A1 → List Value} {G1 : World → A1 → Prop} {d1 : Field} {n : Nat} (ht : P.underlying T = some (.struct #[d1])) (hn : P.cellsOf T = n) (hT : tight P #[d1] n = true) (h1 : Reads P d1.type f1 G1) :
    Reads P T f1 G1 := .mk fun enc w fuel cs x hx => by
  obtain ⟨hj, hl, hf⟩ := Reads.struct ht hn hT hx
  obtain ⟨p1, hp⟩ := list1 hl
  rw [hp] at hj hf
  obtain ⟨_, _, r1⟩ := hf 0 d1 p1 rfl rfl
  obtain ⟨a1, rfl, g1⟩ := h1.go enc w _ _ _ r1
  exact ⟨a1, by rw [hj]; simp, g1⟩
end Go.Sl
namespace Go.Sl
open Go.RowKit
end Go.Sl
namespace Go.Sl
open Go.RowKit
variable {C : Ctx} {st : List (Nat × Value)} {M : List Row} {k : List Item} {q q' : Md} {all rest : List Oper} {d : Nat} {opn : Op} {ty : TypeId} {pos : String} {after : Array Edge} {gd : Option (Nat × Bool)}
/-- A call that changes some rows, wherever they stand. -/
theorem G.cP {X : Type} {g : FuncId} {args : List Operand} {vs : List Value} {at_ : Array TypeId} (v : X → Value) (T : List Row) (Tn : X → List Row) {M1 : List Row} (ha : evL st args = some vs) (hs : sideB all st gd d C.N q.res = some q') [hF : Fun C.P g] (hp : M.Perm (T ++ M1))
    (hc : ∀ w, Sat C.w0 (T ++ M1) w → Calls C.P g vs.toArray w fun e w' => ∃ x, e = .returned (v x) ∧ Sat C.w0 (Tn x ++ M1) w') (h : ∀ x, G q' C all ((d, v x) :: st) (Tn x ++ M1) rest k) :
    G q C all st M ({ dst := some d, op := .call { callee := .value (.func g), args := args.toArray, argTypes := at_ }, type := ty, pos, after, guard := gd } :: rest) k :=
  G.cM v (fun x => Tn x ++ M1) hs ha (fun w hw => hc w (hw.perm hp)) h
/-- A slice that is nil is the call's own. -/
theorem G.nilOwn {E size : Nat} (h : G .seq C all st (.own 0 (.slice none 0 0) E size 0 [] :: M) rest k) : G .seq C all st M rest k :=
  ⟨fun a w hf hd hw => h.go a w hf hd (hw.new (Below.refl _ _) ⟨by simp, .inl ⟨rfl, rfl⟩⟩ (Nat.zero_le _) fun b hb => by simp [Row.sup, Value.ownBlock] at hb)⟩
/-- A block becomes the call's own slice, in the midst of a region. -/
theorem G.blkCut {A : Type} {f : A → List Value} {g cap E size : Nat} {l l' : List A} (m : Nat) {F : Row → List Row} (hf : ∀ x, (f x).length = size) (hm : RAt (.blk g E (flat f l) (cap * size)) M F) (h1 : m ≤ cap) (h2 : cap ≤ maxLen) (h3 : m ≤ l.length) (h4 : l.take m = l') (h : G .seq C all st (F (.own 0 (.slice (some ⟨g, 0, none⟩) m cap) E size m (flat f l'))) rest k) : G .seq C all st M rest k :=
  ⟨fun a w hfit hd hw => by
    obtain ⟨i, h5, h6⟩ := hm.idx
    obtain ⟨rs, h7, h8⟩ := hw.hold _ (List.mem_of_getElem? h5)
    rw [← h6] at h
    refine h.go a w hfit hd (hw.swap h5 (r' := .own 0 (.slice (some ⟨g, 0, none⟩) m cap) E size m (flat f l')) ?_ rfl fun b hb => ?_)
    · subst h4
      have h9 : m * size ≤ (flat f l).length := by rw [flat_len hf]; exact Nat.mul_le_mul_right _ h3
      refine ⟨by rw [flat_len hf, List.length_take, Nat.min_eq_left h3], .inr ⟨g, cap, _, rfl, Nat.zero_le _, h7, h1, h2, by simp [h8], ?_⟩⟩
      rw [← flat_take hf l m, List.take_append_of_le_length h9]
    · cases hb; rfl⟩
/-- A slice of things that hold slices. -/
structure NstAt {A : Type} (f : A → List Value) (sz : Nat) (adr : A → Option Addr) (sz2 : Nat) (F2 : A → List (List Value)) (w : World) (a : Option Addr) (L : List A) : Prop where
  out : SlAt w a sz (L.map f)
  inn : ∀ r ∈ L, SlAt w (adr r) sz2 (F2 r)
section
variable {A : Type} {f : A → List Value} {sz : Nat} {adr : A → Option Addr} {sz2 : Nat} {F2 : A → List (List Value)}
theorem NstAt.below {w w' : World} {a : Option Addr} {L : List A} (h : NstAt f sz adr sz2 F2 w a L) (hb : Below w.heap.size w w') : NstAt f sz adr sz2 F2 w' a L := ⟨h.out.below hb, fun r hr => (h.inn r hr).below hb⟩
end
end Go.Sl
/-
  A region that draws its order, cut in two: operations in any order, then others in a row. The latter may call a loop's round.
-/
namespace Go.Sl
open Go.RowKit
variable {C : Ctx} {st : List (Nat × Value)} {M : List Row} {k : List Item}
/-- From n on each operation waits for all before it; those before n wait for earlier ones alone. -/
def cutB (l : List Oper) (n : Nat) : Bool :=
  (List.range l.length).all fun j => match l[j]? with
    | none => true
    | some o => (o.after.all fun e => !Region.binds .any e || decide (e.on < j)) && (if j < n then (match o.guard with | some (g, _) => decide (g < n) | none => true) else (List.range j).all fun i => ((Region.before l.toArray).getD j 0).testBit i)
structure CutOk (l : List Oper) (n : Nat) : Prop where
  back : ∀ j o, l[j]? = some o → ∀ e ∈ o.after, Region.binds .any e = true → e.on < j
  gd : ∀ j o g v, l[j]? = some o → j < n → o.guard = some (g, v) → g < n
  wait : ∀ j i, j < l.length → n ≤ j → i < j → Path l.toArray j i
theorem cut_ok {l : List Oper} {n : Nat} (h : cutB l n = true) : CutOk l n := by
  have key : ∀ j o, l[j]? = some o → (∀ e ∈ o.after, Region.binds .any e = true → e.on < j) ∧ (if j < n then (match o.guard with | some (g, _) => decide (g < n) | none => true) else (List.range j).all fun i => ((Region.before l.toArray).getD j 0).testBit i) = true := fun j o ho => by
    have hj := (List.getElem?_eq_some_iff.1 ho).1
    have := List.all_eq_true.1 h j (List.mem_range.2 hj)
    rw [ho] at this
    dsimp only at this
    rw [Bool.and_eq_true] at this
    refine ⟨fun e he hb => ?_, this.2⟩
    have h2 := (Array.all_eq_true_iff_forall_mem.1 this.1) e he
    rw [hb] at h2
    simpa using h2
  refine ⟨fun j o ho => (key j o ho).1, fun j o g v ho hj hg => ?_, fun j i hj hn hi => ?_⟩
  · have := (key j o ho).2
    rw [if_pos hj, hg] at this
    exact of_decide_eq_true this
  · have ho : l[j]? = some l[j] := List.getElem?_eq_getElem hj
    have := (key j _ ho).2
    rw [if_neg (by omega)] at this
    exact before_path (List.all_eq_true.1 this i (List.mem_range.2 hi))
theorem lin_cons {ops : Array Oper} {F t : Nat} {listed : Array Bool} : (Region.ready .any ops listed = [] ∧ Region.linearise.go .any ops (F + 1) t listed [] = []) ∨ ∃ i t', i ∈ Region.ready .any ops listed ∧ Region.linearise.go .any ops (F + 1) t listed [] = i :: Region.linearise.go .any ops F t' (listed.setIfInBounds i true) [] := by
  cases hi : (Region.ready .any ops listed)[t % (Region.ready .any ops listed).length]? with
  | none =>
    left
    have hnil : Region.ready .any ops listed = [] := by
      cases hr : Region.ready .any ops listed with
      | nil => rfl
      | cons x xs =>
        rw [hr] at hi
        have hlt : t % (x :: xs).length < (x :: xs).length := Nat.mod_lt _ (by simp)
        simp at hi
        simp at hlt
        omega
    refine ⟨hnil, ?_⟩
    simp only [Region.linearise.go]
    change (match (Region.ready .any ops listed)[t % (Region.ready .any ops listed).length]? with
      | some i => Region.linearise.go .any ops F (t / (Region.ready .any ops listed).length) (listed.setIfInBounds i true) [i]
      | none => [].reverse) = []
    rw [hi]; rfl
  | some i =>
    right
    refine ⟨i, t / (Region.ready .any ops listed).length, List.mem_of_getElem? hi, ?_⟩
    simp only [Region.linearise.go]
    change (match (Region.ready .any ops listed)[t % (Region.ready .any ops listed).length]? with
      | some i => Region.linearise.go .any ops F (t / (Region.ready .any ops listed).length) (listed.setIfInBounds i true) [i]
      | none => [].reverse) = _
    rw [hi]
    simp only []
    rw [linearise_go_acc, List.reverse_singleton, List.singleton_append]
/-- What is still to come, when the first j are listed. -/
theorem lin_rest {l : List Oper} {n : Nat} (hc : CutOk l n) : ∀ (F j t : Nat) (listed : Array Bool), n ≤ j → j ≤ l.length → l.length - j ≤ F → listed.size = l.length → (∀ i, i < l.length → listed.getD i false = decide (i < j)) → DC l.toArray listed →
    Region.linearise.go .any l.toArray F t listed [] = List.range' j (l.length - j)
  | 0, j, t, listed, h1, h2, h3, _, _, _ => by
    rw [show l.length - j = 0 by omega]; rfl
  | F + 1, j, t, listed, h1, h2, h3, hz, h4, hdc => by
    have hget : ∀ i, i < l.length → listed.getD i true = decide (i < j) := fun i hi => by
      rw [← h4 i hi, Array.getD_eq_getD_getElem?, Array.getD_eq_getD_getElem?, Array.getElem?_eq_getElem (by omega)]; rfl
    have hrd : ∀ i, i ∈ Region.ready .any l.toArray listed → i = j ∧ j < l.length := fun i hi => by
      obtain ⟨q1, o, q2, _⟩ := mem_ready.1 hi
      have q3 := (Array.getElem?_eq_some_iff.1 q2).1
      rw [List.size_toArray] at q3
      rw [hget i q3, decide_eq_false_iff_not] at q1
      rcases Nat.lt_or_ge j i with q4 | q4
      · have := (hc.wait i j q3 (by omega) q4).listed hdc hi
        rw [h4 j (by omega), decide_eq_true_eq] at this
        omega
      · exact ⟨by omega, by omega⟩
    rcases lin_cons (ops := l.toArray) (F := F) (t := t) (listed := listed) with ⟨q1, q2⟩ | ⟨i, t', q1, q2⟩
    · rcases Nat.lt_or_ge j l.length with hj | hj
      · have : j ∈ Region.ready .any l.toArray listed := mem_ready.2 ⟨by rw [hget j hj]; simp, l[j], by simp [hj], fun e he hb => by
          have := hc.back j _ (List.getElem?_eq_getElem hj) e he hb
          rw [h4 _ (by omega)]; simpa using this⟩
        rw [q1] at this; cases this
      · rw [q2, show l.length - j = 0 by omega]; rfl
    · obtain ⟨rfl, hj⟩ := hrd i q1
      rw [q2, lin_rest hc F (i + 1) t' _ (by omega) (by omega) (by omega) (by simpa using hz) (fun m hm => ?_) (hdc.set q1), show l.length - i = l.length - (i + 1) + 1 by omega, List.range'_succ]
      by_cases e : i = m
      · subst e
        rw [Array.getD_eq_getD_getElem?, Array.getElem?_setIfInBounds_self_of_lt (by omega)]; simp
      · rw [getD_set_ne false e, h4 m hm]
        exact decide_eq_decide.2 (by omega)
theorem wanted_take {l : List Oper} {n j : Nat} (hc : CutOk l n) {o : Oper} (ho : l[j]? = some o) (hj : j < n) (tmps : Array Value) : Region.wanted o (yielded (l.take n).toArray tmps) = Region.wanted o (yielded l.toArray tmps) := by
  unfold Region.wanted
  cases hg : o.guard with
  | none => rfl
  | some p =>
    obtain ⟨g, v⟩ := p
    have := hc.gd j o g v ho hj hg
    have e : yielded (l.take n).toArray tmps g = yielded l.toArray tmps g := by
      unfold yielded
      rw [List.getElem?_toArray, List.getElem?_toArray, List.getElem?_take_of_lt this]
    dsimp only
    rw [e]
/-- The first n in any order, then the rest. -/
theorem run_cut {l : List Oper} {n : Nat} (hn : n ≤ l.length) (hc : CutOk l n) (hnd : noDefer l = true) : ∀ (c F t : Nat) (listed listed' : Array Bool) (a : Act) (w : World), listed.size = l.length → listed'.size = n → (∀ i, i < n → listed'.getD i false = listed.getD i false) → (∀ i, n ≤ i → listed.getD i false = false) → DC l.toArray listed →
    ((List.range l.length).filter fun i => !listed.getD i true).length ≤ F →
    wpAny C.P .any (l.take n).toArray (Qk C (.inRegion l.toArray (List.range' n (l.length - n)) :: k)) c listed' a w → Run C.P C.b C.PHI (.inRegion l.toArray (Region.linearise.go .any l.toArray F t listed []) :: k) a w := by
  have hopn : ∀ i, i < n → (l.take n).toArray[i]? = l.toArray[i]? := fun i hi => by
    rw [List.getElem?_toArray, List.getElem?_toArray, List.getElem?_take_of_lt hi]
  -- ready in the first part
  have hrdy : ∀ (listed listed' : Array Bool), listed.size = l.length → listed'.size = n → (∀ i, i < n → listed'.getD i false = listed.getD i false) → ∀ i, i < n → i ∈ Region.ready .any l.toArray listed → i ∈ Region.ready .any (l.take n).toArray listed' := fun listed listed' z1 z2 h1 i hi hr => by
    obtain ⟨q1, o, q2, q3⟩ := mem_ready.1 hr
    refine mem_ready.2 ⟨?_, o, by rw [hopn i hi]; exact q2, fun e he hb => ?_⟩
    · have := h1 i hi
      rw [Array.getD_eq_getD_getElem?, Array.getElem?_eq_getElem (by omega)] at q1 this ⊢
      rw [Array.getD_eq_getD_getElem?, Array.getElem?_eq_getElem (by omega)] at this
      simp only [Option.getD_some] at q1 this ⊢
      rw [this]; exact q1
    · have q4 := hc.back i o (by rw [← List.getElem?_toArray]; exact q2) e he hb
      rw [h1 _ (by omega)]; exact q3 e he hb
  -- some one is ready
  have hleast : ∀ (listed : Array Bool), listed.size = l.length → ∀ m, m < n → listed.getD m false = false → ∃ i, i < n ∧ i ∈ Region.ready .any l.toArray listed := fun listed hz m => by
    induction m using Nat.strongRecOn with
    | _ m ih =>
      intro hm hl
      by_cases hx : ∃ m', m' < m ∧ listed.getD m' false = false
      · obtain ⟨m', h1, h2⟩ := hx
        exact ih m' h1 (by omega) h2
      · refine ⟨m, hm, mem_ready.2 ⟨?_, l[m], by simp [show m < l.length by omega], fun e he hb => ?_⟩⟩
        · rw [Array.getD_eq_getD_getElem?, Array.getElem?_eq_getElem (by omega)] at hl ⊢; exact hl
        · have := hc.back m _ (List.getElem?_eq_getElem (by omega)) e he hb
          by_cases h3 : listed.getD e.on false = true
          · exact h3
          · rw [Bool.not_eq_true] at h3
            exact absurd ⟨_, this, h3⟩ hx
  have hdone : ∀ (F t : Nat) (listed : Array Bool) (a : Act) (w : World), listed.size = l.length → (∀ i, n ≤ i → listed.getD i false = false) → DC l.toArray listed → ((List.range l.length).filter fun i => !listed.getD i true).length ≤ F → (∀ m, m < n → listed.getD m false = true) →
      Qk C (.inRegion l.toArray (List.range' n (l.length - n)) :: k) .normal a w → Run C.P C.b C.PHI (.inRegion l.toArray (Region.linearise.go .any l.toArray F t listed []) :: k) a w := fun F t listed a w hz h2 hdc hF hall hQ => by
    have hl : ∀ i, i < l.length → listed.getD i false = decide (i < n) := fun i hi => by
      by_cases h : i < n
      · rw [hall i h]; simp [h]
      · rw [h2 i (by omega)]; simp [h]
    have hF2 : l.length - n ≤ F := by
      refine Nat.le_trans ?_ hF
      have : (List.range l.length).filter (fun i => !listed.getD i true) = (List.range l.length).filter (fun i => decide (n ≤ i)) := List.filter_congr fun i hi => by
        rw [List.mem_range] at hi
        have := hl i hi
        rw [Array.getD_eq_getD_getElem?, Array.getElem?_eq_getElem (by omega)] at this ⊢
        simp only [Option.getD_some] at this ⊢
        rw [this]
        by_cases h : i < n
        · simp [h]
        · simp [h, Nat.le_of_not_lt h]
      rw [this]
      have e : (List.range' n (l.length - n)).Sublist ((List.range l.length).filter fun i => decide (n ≤ i)) := by
        have h3 : (List.range' n (l.length - n)).filter (fun i => decide (n ≤ i)) = List.range' n (l.length - n) := List.filter_eq_self.2 fun i hi => by
          rw [List.mem_range'_1] at hi; exact decide_eq_true hi.1
        rw [← h3]
        refine List.Sublist.filter _ ?_
        rw [List.range_eq_range', show l.length = n + (l.length - n) by omega, List.range'_append_1.symm]
        rw [show n + (l.length - n) - n = l.length - n by omega, Nat.zero_add]
        exact List.sublist_append_right ..
      have := e.length_le
      rwa [List.length_range'] at this
    rw [lin_rest hc F n t listed (Nat.le_refl _) hn hF2 hz hl hdc]
    exact hQ.2
  intro c
  induction c with
  | zero =>
    intro F t listed listed' a w z1 z2 h1 h2 hdc hF hw
    refine hdone F t listed a w z1 h2 hdc hF (fun m hm => ?_) hw.2
    by_cases h : listed.getD m false = true
    · exact h
    · rw [Bool.not_eq_true] at h
      obtain ⟨i, q1, q2⟩ := hleast listed z1 m hm h
      have := hrdy listed listed' z1 z2 h1 i q1 q2
      rw [hw.1] at this; cases this
  | succ c ih =>
    intro F t listed listed' a w z1 z2 h1 h2 hdc hF hw
    by_cases hall : ∀ m, m < n → listed.getD m false = true
    · refine hdone F t listed a w z1 h2 hdc hF hall (hw.1 ?_)
      refine List.eq_nil_iff_forall_not_mem.2 fun i hi => ?_
      obtain ⟨q1, o, q2, _⟩ := mem_ready.1 hi
      have q3 := (Array.getElem?_eq_some_iff.1 q2).1
      rw [List.size_toArray, List.length_take] at q3
      have := h1 i (by omega)
      rw [hall i (by omega), Array.getD_eq_getD_getElem?, Array.getElem?_eq_getElem (by omega)] at this
      rw [Array.getD_eq_getD_getElem?, Array.getElem?_eq_getElem (by omega)] at q1
      simp only [Option.getD_some] at q1 this
      rw [this] at q1; cases q1
    · have hex : ∃ m, m < n ∧ listed.getD m false = false := by
        by_cases h : ∃ m, m < n ∧ listed.getD m false = false
        · exact h
        · exact absurd (fun m hm => by
            by_cases h3 : listed.getD m false = true
            · exact h3
            · rw [Bool.not_eq_true] at h3; exact absurd ⟨m, hm, h3⟩ h) hall
      obtain ⟨m, hm, hml⟩ := hex
      obtain ⟨i0, p1, p2⟩ := hleast listed z1 m hm hml
      cases F with
      | zero =>
        have : i0 ∈ (List.range l.length).filter fun i => !listed.getD i true := by
          obtain ⟨q1, o, q2, _⟩ := mem_ready.1 p2
          exact List.mem_filter.2 ⟨List.mem_range.2 (by omega), by rw [q1]; rfl⟩
        rw [List.length_eq_zero_iff.1 (Nat.le_zero.1 hF)] at this; cases this
      | succ F =>
        rcases lin_cons (ops := l.toArray) (F := F) (t := t) (listed := listed) with ⟨q1, _⟩ | ⟨i, t', q1, q2⟩
        · rw [q1] at p2; cases p2
        · have hin : i < n := by
            rcases Nat.lt_or_ge i n with h | h
            · exact h
            · have hil : i < l.length := by
                obtain ⟨_, o, q3, _⟩ := mem_ready.1 q1
                have := (Array.getElem?_eq_some_iff.1 q3).1
                rwa [List.size_toArray] at this
              have := (hc.wait i m hil h (by omega)).listed hdc q1
              rw [hml] at this; cases this
          rw [q2]
          have hrun : ∀ a' w', wpAny C.P .any (l.take n).toArray (Qk C (.inRegion l.toArray (List.range' n (l.length - n)) :: k)) c (listed'.setIfInBounds i true) a' w' → Run C.P C.b C.PHI (.inRegion l.toArray (Region.linearise.go .any l.toArray F t' (listed.setIfInBounds i true) []) :: k) a' w' := fun a' w' hw' => by
            refine ih F t' _ _ a' w' (by simpa using z1) (by simpa using z2) (fun j hj => ?_) (fun j hj => ?_) (hdc.set q1) ?_ hw'
            · by_cases e : i = j
              · subst e
                rw [Array.getD_eq_getD_getElem?, Array.getElem?_setIfInBounds_self_of_lt (by omega), Array.getD_eq_getD_getElem?, Array.getElem?_setIfInBounds_self_of_lt (by omega)]
              · rw [getD_set_ne false e, getD_set_ne false e, h1 j hj]
            · rw [getD_set_ne false (by omega), h2 j hj]
            · have hlt : ((List.range l.length).filter fun x => !(listed.setIfInBounds i true).getD x true).length < ((List.range l.length).filter fun x => !listed.getD x true).length := by
                have hsub : ((List.range l.length).filter fun x => !(listed.setIfInBounds i true).getD x true) = ((List.range l.length).filter fun x => !listed.getD x true).filter fun x => decide (x ≠ i) := by
                  rw [List.filter_filter]
                  refine List.filter_congr fun x hx => ?_
                  by_cases e : i = x
                  · subst e
                    rw [Array.getD_eq_getD_getElem?, Array.getElem?_setIfInBounds_self_of_lt (by omega)]; simp
                  · rw [getD_set_ne true e]; simp [show x ≠ i from fun h => e h.symm]
                rw [hsub]
                refine List.length_filter_lt_length_iff_exists.2 ⟨i, ?_, by simp⟩
                obtain ⟨r1, o, r2, _⟩ := mem_ready.1 q1
                exact List.mem_filter.2 ⟨List.mem_range.2 (by omega), by rw [r1]; rfl⟩
              omega
          have hop := hw.2 i (hrdy listed listed' z1 z2 h1 i hin q1)
          unfold wpOp at hop
          obtain ⟨_, o, r2, _⟩ := mem_ready.1 q1
          have hlo : l[i]? = some o := by rw [← List.getElem?_toArray]; exact r2
          rw [hopn i hin, r2] at hop
          dsimp only at hop
          rw [wanted_take hc hlo hin] at hop
          by_cases hwn : Region.wanted o (yielded l.toArray a.tmps) = true
          · rw [if_pos hwn] at hop
            rcases hop with hop | ⟨-, _, _, hq⟩
            · exact Run.op r2 hwn (.inr (noDefer_mem hnd (List.mem_of_getElem? hlo))) (Oper.upon_imp hrun (fun e a w hq => hq.1) hop)
            · exact absurd hq.1 (by simp)
          · rw [if_neg hwn] at hop
            exact Run.opSkip r2 (by simpa using hwn) (hrun _ _ hop)
/-- The region's first n operations by a plan, then the rest in a row. -/
theorem J.regY {id : Nat} {l : List Oper} (n : Nat) (p : Pt) (hm : C.P.follows .mixedOrders = true)
    (hB : ((decide (n ≤ l.length) && cutB l n) && (decide (p.size = (l.take n).length) && (planB (l.take n).toArray (Array.replicate (l.take n).length false) p && (Region.noSelect (l.take n).toArray && noDefer l)))) = true)
    (h : G (.any p) C (l.take n) st M (opsOf (l.take n) p) (.inRegion l.toArray (List.range' n (l.length - n)) :: k)) : J C st M (.code (.region id l.toArray true) :: k) := by
  simp only [Bool.and_eq_true, decide_eq_true_eq] at hB
  obtain ⟨⟨h1, h2⟩, h3, h4, h5, h6⟩ := hB
  have hlen : (l.take n).length = n := by rw [List.length_take]; omega
  refine .mk fun a w hf hd hw => ?_
  refine Run.step (a' := a) (w' := { w with drawn := w.drawn + 1 }) (fun cs => stepR_region_draw) ?_
  simp only [Region.schedule, hm, Bool.true_or, if_true]
  have h7 := h.go rfl h5 (Array.replicate (l.take n).length false) (DC.start _ _) h4 a _ hf hd hw.drawn
  rw [h3, hlen] at h7
  refine run_cut (n := n) h1 (cut_ok h2) h6 n _ _ _ (Array.replicate n false) a _ (by simp) (by simp) (fun i hi => ?_) (fun i hi => ?_) (DC.start _ _) ?_ ?_
  · rw [Array.getD_eq_getD_getElem?, Array.getD_eq_getD_getElem?, Array.getElem?_replicate, Array.getElem?_replicate, if_pos hi, if_pos (by rw [List.size_toArray]; omega)]
  · rw [Array.getD_eq_getD_getElem?, Array.getElem?_replicate]
    split <;> rfl
  · have := List.length_filter_le (fun i => !(Array.replicate l.toArray.size false).getD i true) (List.range l.length)
    rw [List.length_range] at this
    simpa using this
  · exact wpAny_of_wpK (fun a w hr => ⟨rfl, hr⟩) n _ _ _ _ h7
theorem J.inReg {l r : List Oper} {n : Nat} (hl : l.drop n = r) (h : G .seq C l st M r k) : J C st M (.inRegion l.toArray (List.range' n (l.length - n)) :: k) := by
  subst hl
  refine .mk fun a w hf hd hw => h.go a w hf hd hw _ ?_
  refine List.ext_getElem? fun i => ?_
  rw [List.getElem?_map, List.getElem?_map, List.getElem?_drop]
  by_cases hi : i < l.length - n
  · rw [List.getElem?_eq_getElem (by rw [List.length_range']; exact hi), List.getElem_range', Nat.one_mul]
    simp
    rw [List.getElem?_eq_getElem (by omega)]; rfl
  · rw [List.getElem?_eq_none (by rw [List.length_range']; omega), List.getElem?_eq_none (by omega)]; rfl
end Go.Sl
/-
  Contracts of rivers: the way down as an iterator.
-/
namespace Go.Proofs.YteaccaieaigeaaaGreatDoor
open Go.RowKit Go.Sl Go.Num
/-- The first K gauges from one on down. -/
def dnS (l : List Rch) (g : Int) (K : Nat) : List Int := (List.range K).map fun i => itr l i g
theorem dnS_len (l : List Rch) (g : Int) (K : Nat) : (dnS l g K).length = K := by rw [dnS, List.length_map, List.length_range]
theorem dnS_get (l : List Rch) (g : Int) {K i : Nat} (h : i < K) : (dnS l g K)[i]? = some (itr l i g) := by
  rw [dnS, List.getElem?_map, List.getElem?_range h]; rfl
theorem down_iter (w0 : World) (Bg Bl : Nat) (a : Option Addr) (l : List Rch) (c : Nat) (g : Int) (K : Nat) (hA : SlAt w0 a 2 (l.map rcV)) (hn : l.length ≤ 1000000) (hk : ∀ i, i < K → 0 ≤ itr l i g ∧ itr l i g < l.length) :
    IterH Tryz.prog w0 [.blk Bg 3 [.int .i64 g] 1, .blk Bl 22 [.slice a l.length c] 1] 117 #[.pointer (some ⟨Bg, 0, none⟩), .pointer (some ⟨Bl, 0, none⟩)] (fun e : Int => [.int .i64 e]) (dnS l g K) (itr l K g < 0) := by
  intro X Rs Inv Out fY cY hfin hY x0 hI0 M1 w hw
  rw [dnS_len] at hfin ⊢
  refine enterR [(0, .func fY #[] cY), (1, .pointer (some ⟨Bg, 0, none⟩)), (2, .pointer (some ⟨Bl, 0, none⟩))] hw Tryz.func117 Tryz.ntmps117 ?_
  all_goals (refine go ?_; and_intros <;> (try exact trivial) <;> repeat (first | refine fun (Bk : Nat) => ?_ | intro h))
  refine J.loop (c := _) ((0, x0) : Nat × X) (fun s => K + 1 - s.1) (fun s => [(0, .func fY #[] cY), (1, .pointer (some ⟨Bg, 0, none⟩)), (2, .pointer (some ⟨Bl, 0, none⟩)), (4, .int .i64 (itr l s.1 g))]) (fun s => .blk Bg 3 [.int .i64 g] 1 :: .blk Bl 22 [.slice a l.length c] 1 :: (Rs s.2 ++ M1)) (fun s => s.1 ≤ K ∧ Inv s.1 s.2) ?_ sbT sbL ?_
  · exact ⟨Nat.zero_le _, hI0⟩
  clear hI0 hw
  intro ⟨i, x⟩ ⟨h1, h2⟩ ih
  dsimp only at h1 h2 ⊢
  by_cases hi : i < K
  · obtain ⟨h3, h4⟩ := hk i hi
    have hy := hY i x _ h2 (dnS_get l g hi)
    have ih := fun x' h => ih (i + 1, x') ⟨hi, h⟩ (by dsimp only; omega)
    simp only [itr_succ] at ih
    clear hk
    generalize itr l i g = y at *
    obtain ⟨j, rfl⟩ : ∃ j : Nat, y = j := ⟨y.toNat, by omega⟩
    have hj : j < l.length := by omega
    obtain ⟨ba, oa, rfl, hra⟩ := SlAt.all hA (by omega)
    have hrj := hra j hj
    rw [dnOf_at hj] at ih
    clear hra
    generalize l[j] = r at *
    obtain ⟨dn, ws, adr, cap⟩ := r
    dsimp only [rcV] at *
    all_goals (refine go ?_; and_intros <;> (try exact trivial) <;> repeat (first | refine fun (Bk : Nat) => ?_ | intro h))
    repeat' ((first | (refine G.callG (Rs := Rs) (x := x) (M1 := M1) (Inv (i + 1)) Out hy rfl rfl rfl rfl (by (repeat (first | exact Splt.nil | apply Splt.cons))) ?_ ?_; all_goals intro x' hx')) <;> (refine go ?_; and_intros <;> (try exact trivial) <;> repeat (first | refine fun (Bk : Nat) => ?_ | intro h)))
    · exact J.fin (ih x' hx')
    · refine ret0 Tryz.func117 Tryz.results117 ?_
      exact fun w' hw' => ⟨rfl, x', hw'.forget sbL, .inr hx'⟩
  · obtain rfl : i = K := by omega
    have hf := hfin.resolve_right fun h => h x h2
    clear ih hk
    generalize itr l i g = y at *
    all_goals (refine go ?_; and_intros <;> (try exact trivial) <;> repeat (first | refine fun (Bk : Nat) => ?_ | intro h))
    refine end0 Tryz.func117 Tryz.results117 ?_
    exact fun w' hw' => ⟨rfl, x, hw', .inl h2⟩
theorem down_holds (w0 : World) (M : List Row) (w : World) (a : Option Addr) (l : List Rch) (c : Nat) (g : Int) (hw : Sat w0 M w) :
    Calls Tryz.prog 86 #[.slice a l.length c, .int .i64 g] w fun e w' => ∃ x : Nat × Nat, e = .returned (.func (.func 117) #[] #[.pointer (some ⟨x.1, 0, none⟩), .pointer (some ⟨x.2, 0, none⟩)]) ∧ Sat w0 (.blk x.1 3 [.int .i64 g] 1 :: .blk x.2 22 [.slice a l.length c] 1 :: M) w' := by
  refine enterR [(0, .slice a l.length c), (1, .int .i64 g)] hw Tryz.func86 Tryz.ntmps86 ?_
  all_goals (refine go ?_; and_intros <;> (try exact trivial) <;> repeat (first | refine fun (Bk : Nat) => ?_ | intro h))
  refine ret1 Tryz.func86 Tryz.results86 ?_
  exact fun w' hw' => ⟨(_, _), rfl, hw'⟩
end Go.Proofs.YteaccaieaigeaaaGreatDoor
/-
  Contracts of rivers: the program's Check.
-/
namespace Go.Proofs.YteaccaieaigeaaaGreatDoor
open Go.RowKit Go.Sl Go.Num
/-- The kernels of a river stand in memory. -/
def KerAt (w : World) (l : List Rch) : Prop := ∀ r ∈ l, SlAt w r.adr 1 (r.ws.map isV)
theorem KerAt.below {w w' : World} {l : List Rch} (h : KerAt w l) (hb : Below w.heap.size w w') : KerAt w' l := fun r hr => (h r hr).below hb
theorem badRs_step {n i : Nat} {l : List Rch} (hi : i < l.length) : badRs n i (l.drop i) = if badR1 n i l[i] ≠ 0 then badR1 n i l[i] else badRs n (i + 1) (l.drop (i + 1)) := by
  rw [List.drop_eq_getElem_cons hi, badRs]
theorem inR_of {l : List Rch} (h : badRs l.length 0 l = 0) : InR l := fun g hg => by
  have := badRs_ok h g hg
  rw [badR1] at this
  split at this
  · cases this
  · omega
theorem least {p : Nat → Prop} : ∀ n, p n → ∃ K, K ≤ n ∧ p K ∧ ∀ k, k < K → ¬ p k := fun n => by
  induction n using Nat.strongRecOn with
  | _ n ih =>
    intro h
    by_cases hc : ∃ m, m < n ∧ p m
    · obtain ⟨m, h1, h2⟩ := hc
      obtain ⟨K, h3, h4, h5⟩ := ih m h1 h2
      exact ⟨K, by omega, h4, h5⟩
    · exact ⟨n, Nat.le_refl _, h, fun k hk h2 => hc ⟨k, hk, h2⟩⟩
/-- How far a check goes down. -/
theorem ways {l : List Rch} (h : InR l) {g : Int} (h0 : 0 ≤ g) (h1 : g < l.length) : ∃ K, (∀ i, i < K → 0 ≤ itr l i g ∧ itr l i g < l.length) ∧ (K ≤ l.length ∧ itr l K g < 0 ∧ itr l l.length g < 0 ∨ K = l.length + 1 ∧ 0 ≤ itr l l.length g) := by
  by_cases hc : itr l l.length g < 0
  · obtain ⟨K, h2, h3, h4⟩ := least (p := fun k => itr l k g < 0) _ hc
    exact ⟨K, fun i hi => ⟨by have := h4 i hi; omega, (h.in_ i h1 (by omega)).2⟩, .inl ⟨h2, h3, hc⟩⟩
  · exact ⟨l.length + 1, fun i hi => ⟨itr_round h h1 (by omega) i, (h.in_ i h1 (by omega)).2⟩, .inr ⟨rfl, by omega⟩⟩
theorem riv_no {l : List Rch} (h1 : l.length ≤ 40) (h2 : badRs l.length 0 l = 0) {g : Nat} (hg : g < l.length) (h : 0 ≤ itr l l.length g) : rivErr l = 4 := by
  rw [rivErr, if_neg (by omega), if_neg (by rw [h2]; decide), if_neg]
  intro hc
  have := of_decide_eq_true (List.all_eq_true.1 hc g (List.mem_range.2 hg))
  omega
theorem riv_yes {l : List Rch} (h1 : l.length ≤ 40) (h2 : badRs l.length 0 l = 0) (h : ∀ g : Nat, g < l.length → itr l l.length g < 0) : rivErr l = 0 := by
  rw [rivErr, if_neg (by omega), if_neg (by rw [h2]; decide), if_pos]
  exact List.all_eq_true.2 fun g hg => decide_eq_true (h g (List.mem_range.1 hg))
theorem vCheckR_holds (a : Option Addr) (l : List Rch) (c : Nat) (w : World) (hA : SlAt w a 2 (l.map rcV)) (hK : KerAt w l) :
    Calls Tryz.prog 49 #[.slice a l.length c] w fun e w' => e = .returned (.int .i64 (rivErr l)) ∧ Below w.heap.size w w' := by
  refine enterA [(0, .slice a l.length c)] Tryz.func49 Tryz.ntmps49 ?_
  by_cases hl : 40 < l.length
  · rw [rivErr, if_pos hl]
    all_goals (refine go ?_; and_intros <;> (try exact trivial) <;> repeat (first | refine fun (Bk : Nat) => ?_ | intro h))
    all_goals refine ret1b Tryz.func49 Tryz.results49 ?_
    all_goals rfl
  all_goals (refine go ?_; and_intros <;> (try exact trivial) <;> repeat (first | refine fun (Bk : Nat) => ?_ | intro h))
  rename_i B1
  revert Bk; intro B2
  refine J.loop (c := _) (0 : Nat) (fun s => l.length - s) (fun s => [(1, .pointer (some ⟨B1, 0, none⟩)), (2, .pointer (some ⟨B2, 0, none⟩)), (10, .slice a l.length c), (11, .int .i64 l.length), (12, .int .i64 s)]) (fun s => [.blk B2 29 [.int .i64 0] 1, .blk B1 22 [.slice a l.length c] 1]) (fun s => s ≤ l.length ∧ badRs l.length 0 l = badRs l.length s (l.drop s)) ?_ sbT sbL ?_
  · exact ⟨Nat.zero_le _, rfl⟩
  intro i ⟨h1, h2⟩ ih
  by_cases hi : i < l.length
  · obtain ⟨ba, oa, rfl, hra⟩ := SlAt.all hA (by omega)
    have hri := hra i hi
    rw [badRs_step hi] at h2
    have hkk := hK _ (List.getElem_mem hi)
    have hk := fun w' (hb : Below w.heap.size w w') => kCheck_holds l[i].adr l[i].ws l[i].cap w' (hkk.below hb)
    have he : badR1 l.length i l[i] ≠ 0 → rivErr l = badR1 l.length i l[i] := fun h => by
      rw [if_pos h] at h2
      rw [rivErr, if_neg hl, if_pos (by rw [h2]; exact h), h2]
    have ih := fun (h : badR1 l.length i l[i] = 0) => ih (i + 1) ⟨hi, by rw [if_neg (fun h3 => h3 h)] at h2; exact h2⟩ (by omega)
    clear hra h2 hkk
    generalize l[i] = r at *
    obtain ⟨dn, ws, adr, cap⟩ := r
    dsimp only [rcV, badR1] at *
    generalize kerErr ws = ke at *
    generalize rivErr l = rv at *
    by_cases h3 : dn < -1 ∨ (l.length : Int) ≤ dn
    · rw [if_pos h3] at he
      obtain rfl := he (by decide)
      clear ih he
      all_goals (refine go ?_; and_intros <;> (try exact trivial) <;> repeat (first | refine fun (Bk : Nat) => ?_ | intro h))
      repeat' ((first | (refine G.cvb hk ?_)) <;> (refine go ?_; and_intros <;> (try exact trivial) <;> repeat (first | refine fun (Bk : Nat) => ?_ | intro h)))
      all_goals refine ret1b Tryz.func49 Tryz.results49 ?_
      all_goals rfl
    rw [if_neg h3] at he ih
    by_cases h4 : dn = i ∨ dn < 0 ∧ 0 < ws.length ∨ 0 ≤ dn ∧ ke ≠ 0
    · rw [if_pos h4] at he
      obtain rfl := he (by decide)
      clear ih he
      all_goals (refine go ?_; and_intros <;> (try exact trivial) <;> repeat (first | refine fun (Bk : Nat) => ?_ | intro h))
      repeat' ((first | (refine G.cvb hk ?_)) <;> (refine go ?_; and_intros <;> (try exact trivial) <;> repeat (first | refine fun (Bk : Nat) => ?_ | intro h)))
      all_goals refine ret1b Tryz.func49 Tryz.results49 ?_
      all_goals rfl
    · rw [if_neg h4] at ih
      have ih := ih rfl
      clear he
      all_goals (refine go ?_; and_intros <;> (try exact trivial) <;> repeat (first | refine fun (Bk : Nat) => ?_ | intro h))
      repeat' ((first | (refine G.cvb hk ?_)) <;> (refine go ?_; and_intros <;> (try exact trivial) <;> repeat (first | refine fun (Bk : Nat) => ?_ | intro h)))
      all_goals exact J.fin ih
  · obtain rfl : i = l.length := by omega
    rw [List.drop_length, badRs] at h2
    clear ih
    have hin := inR_of h2
    all_goals (refine go ?_; and_intros <;> (try exact trivial) <;> repeat (first | refine fun (Bk : Nat) => ?_ | intro h))
    refine J.loopD (c := _) ((0, []) : Nat × List Nat) (fun x => l.length - x.1) (fun x => x.2.map Sl.mark) (fun x => [(1, .pointer (some ⟨B1, 0, none⟩)), (2, .pointer (some ⟨B2, 0, none⟩)), (56, .int .i64 l.length), (57, .int .i64 x.1)]) (fun x => .blk B2 29 [.int .i64 0] 1 :: .blk B1 22 [.slice a l.length c] 1 :: Sl.mk x.2) (fun x => x.1 ≤ l.length ∧ ∀ i : Nat, i < x.1 → itr l l.length i < 0) ?_ rfl (by (repeat' (first | exact trivial | refine ⟨rfl, ?_⟩))) (List.Sublist.refl _) ?_
    · exact ⟨Nat.zero_le _, fun i h => absurd h (Nat.not_lt_zero _)⟩
    intro ⟨g, ds⟩ ⟨h3, h4⟩ ih
    dsimp only at h3 h4 ⊢
    by_cases hg : g < l.length
    · obtain ⟨K, hk1, hk2⟩ := ways hin (g := (g : Int)) (by omega) (by omega)
      have hno := riv_no (by omega) h2 hg
      have ih := fun (h : itr l l.length g < 0) Bd => ih (g + 1, Bd :: ds) ⟨hg, fun i hi => by
        rcases Nat.lt_or_ge i g with h5 | h5
        · exact h4 i h5
        · obtain rfl : i = g := by omega
          exact h⟩ (by dsimp only; omega)
      clear h4
      all_goals (refine goR ?_; and_intros <;> (try exact trivial) <;> repeat (first | refine fun (Bk : Nat) => ?_ | intro h))
      repeat' ((first | (apply G.cR (g := 86) (v := fun x : Nat × Nat => .func (.func 117) #[] #[.pointer (some ⟨x.1, 0, none⟩), .pointer (some ⟨x.2, 0, none⟩)]) (Mn := fun x => [.blk x.1 3 [.int .i64 g] 1, .blk x.2 22 [.slice a l.length c] 1]); rfl; rfl; exact fun w' hw' => down_holds _ _ w' a l c g hw'; rintro ⟨Bg, Bl⟩) | (apply J.regQ; exact Tryz.mixed; decide +kernel) | (apply J.regL'; exact Tryz.mixed; decide +kernel)) <;> (refine goR ?_; and_intros <;> (try exact trivial) <;> repeat (first | refine fun (Bk : Nat) => ?_ | intro h)))
      refine J.rangeH1 (e1 := fun e : Int => .int .i64 e) (es := dnS l g K) (fin := itr l K g < 0) (fun s : Nat × Int => [.blk Bk 3 [.int .i64 s.1] 1, .blk B2 29 [.int .i64 s.2] 1, .blk B1 22 [.slice a l.length c] 1]) (fun i s => s.1 = i ∧ s.2 = 0 ∧ i ≤ l.length) (fun cc s => cc = .ret ∧ s.2 = 4 ∧ K = l.length + 1 ∧ 0 ≤ itr l l.length g) (0, 0) (Sl.mk ds) (down_iter w Bg Bl a l c g K hA (by omega) hk1) (by
        rw [dnS_len]
        rcases hk2 with h | h
        · exact .inl h.2.1
        · exact .inr fun x hx => by omega) rfl rfl rfl (List.Perm.refl _) ⟨rfl, rfl, Nat.zero_le _⟩ ?_ ?_ ?_
      · intro i ⟨n, e⟩ y ⟨i1, i2, i3⟩ he L rr M' hrs hrp
        dsimp only at i1 i2 i3 ⊢
        subst i1 i2
        have hnK : n < K := by
          have := (List.getElem?_eq_some_iff.1 he).1
          rwa [dnS_len] at this
        clear he ih
        by_cases hn : n = l.length
        · have hk3 : K = l.length + 1 ∧ 0 ≤ itr l l.length g := hk2.resolve_left fun h => by omega
          all_goals (refine goR ?_; and_intros <;> (try exact trivial) <;> repeat (first | refine fun (Bk : Nat) => ?_ | intro h))
          repeat' ((first | (refine J.beginR rfl (i := 0) rfl hrs ?_) | (apply J.regQ; exact Tryz.mixed; decide +kernel) | (apply J.regL'; exact Tryz.mixed; decide +kernel)) <;> (refine goR ?_; and_intros <;> (try exact trivial) <;> repeat (first | refine fun (Bk : Nat) => ?_ | intro h)))
          exact J.sel (leaveGret (n + 1, 4) ⟨rfl, rfl, hk3⟩ rfl)
        · skip
          all_goals (refine goR ?_; and_intros <;> (try exact trivial) <;> repeat (first | refine fun (Bk : Nat) => ?_ | intro h))
          repeat' ((first | (refine J.beginR rfl (i := 0) rfl hrs ?_) | (apply J.regQ; exact Tryz.mixed; decide +kernel) | (apply J.regL'; exact Tryz.mixed; decide +kernel)) <;> (refine goR ?_; and_intros <;> (try exact trivial) <;> repeat (first | refine fun (Bk : Nat) => ?_ | intro h)))
          exact J.sel (leaveG hrs hrp (n + 1, 0) ⟨rfl, rfl, by omega⟩ rfl)
      · intro Bd ⟨n, e⟩ ⟨i1, i2, i3⟩
        dsimp only at i1 i2 i3 ⊢
        subst i2
        rw [dnS_len] at i1 i3
        have ih := ih (hk2.resolve_right (fun h => by omega)).2.2 Bd
        all_goals (refine go ?_; and_intros <;> (try exact trivial) <;> repeat (first | refine fun (Bk : Nat) => ?_ | intro h))
        exact J.finS ih
      · intro Bd ⟨n, e⟩ cc ⟨i1, i2, i3, i4⟩
        dsimp only at i1 i2 i3 i4 ⊢
        subst i1 i2
        rw [hno i4]
        all_goals (refine go ?_; and_intros <;> (try exact trivial) <;> repeat (first | refine fun (Bk : Nat) => ?_ | intro h))
        refine J.sel (T := .blk B2 29 [.int .i64 4] 1 :: Sl.mk (Bd :: ds)) ?_
        refine leaveM (v := .int .i64 4) (ds := Bd :: ds) (M0 := [.blk B2 29 [.int .i64 4] 1]) Tryz.func49 rfl rfl rfl rfl (RunsTo.one Tryz.results49 (by (first | (apply ResV.tmp; rfl) | (apply ResV.cell; rfl; (first | (apply LdV.one; (first | exact CellV.row0 (by assumption) rfl | exact CellV.rowS (by assumption) rfl | exact CellV.rowSS (by assumption) rfl | (apply CellV.blk; exact mm; rfl))) | (apply LdV.aggBlk; exact mm; rfl) | (apply LdV.part; exact mm; rfl; rfl) | (apply LdV.aggRow; assumption; rfl) | (apply LdV.partRow; assumption; rfl; rfl)))))) (List.perm_append_comm (l₁ := [_])) fun w' hw' => ?_
        exact ⟨rfl, hw'.below⟩
    · rw [riv_yes (by omega) h2 fun i hi => h4 i (by omega)]
      clear ih
      all_goals (refine go ?_; and_intros <;> (try exact trivial) <;> repeat (first | refine fun (Bk : Nat) => ?_ | intro h))
      refine J.sel (T := .blk B2 29 [.int .i64 0] 1 :: Sl.mk ds) ?_
      refine leaveM (v := .int .i64 0) (ds := ds) (M0 := [.blk B2 29 [.int .i64 0] 1]) Tryz.func49 rfl rfl rfl rfl (RunsTo.one Tryz.results49 (by (first | (apply ResV.tmp; rfl) | (apply ResV.cell; rfl; (first | (apply LdV.one; (first | exact CellV.row0 (by assumption) rfl | exact CellV.rowS (by assumption) rfl | exact CellV.rowSS (by assumption) rfl | (apply CellV.blk; exact mm; rfl))) | (apply LdV.aggBlk; exact mm; rfl) | (apply LdV.part; exact mm; rfl; rfl) | (apply LdV.aggRow; assumption; rfl) | (apply LdV.partRow; assumption; rfl; rfl)))))) (List.perm_append_comm (l₁ := [_])) fun w' hw' => ?_
      exact ⟨rfl, hw'.below⟩
end Go.Proofs.YteaccaieaigeaaaGreatDoor
