/-
  Sequences of numbers, and how great the numbers are.
-/
import Derived.Test.YteaccaieaigeaaaGreatDoorNQ7
set_option linter.unusedVariables false
set_option linter.unusedSimpArgs false
set_option linter.unusedSectionVars false
namespace Go.Proofs.YteaccaieaigeaaaGreatDoor
open Go.RowKit Go.Sl Go.Num
def qF (x : Rat) : List Value := qV (rQ x)
theorem qF_len (x : Rat) : (qF x).length = 3 := rfl
theorem fsq_lt {l : List Rat} {i : Nat} (h : i < l.length) : fsq l i = l[i] := by rw [fsq, List.getD_eq_getElem?_getD, List.getElem?_eq_getElem h]; rfl
theorem fsq_ge {l : List Rat} {i : Nat} (h : l.length ≤ i) : fsq l i = 0 := by rw [fsq, List.getD_eq_getElem?_getD, List.getElem?_eq_none h]; rfl
/-! ### how great the numbers are -/
def Fr (D M : Nat) (x : Rat) : Prop := ∃ N : Int, x * ((D : Int) : Rat) = (N : Rat) ∧ N.natAbs ≤ M
theorem Fr.zero (D M : Nat) : Fr D M 0 := ⟨0, by rw [Rat.zero_mul]; rfl, Nat.zero_le _⟩
theorem Fr.add {D M M' : Nat} {x y : Rat} (h : Fr D M x) (h' : Fr D M' y) : Fr D (M + M') (x + y) := by
  obtain ⟨N, h1, h2⟩ := h
  obtain ⟨N', h3, h4⟩ := h'
  exact ⟨N + N', by rw [Rat.add_mul, h1, h3, Rat.intCast_add], by omega⟩
theorem Fr.few {D M k : Nat} {x : Rat} (h : Fr D M x) (h0 : 0 < D) (hD : D < 256 ^ k) (hM : M < 256 ^ k) : fewQ k (rQ x) := by
  obtain ⟨N, h1, h2⟩ := h
  have hx : x = ofF (decide (N < 0)) N.natAbs D := by
    have hd : ((D : Int) : Rat) ≠ 0 := rat_ne (by omega)
    rw [ofF, sg_self, Rat.mkRat_eq_div, ← h1, Rat.div_def]
    have := Rat.mul_inv_cancel _ hd
    have e : ((D : Nat) : Rat) = ((D : Int) : Rat) := rfl
    rw [e]
    grind
  rw [hx]
  exact fewQ_ofF (by omega) (nB_bound (by omega)) (nB_bound hD)
/-- The flows' common denominator. -/
def denP : List Rat → Nat
  | [] => 1
  | x :: r => x.den * denP r
theorem denP_pos : ∀ F : List Rat, 0 < denP F
  | [] => Nat.one_pos
  | x :: r => Nat.mul_pos x.den_pos (denP_pos r)
theorem denP_lt {k : Nat} : ∀ {F : List Rat}, (∀ x ∈ F, x.den ≤ 256 ^ k) → denP F ≤ 256 ^ (k * F.length)
  | [], _ => by simp [denP]
  | x :: r, h => by
    rw [denP, List.length_cons, Nat.mul_add, Nat.mul_one, Nat.pow_add, Nat.mul_comm]
    exact Nat.mul_le_mul (denP_lt fun y hy => h y (by simp [hy])) (h x (by simp))
theorem num_den (x : Rat) : x * ((x.den : Int) : Rat) = ((x.num : Int) : Rat) := by
  have hd : ((x.den : Int) : Rat) ≠ 0 := rat_ne (by have := x.den_pos; omega)
  have h := Rat.mkRat_self x
  rw [Rat.mkRat_eq_div] at h
  have e : ((x.den : Nat) : Rat) = ((x.den : Int) : Rat) := rfl
  rw [e] at h
  calc x * ((x.den : Int) : Rat) = (((x.num : Int) : Rat) / ((x.den : Int) : Rat)) * ((x.den : Int) : Rat) := by rw [h]
    _ = _ := Rat.div_mul_cancel hd
/-- A new slice of reduced numbers. -/
def RetQ (F : Value → Value) (w : World) (L : List Rat) (e : Ending) (w' : World) : Prop := ∃ a' c', e = .returned (F (.slice a' L.length c')) ∧ SlAt w' a' 3 (L.map qF) ∧ (∀ p, a' = some p → w.heap.size ≤ p.block) ∧ Below w.heap.size w w'
theorem retQ_nil {w w' : World} (F : Value → Value) (hb : Below w.heap.size w w') : RetQ F w [] (.returned (F (.slice none 0 0))) w' := ⟨none, 0, rfl, SlAt.nil, (fun p hp => by cases hp), hb⟩
theorem satQ {w0 w : World} {M : List Row} {B E tot : Nat} {L : List Rat} {n c : Nat} (hw : Sat w0 M w) (hm : Row.blk B E (flat qF L) tot ∈ M) (hn : L.length = n) (F : Value → Value) : RetQ F w0 L (.returned (F (.slice (some ⟨B, 0, none⟩) n c))) w := by
  have h1 := blkSlA (f := qF) (sz := 3) (l := L) hw qF_len hm
  exact ⟨some ⟨B, 0, none⟩, c, by rw [hn], h1.1, (fun p hp => by cases hp; exact h1.2), hw.below⟩
end Go.Proofs.YteaccaieaigeaaaGreatDoor
/-
  Ranges over functions inside a round of another one.
-/
namespace Go.Sl
open Go.RowKit
variable {C : Ctx} {st : List (Nat × Value)} {M : List Row} {k : List Item} {q q' : Md} {all rest : List Oper} {d : Nat} {ty : TypeId} {pos : String} {after : Array Edge} {gd : Option (Nat × Bool)}
theorem enterIn {P : Program} {w : World} {l : Nat} {r : Loop} (h : w.heap[l]? = some (.loop r)) (fn : FuncId) (tmps : Array Value) (ps : Array Tmp) (assign body : Code) :
    (Instr.enterLoop fn tmps ps assign body (some l)).run P w = .ok (w.heap.size, []) (w.alloc (.loop { state := .ready, pending := none, fn, tmps, params := ps, assign, body, defers := r.defers })) := by
  unfold Instr.enterLoop
  simp only [Sem.run_bind, run_getLoop h, run_newObj_alloc, Result.andThen, Sem.run_pure]
theorem Splt.pre (T : List Row) : ∀ K : List Row, Splt T (K ++ T) K
  | [] => .nil
  | _ :: K => .cons (Splt.pre T K)
theorem J.rangeIn {f : FuncId} [hF : Fun C.P f] {cap : Array Value} {g : Operand} {ps : Array Tmp} {assign body : Code} {X : Type} {l0 : Nat} {r0 : Loop} (Mx : X → List Row) (px : X → Option Code) (sx : X → LoopState) (hb : C.b.roundOf = some l0) (hl0 : Row.obj l0 (.loop r0) ∈ M) (hg : evS st g = some (.func (.func f) #[] cap)) (hsx : ∀ x, sx x ≠ .busy)
    (hcall : ∀ tmps L w (r : Loop), r = ⟨.ready, none, C.b.fn, tmps, ps, assign, body, r0.defers⟩ → Fits C.N st { tmps, defers := [] } → Sat C.w0 (.obj L (.loop r) :: M) w →
      Calls C.P f (#[.func (.yield L) #[] #[]] ++ cap) w fun e w' => ∃ v x, e = .returned v ∧ Sat C.w0 (.obj L (.loop { r with state := sx x, pending := px x }) :: Mx x) w')
    (h : ∀ x, J C st (Mx x) (((px x).map Item.code).toList ++ k)) :
    J C st M (.code (.rangeFunc g ps assign body) :: k) := .mk fun a w hf hd hw cs => by
  have he := enterIn (P := C.P) (hw.hold _ hl0) C.b.fn a.tmps ps assign body
  rw [← hb] at he
  have hs1 := hw.newObj (.loop ⟨.ready, none, C.b.fn, a.tmps, ps, assign, body, r0.defers⟩)
  have hev : a.eval g = .func (.func f) #[] cap := hf.eval hg
  have hres : ∀ w1, (resolve a.eval (rangeCall g w.heap.size) 0).run C.P w1 = .ok { target := .fn (.func f) cap, args := #[.func (.yield w.heap.size) #[] #[]] } w1 := by
    intro w1
    have hc : ∀ v : Value, a.eval (.const v) = v := fun _ => rfl
    simp [resolve, rangeCall, hev, Deferred.ofValue, hc]
  have hinv : ∀ w1, (invoke (.fn (.func f) cap) #[.func (.yield w.heap.size) #[] #[]]).run C.P w1 = .ok (.enter f (#[.func (.yield w.heap.size) #[] #[]] ++ cap)) w1 := by
    intro w1
    simp [invoke, hF.h]
  have henter := stepR_rangeFunc (P := C.P) (b := C.b) (a := a) (k := k) (cs := cs) (w := w) he (hres _) (hinv _)
  obtain ⟨e, w3, fr, ⟨v, x, rfl, hs3⟩, hsteps, hfn, hleave⟩ := hcall a.tmps w.heap.size _ _ rfl ⟨hf.size, hf.get⟩ hs1 (C.b.atR { a with defers := [] ++ a.defers } (.inRangeFunc w.heap.size :: k) :: cs)
  have hend := run_endLoop (P := C.P) (hs3.hold _ (.head _)) (hsx x)
  have hs4 := (hs3.putObj (i := 0) rfl (.loop ⟨.exhausted, px x, C.b.fn, a.tmps, ps, assign, body, r0.defers⟩)).forget (M' := Mx x) (List.sublist_cons_self _ _)
  obtain ⟨m, h1, h2⟩ := (h x).go { a with defers := [] ++ a.defers } _ ⟨hf.size, hf.get⟩ hd hs4 cs
  refine ⟨m, .head henter (hsteps.trans (.head ?_ (.head (stepR_endRangeFunc hend) h1))), h2⟩
  rw [← finish_atR_inRangeFunc w.heap.size v]; exact step_leave_returned hleave
/-- The function f with the captures cap calls yield with each of es, until it says false; what it kept in K is lost. -/
def IterE (P : Program) (w0 : World) (K : List Row) (f : FuncId) (cap : Array Value) {E : Type} (enc : E → List Value) (es : List E) : Prop :=
  ∀ {X : Type} (Rs : X → List Row) (Inv : Nat → X → Prop) (Out : X → Prop) (fY : Fn) (cY : Array Value),
    (∀ i x e, Inv i x → es[i]? = some e → ∀ M' w, Sat w0 (Rs x ++ M') w → CallsV P (.func fY #[] cY) (enc e) w fun v w' => ∃ x', Sat w0 (Rs x' ++ M') w' ∧ (v = .bool true ∧ Inv (i + 1) x' ∨ v = .bool false ∧ Out x')) →
    ∀ x0, Inv 0 x0 → ∀ M1 w, Sat w0 (K ++ (Rs x0 ++ M1)) w →
      Calls P f (#[.func fY #[] cY] ++ cap) w fun e w' => e = .returned (.tuple #[]) ∧ ∃ x', Sat w0 (Rs x' ++ M1) w' ∧ (Inv es.length x' ∨ Out x')
/-- The statement inside a round; its own rounds may leave it. -/
theorem J.rangeI1 {f : FuncId} [hF : Fun C.P f] {cap : Array Value} {g : Operand} {p1 : Tmp} {assign body : Code} {E : Type} {e1 : E → Value} {es : List E} {K : List Row} {X : Type} {l0 : Nat} {r0 : Loop} (Rs : X → List Row) (Inv : Nat → X → Prop) (Out : Code → X → Prop) (x0 : X) (M1 : List Row)
    (hIt : IterE C.P C.w0 K f cap (fun e => [e1 e]) es) (hb : C.b.roundOf = some l0) (hl0 : Row.obj l0 (.loop r0) ∈ M) (hg : evS st g = some (.func (.func f) #[] cap)) (hp1 : Nat.blt p1 C.N = true) (hM : M.Perm (K ++ (Rs x0 ++ M1))) (hI : Inv 0 x0)
    (hround : ∀ i x e, Inv i x → es[i]? = some e → ∀ L (r : Loop) M', r.state = .ready → r.pending = none →
      J (rctx C.P L C.b.fn C.N (RoundR C.w0 L r Rs M' (Inv (i + 1)) Out) C.w0) ((p1, e1 e) :: st) (.obj L (.loop r) :: Rs x ++ M') [.code assign, .beginRound, .code body])
    (h1 : ∀ x, Inv es.length x → J C st (Rs x ++ M1) k)
    (h2 : ∀ x c, Out c x → J C st (Rs x ++ M1) (.code c :: k)) :
    J C st M (.code (.rangeFunc g #[p1] assign body) :: k) := by
  refine J.perm hM (J.rangeIn (f := f) (cap := cap) (X := { x : X × Option Code // match x.2 with | none => Inv es.length x.1 | some c => Out c x.1 }) (fun x => Rs x.1.1 ++ M1) (fun x => x.1.2) (fun x => loopSt x.1.2) hb (hM.mem_iff.1 hl0) hg (fun x => by rcases x with ⟨⟨_, _ | _⟩, _⟩ <;> simp [loopSt]) ?_ fun x => ?_)
  · intro tmps L w r hr hfit hw
    have hrs : r.state = .ready := by rw [hr]
    have hrp : r.pending = none := by rw [hr]
    have hperm : ∀ (o : Obj) x, (Row.obj L o :: (K ++ (Rs x ++ M1))).Perm (K ++ ((.obj L o :: Rs x) ++ M1)) := fun o x =>
      perm_cat [[Row.obj L o], K, Rs x, M1] [0, 1, 2, 3] [1, 0, 2, 3] rfl
    have hmain := hIt (X := X × Option Code) (fun x => Row.obj L (.loop (loopAt r x.2)) :: Rs x.1) (fun i x => x.2 = none ∧ Inv i x.1) (fun x => ∃ c, x.2 = some c ∧ Out c x.1) (.yield L) #[] ?_ (x0, none) ⟨rfl, hI⟩ M1 w (hw.perm (hperm _ x0))
    · refine hmain.mono fun e w2 ⟨q1, ⟨x, o⟩, q2, q3⟩ => ?_
      have key : Sat C.w0 (.obj L (.loop { r with state := loopSt o, pending := o }) :: (Rs x ++ M1)) w2 := by
        have h3 := q2
        cases o with
        | none =>
          have hrr : ({ r with state := .ready, pending := none } : Loop) = r := by rw [hr]
          show Sat C.w0 (.obj L (.loop { r with state := .ready, pending := none }) :: _) w2
          rw [hrr]; exact h3
        | some c => exact h3
      rcases q3 with ⟨q4, q5⟩ | ⟨c, q4, q5⟩
      · dsimp only at q4; subst q4
        exact ⟨_, ⟨(x, none), q5⟩, q1, key⟩
      · dsimp only at q4; subst q4
        exact ⟨_, ⟨(x, some c), q5⟩, q1, key⟩
    · rintro i ⟨x, o⟩ e ⟨h3, h4⟩ h5 M' w1 hw1
      dsimp only at h3 h4 hw1; subst h3
      have h6 := hround i x e h4 h5 L r M' hrs hrp
      refine .yield L r rfl (hw1.hold _ (.head _)) (by rw [hr]; rfl) ?_
      have hf6 := hfit.put hp1 (e1 e)
      have e3 : (r.params.zip [e1 e].toArray).foldl (fun tmps (t, a) => tmps.setIfInBounds t a) r.tmps = (({ tmps := tmps, defers := [] } : Act).put (some p1) (e1 e)).tmps := by
        have e0 : ((#[p1] : Array Tmp).zip [e1 e].toArray) = #[(p1, e1 e)] := by simp
        rw [hr]; dsimp only; rw [e0]; simp [Act.put]
      rw [e3, show r.fn = C.b.fn by rw [hr], show r.assign = assign by rw [hr], show r.body = body by rw [hr]]
      have h7 := rounds_of hf6 hw1 h6
      intro c cs
      obtain ⟨v, w', ⟨x', h8⟩, h9⟩ := h7 c cs
      refine ⟨v, w', ?_, h9⟩
      rcases h8 with ⟨g1, g2, g3⟩ | ⟨cc, g1, g2, g3⟩
      · exact ⟨(x', none), g3, .inl ⟨g1, rfl, g2⟩⟩
      · exact ⟨(x', some cc), g3, .inr ⟨g1, cc, rfl, g2⟩⟩
  · rcases x with ⟨⟨x, _ | c⟩, hx⟩
    · exact h1 x hx
    · exact h2 x c hx
/-- The statement, where a round may leave. -/
theorem J.rangeE1 {f : FuncId} [hF : Fun C.P f] {cap : Array Value} {g : Operand} {p1 : Tmp} {assign body : Code} {E : Type} {e1 : E → Value} {es : List E} {K : List Row} {X : Type} (Rs : X → List Row) (Inv : Nat → X → Prop) (Out : Code → X → Prop) (x0 : X) (M1 : List Row)
    (hIt : IterE C.P C.w0 K f cap (fun e => [e1 e]) es) (hb : C.b.roundOf = none) (hg : evS st g = some (.func (.func f) #[] cap)) (hp1 : Nat.blt p1 C.N = true) (hM : M.Perm (K ++ (Rs x0 ++ M1))) (hI : Inv 0 x0)
    (hround : ∀ i x e, Inv i x → es[i]? = some e → ∀ L (r : Loop) M', r.state = .ready → r.pending = none →
      J (rctx C.P L C.b.fn C.N (RoundR C.w0 L r Rs M' (Inv (i + 1)) Out) C.w0) ((p1, e1 e) :: st) (.obj L (.loop r) :: Rs x ++ M') [.code assign, .beginRound, .code body])
    (h1 : ∀ Bd x, Inv es.length x → J { C with D := mark Bd :: C.D } st (.obj Bd (.deferred (some [])) :: (Rs x ++ M1)) k)
    (h2 : ∀ Bd x c, Out c x → J { C with D := mark Bd :: C.D } st (.obj Bd (.deferred (some [])) :: (Rs x ++ M1)) (.code c :: k)) :
    J C st M (.code (.rangeFunc g #[p1] assign body) :: k) := by
  refine J.perm hM (J.range (f := f) (cap := cap) (X := { x : X × Option Code // match x.2 with | none => Inv es.length x.1 | some c => Out c x.1 }) (fun x => Rs x.1.1 ++ M1) (fun x => x.1.2) (fun x => loopSt x.1.2) hb hg (fun x => by rcases x with ⟨⟨_, _ | _⟩, _⟩ <;> simp [loopSt]) ?_ fun Bd x => ?_)
  · intro tmps Bd L w r hr hfit hw
    have hrs : r.state = .ready := by rw [hr]
    have hrp : r.pending = none := by rw [hr]
    have hperm : ∀ (o : Obj) x, (Row.obj L o :: .obj Bd (.deferred (some [])) :: (K ++ (Rs x ++ M1))).Perm (K ++ ((.obj L o :: Rs x) ++ (.obj Bd (.deferred (some [])) :: M1))) := fun o x =>
      perm_cat [[Row.obj L o], [.obj Bd (.deferred (some []))], K, Rs x, M1] [0, 1, 2, 3, 4] [2, 0, 3, 1, 4] rfl
    have hperm2 : ∀ (o : Obj) x, (Row.obj L o :: .obj Bd (.deferred (some [])) :: (Rs x ++ M1)).Perm ((.obj L o :: Rs x) ++ (.obj Bd (.deferred (some [])) :: M1)) := fun o x =>
      perm_cat [[Row.obj L o], [.obj Bd (.deferred (some []))], Rs x, M1] [0, 1, 2, 3] [0, 2, 1, 3] rfl
    have hmain := hIt (X := X × Option Code) (fun x => Row.obj L (.loop (loopAt r x.2)) :: Rs x.1) (fun i x => x.2 = none ∧ Inv i x.1) (fun x => ∃ c, x.2 = some c ∧ Out c x.1) (.yield L) #[] ?_ (x0, none) ⟨rfl, hI⟩ (.obj Bd (.deferred (some [])) :: M1) w (hw.perm (hperm _ x0))
    · refine hmain.mono fun e w2 ⟨q1, ⟨x, o⟩, q2, q3⟩ => ?_
      have key : Sat C.w0 (.obj L (.loop { r with state := loopSt o, pending := o }) :: .obj Bd (.deferred (some [])) :: (Rs x ++ M1)) w2 := by
        have h3 := q2.perm (hperm2 _ x).symm
        cases o with
        | none =>
          have hrr : ({ r with state := .ready, pending := none } : Loop) = r := by rw [hr]
          show Sat C.w0 (.obj L (.loop { r with state := .ready, pending := none }) :: _) w2
          rw [hrr]; exact h3
        | some c => exact h3
      rcases q3 with ⟨q4, q5⟩ | ⟨c, q4, q5⟩
      · dsimp only at q4; subst q4
        exact ⟨_, ⟨(x, none), q5⟩, q1, key⟩
      · dsimp only at q4; subst q4
        exact ⟨_, ⟨(x, some c), q5⟩, q1, key⟩
    · rintro i ⟨x, o⟩ e ⟨h3, h4⟩ h5 M' w1 hw1
      dsimp only at h3 h4 hw1; subst h3
      have h6 := hround i x e h4 h5 L r M' hrs hrp
      refine .yield L r rfl (hw1.hold _ (.head _)) (by rw [hr]; rfl) ?_
      have hf6 := hfit.put hp1 (e1 e)
      have e3 : (r.params.zip [e1 e].toArray).foldl (fun tmps (t, a) => tmps.setIfInBounds t a) r.tmps = (({ tmps := tmps, defers := [] } : Act).put (some p1) (e1 e)).tmps := by
        have e0 : ((#[p1] : Array Tmp).zip [e1 e].toArray) = #[(p1, e1 e)] := by simp
        rw [hr]; dsimp only; rw [e0]; simp [Act.put]
      rw [e3, show r.fn = C.b.fn by rw [hr], show r.assign = assign by rw [hr], show r.body = body by rw [hr]]
      have h7 := rounds_of hf6 hw1 h6
      intro c cs
      obtain ⟨v, w', ⟨x', h8⟩, h9⟩ := h7 c cs
      refine ⟨v, w', ?_, h9⟩
      rcases h8 with ⟨g1, g2, g3⟩ | ⟨cc, g1, g2, g3⟩
      · exact ⟨(x', none), g3, .inl ⟨g1, rfl, g2⟩⟩
      · exact ⟨(x', some cc), g3, .inr ⟨g1, cc, rfl, g2⟩⟩
  · rcases x with ⟨⟨x, _ | c⟩, hx⟩
    · exact h1 Bd x hx
    · exact h2 Bd x c hx
/-- A store of a struct at a place of a block. -/
theorem G.sA {T n : TypeId} {x y : Operand} {vs : List Value} {b j tot : Nat} {e : TypeId} {cs out : List Value} {F : Row → List Row} (hs : wqB all st gd q.res = some q')
    (hx : evS st x = some (.pointer (some ⟨b, j, none⟩))) (hy : evS st y = some (.agg vs.toArray)) (hm : RAt (.blk b e cs tot) M F) [hT : TSize C.P T n] (hn : vs.length = n) (h1 : vs.all (·.oneCell') = true) (hj : j + vs.length ≤ cs.length) (ho : setL cs j vs = out)
    (h : G q' C all st (F (.blk b e out tot)) rest k) :
    G q C all st M ({ dst := none, op := .store T x y, type := ty, pos, after, guard := gd } :: rest) k := by
  obtain ⟨g1, g2⟩ := wqB_ok hs
  obtain ⟨i, h5, h6⟩ := hm.idx
  subst ho
  rw [← h6] at h
  exact G.storeI (vs := vs) g1 g2 hx h5 hy rfl h1 hj hn h
end Go.Sl
/-
  Rows of slices: new ones, the same once more, out of a block.
-/
namespace Go.Sl
open Go.RowKit Go.Proofs.YteaccaieaigeaaaGreatDoor
variable {C : Ctx} {st : List (Nat × Value)} {M : List Row} {k : List Item} {q q' : Md} {all rest : List Oper} {d : Nat} {ty : TypeId} {pos : String} {after : Array Edge} {gd : Option (Nat × Bool)}
theorem Sat.newSl {w0 w w' : World} {a : Option Addr} {sz : Nat} {L : List (List Value)} (hw : Sat w0 M w) (hb : Below w.heap.size w w') (h1 : SlAt w' a sz L) (h2 : ∀ p, a = some p → w.heap.size ≤ p.block) : Sat w0 (slRow w0.heap.size a sz L :: M) w' :=
  (hw.ext hb).addSl h1 fun p hp r hr hl => by
    have h3 := h2 p hp
    have h4 := ((hw.old r hr).2 p.block (Row.lock_sup hl)).2
    omega
theorem Sat.dupSl {w0 w : World} {a : Option Addr} {sz N : Nat} {L : List (List Value)} (hw : Sat w0 M w) (hm : slRow N a sz L ∈ M) : Sat w0 (slRow N a sz L :: M) w := by
  have ho := hw.old _ hm
  refine hw.addFact ho.1 (hw.sl hm) fun b hb => ⟨(ho.2 b hb).1, (ho.2 b hb).2, fun r hr hl => ?_⟩
  exact hw.noLock hm (fun _ h => h) hr hb hl
theorem J.blkSlF {A : Type} {f : A → List Value} {B E tot sz : Nat} {l : List A} {M' : List Row} (hf : ∀ x, (f x).length = sz) (hp : Pick (.blk B E (flat f l) tot) M M') (h : C.w0.heap.size ≤ B → J C st (slRow C.w0.heap.size (some ⟨B, 0, none⟩) sz (l.map f) :: M') k) : J C st M k := .mk fun a w hfit hd hw => by
  have hw2 := hw.perm hp.perm
  have h1 := blkSlA (f := f) (sz := sz) (l := l) hw2 hf (.head _)
  refine (h h1.2).go a w hfit hd ((hw2.forget (List.sublist_cons_self _ _)).addSl h1.1 fun p hp r hr hl => ?_)
  cases hp
  exact ((List.pairwise_cons.1 hw2.apart).1 r hr B).1 rfl (Row.lock_sup hl)
/-- A call that hands back a new slice, or one that stands in a row already. -/
theorem G.cSame {g : FuncId} {args : List Operand} {vs : List Value} {at_ : Array TypeId} {sz : Nat} {N : Nat} {ta : Option Addr} {L0 : List (List Value)} (v : Option Addr → Nat → Value) (L : List (List Value)) (hm : slRow C.w0.heap.size ta sz L0 ∈ M) (hfr : ∀ p, ta = some p → N ≤ p.block) (hN : N ≤ C.w0.heap.size) (ha : evL st args = some vs) (hs : sideB all st gd d C.N q.ext = some q') [hF : Fun C.P g]
    (hc : ∀ w, Sat C.w0 M w → Calls C.P g vs.toArray w fun e w' => ∃ a' c', e = .returned (v a' c') ∧ SlAt w' a' sz L ∧ ((∀ p, a' = some p → w.heap.size ≤ p.block) ∨ a' = ta ∧ L = L0) ∧ Below w.heap.size w w')
    (h : ∀ a' c', (∀ p, a' = some p → N ≤ p.block) → G q' C all ((d, v a' c') :: st) (slRow C.w0.heap.size a' sz L :: M) rest k) :
    G q C all st M ({ dst := some d, op := .call { callee := .value (.func g), args := args.toArray, argTypes := at_ }, type := ty, pos, after, guard := gd } :: rest) k := by
  obtain ⟨g1, g2, g3⟩ := sideB_ok hs
  refine G.call0 (X := { x : Option Addr × Nat // ∀ p, x.1 = some p → N ≤ p.block }) (v := fun x => v x.1.1 x.1.2) (Mn := fun x => [slRow C.w0.heap.size x.1.1 sz L]) g1 g2 g3 ha (fun w hw => (hc w hw).mono fun e w' he => ?_) fun x => h x.1.1 x.1.2 x.2
  obtain ⟨a', c', rfl, h1, h2, h3⟩ := he
  rcases h2 with h2 | ⟨rfl, rfl⟩
  · refine ⟨⟨(a', c'), fun p hp => ?_⟩, rfl, hw.newSl h3 h1 h2⟩
    have := h2 p hp
    have := hw.size
    omega
  · exact ⟨⟨(a', c'), hfr⟩, rfl, (hw.ext h3).dupSl hm⟩
end Go.Sl
/-
  Ranges over functions that hand out a list in whatever order.
-/
namespace Go.Sl
open Go.RowKit
variable {C : Ctx} {st : List (Nat × Value)} {M : List Row} {k : List Item} {q q' : Md} {all rest : List Oper} {d : Nat} {ty : TypeId} {pos : String} {after : Array Edge} {gd : Option (Nat × Bool)}
/-- The function f with the captures cap calls yield once with each of es, in whatever order. -/
def IterP (P : Program) (w0 : World) (K : List Row) (f : FuncId) (cap : Array Value) {E : Type} (enc : E → List Value) (es : List E) : Prop :=
  ∀ {X : Type} (Rs : X → List Row) (Inv : List E → X → Prop) (fY : Fn) (cY : Array Value),
    (∀ R x i (hi : i < R.length), Inv R x → ∀ M' w, Sat w0 (Rs x ++ M') w → CallsV P (.func fY #[] cY) (enc R[i]) w fun v w' => ∃ x', Sat w0 (Rs x' ++ M') w' ∧ v = .bool true ∧ Inv (R.eraseIdx i) x') →
    ∀ x0, Inv es x0 → ∀ M1 w, Sat w0 (K ++ (Rs x0 ++ M1)) w →
      Calls P f (#[.func fY #[] cY] ++ cap) w fun e w' => e = .returned (.tuple #[]) ∧ ∃ x', Sat w0 (Rs x' ++ M1) w' ∧ Inv [] x'
/-- What a round of such a loop leaves behind. -/
def RoundP (w0 : World) (L : Nat) (r : Loop) {X : Type} (Rs : X → List Row) (M' : List Row) (Go : X → Prop) (v : Value) (w' : World) : Prop :=
  ∃ x', v = .bool true ∧ Go x' ∧ Sat w0 (.obj L (.loop r) :: Rs x' ++ M') w'
theorem J.rangeP1 {f : FuncId} [hF : Fun C.P f] {cap : Array Value} {g : Operand} {p1 : Tmp} {assign body : Code} {E : Type} {e1 : E → Value} {es : List E} {K : List Row} {X : Type} (Rs : X → List Row) (Inv : List E → X → Prop) (x0 : X) (M1 : List Row)
    (hIt : IterP C.P C.w0 K f cap (fun e => [e1 e]) es) (hb : C.b.roundOf = none) (hg : evS st g = some (.func (.func f) #[] cap)) (hp1 : Nat.blt p1 C.N = true) (hM : M.Perm (K ++ (Rs x0 ++ M1))) (hI : Inv es x0)
    (hround : ∀ R x i (hi : i < R.length), Inv R x → ∀ L (r : Loop) M', r.state = .ready → r.pending = none →
      J (rctx C.P L C.b.fn C.N (RoundP C.w0 L r Rs M' (Inv (R.eraseIdx i))) C.w0) ((p1, e1 R[i]) :: st) (.obj L (.loop r) :: Rs x ++ M') [.code assign, .beginRound, .code body])
    (h1 : ∀ Bd x, Inv [] x → J { C with D := mark Bd :: C.D } st (.obj Bd (.deferred (some [])) :: (Rs x ++ M1)) k) :
    J C st M (.code (.rangeFunc g #[p1] assign body) :: k) := by
  refine J.perm hM (J.range (f := f) (cap := cap) (X := { x : X // Inv [] x }) (fun x => Rs x.1 ++ M1) (fun _ => none) (fun _ => .ready) hb hg (fun x => by simp) ?_ fun Bd x => h1 Bd x.1 x.2)
  intro tmps Bd L w r hr hfit hw
  have hrs : r.state = .ready := by rw [hr]
  have hrp : r.pending = none := by rw [hr]
  have hperm : ∀ (o : Obj) x, (Row.obj L o :: .obj Bd (.deferred (some [])) :: (K ++ (Rs x ++ M1))).Perm (K ++ ((.obj L o :: Rs x) ++ (.obj Bd (.deferred (some [])) :: M1))) := fun o x =>
    perm_cat [[Row.obj L o], [.obj Bd (.deferred (some []))], K, Rs x, M1] [0, 1, 2, 3, 4] [2, 0, 3, 1, 4] rfl
  have hperm2 : ∀ (o : Obj) x, (Row.obj L o :: .obj Bd (.deferred (some [])) :: (Rs x ++ M1)).Perm ((.obj L o :: Rs x) ++ (.obj Bd (.deferred (some [])) :: M1)) := fun o x =>
    perm_cat [[Row.obj L o], [.obj Bd (.deferred (some []))], Rs x, M1] [0, 1, 2, 3] [0, 2, 1, 3] rfl
  have hmain := hIt (X := X) (fun x => Row.obj L (.loop r) :: Rs x) (fun R x => Inv R x) (.yield L) #[] ?_ x0 hI (.obj Bd (.deferred (some [])) :: M1) w (hw.perm (hperm _ x0))
  · refine hmain.mono fun e w2 ⟨q1, x, q2, q3⟩ => ?_
    have hrr : ({ r with state := .ready, pending := none } : Loop) = r := by rw [hr]
    refine ⟨_, ⟨x, q3⟩, q1, ?_⟩
    show Sat C.w0 (.obj L (.loop { r with state := .ready, pending := none }) :: _) w2
    rw [hrr]; exact q2.perm (hperm2 _ x).symm
  · intro R x i hi h4 M' w1 hw1
    have h6 := hround R x i hi h4 L r M' hrs hrp
    refine .yield L r rfl (hw1.hold _ (.head _)) (by rw [hr]; rfl) ?_
    have hf6 := hfit.put hp1 (e1 R[i])
    have e3 : (r.params.zip [e1 R[i]].toArray).foldl (fun tmps (t, a) => tmps.setIfInBounds t a) r.tmps = (({ tmps := tmps, defers := [] } : Act).put (some p1) (e1 R[i])).tmps := by
      have e0 : ((#[p1] : Array Tmp).zip [e1 R[i]].toArray) = #[(p1, e1 R[i])] := by simp
      rw [hr]; dsimp only; rw [e0]; simp [Act.put]
    rw [e3, show r.fn = C.b.fn by rw [hr], show r.assign = assign by rw [hr], show r.body = body by rw [hr]]
    have h7 := rounds_of hf6 hw1 h6
    intro c cs
    obtain ⟨v, w', ⟨x', h8, h9, h10⟩, h11⟩ := h7 c cs
    exact ⟨v, w', ⟨x', h10, h8, h9⟩, h11⟩
theorem leaveP {P : Program} {l : Nat} {F : FuncId} {N : Nat} {w0 : World} {r : Loop} {X : Type} {Rs : X → List Row} {M' : List Row} {Gt : X → Prop} (h1 : r.state = .ready) (h2 : r.pending = none) (x : X) (hx : Gt x) (hM : M = .obj l (.loop (busy r)) :: Rs x ++ M') : J (rctx P l F N (RoundP w0 l r Rs M' Gt) w0) st M [] := by
  subst hM
  exact leaveR h1 h2 (i := 0) rfl fun w' hw' => ⟨x, rfl, hx, hw'⟩
end Go.Sl
/-
  Families of maps that nobody writes any more.
-/
namespace Go.Sl
open Go.RowKit
variable {C : Ctx} {st : List (Nat × Value)} {M : List Row} {k : List Item} {q q' : Md} {all rest : List Oper} {d : Nat} {opn : Op} {ty : TypeId} {pos : String} {after : Array Edge} {gd : Option (Nat × Bool)}
section
variable {κ : Type} [DecidableEq κ]
def mfAt (kf : κ → Value) (o : List (Nat × List (κ × Value))) (w : World) : Prop := ∀ r ∈ o, ∃ es c, w.heap[r.1]? = some (.map es c) ∧ MapIs kf es c r.2
/-- The maps of a list. -/
def mfRow (kf : κ → Value) (o : List (Nat × List (κ × Value))) : Row :=
  .fact 0 (fun b => ∃ r ∈ o, b = r.1) (mfAt kf o) fun w w' h hw r hr => by
    obtain ⟨es, c, h1, h2⟩ := hw r hr
    exact ⟨es, c, by rw [h r.1 (.inr ⟨r, hr, rfl⟩)]; exact h1, h2⟩
theorem Sat.mf {w0 w : World} {kf : κ → Value} {o : List (Nat × List (κ × Value))} (h : Sat w0 M w) (hm : mfRow kf o ∈ M) : mfAt kf o w := h.hold _ hm
theorem J.mf0 (kf : κ → Value) (h : J C st (mfRow kf [] :: M) k) : J C st M k := .mk fun a w hf hd hw =>
  h.go a w hf hd (hw.addFact (Nat.zero_le _) (fun r hr => by cases hr) fun b hb => by obtain ⟨r, hr, _⟩ := hb; cases hr)
theorem Sat.mfAdd {w0 w : World} {kf : κ → Value} {o : List (Nat × List (κ × Value))} {b : Nat} {es : Array MapEntry} {c : Nat} {L : List (κ × Value)} (hw : Sat w0 (.obj b (.map es c) :: M) w) (hm : mfRow kf o ∈ M) (hI : MapIs kf es c L) : Sat w0 (mfRow kf (o ++ [(b, L)]) :: M) w := by
  have hw2 := hw.forget (List.sublist_cons_self _ M)
  have ho := hw2.old _ hm
  have hb := hw.old _ (List.mem_cons_self ..)
  refine hw2.addFact (Nat.zero_le _) (fun r hr => ?_) fun x hx => ?_
  · rcases List.mem_append.1 hr with h | h
    · exact hw2.mf hm r h
    · rw [List.mem_singleton.1 h]
      exact ⟨es, c, hw.hold _ (List.mem_cons_self ..), hI⟩
  · obtain ⟨r, hr, rfl⟩ := hx
    rcases List.mem_append.1 hr with h | h
    · have h2 : (mfRow kf o).sup r.1 := ⟨r, h, rfl⟩
      exact ⟨(ho.2 _ h2).1, (ho.2 _ h2).2, fun s hs => hw2.noLock hm (fun _ h => h) hs h2⟩
    · rw [List.mem_singleton.1 h]
      have h2 : (Row.obj b (.map es c)).sup b := rfl
      refine ⟨(hb.2 _ h2).1, (hb.2 _ h2).2, fun s hs hl => ?_⟩
      exact ((List.pairwise_cons.1 hw.apart).1 s hs b).1 rfl (Row.lock_sup hl)
theorem J.mfAdd {kf : κ → Value} {o : List (Nat × List (κ × Value))} {b : Nat} {es : Array MapEntry} {c : Nat} {L : List (κ × Value)} {M' : List Row} (hp : Pick (.obj b (.map es c)) M M') (hm : mfRow kf o ∈ M') (hI : MapIs kf es c L) (h : J C st (mfRow kf (o ++ [(b, L)]) :: M') k) : J C st M k :=
  .mk fun a w hf hd hw => h.go a w hf hd ((hw.perm hp.perm).mfAdd hm hI)
end
end Go.Sl
/-
  Plain laws of rights: fair takes are unique, and grow with the water.
-/
namespace Go.Proofs.YteaccaieaigeaaaGreatDoor
/-! ### sums -/
/-- The sum of numbers of a list's elements. -/
def qs {α : Type} (L : List α) (f : α → Rat) : Rat := L.foldr (fun x s => f x + s) 0
theorem qs_nil {α : Type} (f : α → Rat) : qs [] f = 0 := rfl
theorem qs_cons {α : Type} (x : α) (L : List α) (f : α → Rat) : qs (x :: L) f = f x + qs L f := rfl
theorem qs_app {α : Type} (f : α → Rat) : ∀ L M : List α, qs (L ++ M) f = qs L f + qs M f
  | [], M => by rw [List.nil_append, qs_nil, Rat.zero_add]
  | x :: L, M => by rw [List.cons_append, qs_cons, qs_cons, qs_app f L M]; grind
theorem qs_map {α β : Type} (h : α → β) (f : β → Rat) : ∀ L : List α, qs (L.map h) f = qs L fun x => f (h x)
  | [] => rfl
  | x :: L => by rw [List.map_cons, qs_cons, qs_cons, qs_map h f L]
theorem qs_congr {α : Type} {f g : α → Rat} : ∀ {L : List α}, (∀ x ∈ L, f x = g x) → qs L f = qs L g
  | [], _ => rfl
  | x :: L, h => by rw [qs_cons, qs_cons, h x (by simp), qs_congr fun y hy => h y (by simp [hy])]
theorem qs_zero {α : Type} : ∀ (L : List α), qs L (fun _ => 0) = 0
  | [] => rfl
  | x :: L => by rw [qs_cons, qs_zero L, Rat.zero_add]
theorem qs_add {α : Type} (f g : α → Rat) : ∀ L : List α, qs L (fun x => f x + g x) = qs L f + qs L g
  | [] => by rw [qs_nil, qs_nil, qs_nil]; grind
  | x :: L => by rw [qs_cons, qs_cons, qs_cons, qs_add f g L]; grind
theorem qs_sub {α : Type} (f g : α → Rat) : ∀ L : List α, qs L (fun x => f x - g x) = qs L f - qs L g
  | [] => by rw [qs_nil, qs_nil, qs_nil]; grind
  | x :: L => by rw [qs_cons, qs_cons, qs_cons, qs_sub f g L]; grind
theorem qs_mul {α : Type} (c : Rat) (f : α → Rat) : ∀ L : List α, qs L (fun x => c * f x) = c * qs L f
  | [] => by rw [qs_nil, qs_nil]; grind
  | x :: L => by rw [qs_cons, qs_cons, qs_mul c f L]; grind
theorem qs_le {α : Type} {f g : α → Rat} : ∀ {L : List α}, (∀ x ∈ L, f x ≤ g x) → qs L f ≤ qs L g
  | [], _ => by rw [qs_nil, qs_nil]; grind
  | x :: L, h => by
    have h1 := h x (by simp)
    have h2 := qs_le (L := L) fun y hy => h y (by simp [hy])
    rw [qs_cons, qs_cons]; grind
theorem qs_nn {α : Type} {f : α → Rat} {L : List α} (h : ∀ x ∈ L, 0 ≤ f x) : 0 ≤ qs L f := by
  have := qs_le (L := L) (f := fun _ => 0) (g := f) h
  rwa [qs_zero] at this
theorem qs_lt {α : Type} {f g : α → Rat} : ∀ {L : List α}, (∀ x ∈ L, f x ≤ g x) → ∀ k, k ∈ L → f k < g k → qs L f < qs L g
  | x :: L, h, k, hk, hl => by
    have h1 := h x (by simp)
    have h2 := qs_le (L := L) fun y hy => h y (by simp [hy])
    rw [qs_cons, qs_cons]
    rcases List.mem_cons.1 hk with rfl | hk
    · grind
    · have := qs_lt (L := L) (fun y hy => h y (by simp [hy])) k hk hl
      grind
theorem qs_mem {α : Type} {f : α → Rat} {L : List α} (h : ∀ x ∈ L, 0 ≤ f x) {k : α} (hk : k ∈ L) : f k ≤ qs L f := by
  induction L with
  | nil => cases hk
  | cons x L ih =>
    have h1 := h x (by simp)
    have h2 := qs_nn (L := L) (f := f) fun y hy => h y (by simp [hy])
    rw [qs_cons]
    rcases List.mem_cons.1 hk with rfl | hk
    · grind
    · have := ih (fun y hy => h y (by simp [hy])) hk
      grind
theorem qs_perm {α : Type} {f : α → Rat} {L M : List α} (h : L.Perm M) : qs L f = qs M f := by
  induction h with
  | nil => rfl
  | cons x _ ih => rw [qs_cons, qs_cons, ih]
  | swap x y l => rw [qs_cons, qs_cons, qs_cons, qs_cons]; grind
  | trans _ _ h1 h2 => rw [h1, h2]
theorem qs_filter {α : Type} {f : α → Rat} {p : α → Bool} : ∀ {L : List α}, qs (L.filter p) f = qs L fun x => if p x then f x else 0
  | [] => rfl
  | x :: L => by
    rw [List.filter_cons, qs_cons]
    cases hp : p x
    · rw [if_neg (by decide), if_neg (by decide), qs_filter]; grind
    · rw [if_pos rfl, if_pos rfl, qs_cons, qs_filter]
/-! ### ways -/
/-- What lies on the way down from what. -/
structure Wy (on : Nat → Nat → Bool) : Prop where
  tr : ∀ {p g h}, on p g = true → on g h = true → on p h = true
  ch : ∀ {p g h}, on p g = true → on p h = true → on g h = true ∨ on h g = true
/-- Places with numbers: what is above one of some gauges is not more than nothing, if each of these has no more than nothing above it. -/
theorem cover {on : Nat → Nat → Bool} (W : Wy on) (I : List (Nat × Rat)) : ∀ (N : Nat) (H : List Nat), H.length ≤ N → (∀ h ∈ H, (qs I fun z => if on z.1 h then z.2 else 0) ≤ 0) → (qs I fun z => if H.any (on z.1) then z.2 else 0) ≤ 0 := by
  intro N
  induction N with
  | zero =>
    intro H hl _
    obtain rfl := List.length_eq_zero_iff.1 (Nat.le_zero.1 hl)
    simp only [List.any_nil, Bool.false_eq_true, if_false]
    rw [qs_zero]; grind
  | succ N ih =>
    intro H hl hH
    cases H with
    | nil =>
      simp only [List.any_nil, Bool.false_eq_true, if_false]
      rw [qs_zero]; grind
    | cons h H =>
      rw [List.length_cons] at hl
      by_cases hc : ∃ h2 ∈ H, on h h2 = true
      · obtain ⟨h2, m2, o2⟩ := hc
        have h3 := ih H (by omega) fun x hx => hH x (by simp [hx])
        rw [qs_congr (g := fun z => if H.any (on z.1) then z.2 else 0)]
        · exact h3
        intro z _
        have h4 : (h :: H).any (on z.1) = H.any (on z.1) := by
          rw [List.any_cons]
          cases hz : on z.1 h with
          | false => rfl
          | true =>
            rw [Bool.true_or]
            exact (List.any_eq_true.2 ⟨h2, m2, W.tr hz o2⟩).symm
        rw [h4]
      · have h3 := ih (H.filter fun x => !on x h) (Nat.le_trans (List.length_filter_le _ _) (by omega)) fun x hx => hH x (by simp [(List.mem_filter.1 hx).1])
        have h4 := hH h (by simp)
        have h5 : (qs I fun z => if (h :: H).any (on z.1) then z.2 else 0) = (qs I fun z => if on z.1 h then z.2 else 0) + qs I fun z => if (H.filter fun x => !on x h).any (on z.1) then z.2 else 0 := by
          rw [← qs_add]
          refine qs_congr fun z _ => ?_
          rw [List.any_cons]
          cases hz : on z.1 h with
          | true =>
            have h6 : (H.filter fun x => !on x h).any (on z.1) = false := by
              rw [List.any_eq_false]
              intro x hx ho
              obtain ⟨h7, h8⟩ := List.mem_filter.1 hx
              rcases W.ch hz ho with h9 | h9
              · exact hc ⟨x, h7, h9⟩
              · rw [h9] at h8; cases h8
            rw [h6]; simp only [Bool.true_or, if_true, Bool.false_eq_true, if_false]; grind
          | false =>
            have h6 : (H.filter fun x => !on x h).any (on z.1) = H.any (on z.1) := by
              rw [Bool.eq_iff_iff, List.any_eq_true, List.any_eq_true]
              constructor
              · rintro ⟨x, hx, ho⟩
                exact ⟨x, (List.mem_filter.1 hx).1, ho⟩
              · rintro ⟨x, hx, ho⟩
                refine ⟨x, List.mem_filter.2 ⟨hx, ?_⟩, ho⟩
                cases hxh : on x h with
                | false => rfl
                | true => rw [W.tr ho hxh] at hz; cases hz
            rw [h6, Bool.false_or]; simp only [Bool.false_eq_true, if_false]; grind
        rw [h5]; grind
/-! ### fair takes -/
/-- A claim. -/
structure Cm where
  pl : Nat
  rk : Nat
  am : Rat
/-- What claims take at a gauge, and what comes there. -/
def used (on : Nat → Nat → Bool) (zs : List (Cm × Rat)) (g : Nat) : Rat := qs zs fun z => if on z.1.pl g then z.2 else 0
def sup (on : Nat → Nat → Bool) (n : Nat) (gn : Nat → Rat) (g : Nat) : Rat := qs (List.range n) fun p => if on p g then gn p else 0
/-- A gauge bounds a claim. -/
structure Bnd (on : Nat → Nat → Bool) (n : Nat) (gn : Nat → Rat) (zs : List (Cm × Rat)) (z : Cm × Rat) (g : Nat) : Prop where
  lt : g < n
  wy : on z.1.pl g = true
  dry : used on zs g = sup on n gn g
  jun : ∀ y ∈ zs, on y.1.pl g = true → z.1.rk < y.1.rk → y.2 = 0
  sam : ∀ y ∈ zs, on y.1.pl g = true → y.1.rk = z.1.rk → y.2 * z.1.am ≤ z.2 * y.1.am
structure Fair (on : Nat → Nat → Bool) (n : Nat) (gn : Nat → Rat) (zs : List (Cm × Rat)) : Prop where
  nn : ∀ z ∈ zs, 0 ≤ z.2 ∧ z.2 ≤ z.1.am
  ok : ∀ g, g < n → used on zs g ≤ sup on n gn g
  bd : ∀ z ∈ zs, z.2 ≠ z.1.am → ∃ g, Bnd on n gn zs z g
theorem used_perm {on : Nat → Nat → Bool} {zs ws : List (Cm × Rat)} (h : zs.Perm ws) (g : Nat) : used on zs g = used on ws g := qs_perm h
theorem Fair.perm {on : Nat → Nat → Bool} {n : Nat} {gn : Nat → Rat} {zs ws : List (Cm × Rat)} (h : Fair on n gn zs) (hp : zs.Perm ws) : Fair on n gn ws :=
  ⟨fun z hz => h.nn z (hp.mem_iff.2 hz), fun g hg => by rw [← used_perm hp]; exact h.ok g hg, fun z hz he => by
    obtain ⟨g, h1, h2, h3, h4, h5⟩ := h.bd z (hp.mem_iff.2 hz) he
    exact ⟨g, h1, h2, by rw [← used_perm hp]; exact h3, fun y hy => h4 y (hp.mem_iff.2 hy), fun y hy => h5 y (hp.mem_iff.2 hy)⟩⟩
/-- With more water, and fewer claims, no claim gets less. -/
theorem mono {on : Nat → Nat → Bool} (W : Wy on) {n : Nat} {gn gn' : Nat → Rat} (xs : List (Cm × Rat × Rat)) (ex : List (Cm × Rat))
    (h : Fair on n gn (xs.map (fun x => (x.1, x.2.1)) ++ ex)) (h' : Fair on n gn' (xs.map fun x => (x.1, x.2.2))) (hg : ∀ p, p < n → gn p ≤ gn' p) : ∀ x ∈ xs, x.2.1 ≤ x.2.2 := by
  intro k hk
  apply Decidable.byContradiction
  intro hlt
  have hlt : k.2.2 < k.2.1 := by grind
  have hzk := h.nn (k.1, k.2.1) (List.mem_append_left _ (List.mem_map.2 ⟨k, hk, rfl⟩))
  have hzk' := h'.nn (k.1, k.2.2) (List.mem_map.2 ⟨k, hk, rfl⟩)
  dsimp only at hzk hzk'
  obtain ⟨g, b1, b2, b3, b4, b5⟩ := h'.bd (k.1, k.2.2) (List.mem_map.2 ⟨k, hk, rfl⟩) (by dsimp only; grind)
  dsimp only at b2 b4 b5
  have b4 : ∀ y ∈ xs, on y.1.pl g = true → k.1.rk < y.1.rk → y.2.2 = 0 := fun y hy => b4 (y.1, y.2.2) (List.mem_map.2 ⟨y, hy, rfl⟩)
  have b5 : ∀ y ∈ xs, on y.1.pl g = true → y.1.rk = k.1.rk → y.2.2 * k.1.am ≤ k.2.2 * y.1.am := fun y hy => b5 (y.1, y.2.2) (List.mem_map.2 ⟨y, hy, rfl⟩)
  -- the difference at a gauge
  let I : List (Nat × Rat) := (xs.map fun x => (x.1.pl, x.2.2 - x.2.1)) ++ ((ex.map fun x => (x.1.pl, - x.2)) ++ (List.range n).map fun p => (p, gn p - gn' p))
  have hD : ∀ q, (qs I fun z => if on z.1 q then z.2 else 0) = (used on (xs.map fun x => (x.1, x.2.2)) q - sup on n gn' q) + (sup on n gn q - used on (xs.map (fun x => (x.1, x.2.1)) ++ ex) q) := by
    intro q
    have e1 : (qs xs fun x => if on x.1.pl q then x.2.2 - x.2.1 else 0) = (qs xs fun x => if on x.1.pl q then x.2.2 else 0) - qs xs fun x => if on x.1.pl q then x.2.1 else 0 := by
      rw [← qs_sub]; refine qs_congr fun x _ => ?_
      split <;> grind
    have e2 : (qs ex fun x => if on x.1.pl q then - x.2 else 0) = 0 - qs ex fun x => if on x.1.pl q then x.2 else 0 := by
      have e : (qs ex fun x => if on x.1.pl q then - x.2 else 0) = (qs ex fun _ => 0) - qs ex fun x => if on x.1.pl q then x.2 else 0 := by
        rw [← qs_sub]; refine qs_congr fun x _ => ?_
        split <;> grind
      rw [e, qs_zero]
    have e3 : (qs (List.range n) fun p => if on p q then gn p - gn' p else 0) = sup on n gn q - sup on n gn' q := by
      rw [sup, sup, ← qs_sub]; refine qs_congr fun x _ => ?_
      split <;> grind
    show qs (_ ++ (_ ++ _)) _ = _
    rw [qs_app, qs_app, qs_map, qs_map, qs_map, e1, e2, e3, used, used, qs_app, qs_map, qs_map]
    grind
  let H : List Nat := (List.range n).filter fun q => on q g && !on k.1.pl q && decide ((qs I fun z => if on z.1 q then z.2 else 0) ≤ 0)
  have hH : ∀ q, q ∈ H ↔ q < n ∧ on q g = true ∧ on k.1.pl q = false ∧ (qs I fun z => if on z.1 q then z.2 else 0) ≤ 0 := by
    intro q
    show q ∈ List.filter _ _ ↔ _
    rw [List.mem_filter, List.mem_range, Bool.and_eq_true, Bool.and_eq_true, decide_eq_true_eq, Bool.not_eq_true', and_assoc]
  have hc := cover W I H.length H (Nat.le_refl _) fun q hq => ((hH q).1 hq).2.2.2
  -- who gains is covered
  have gain : ∀ x ∈ xs, on x.1.pl g = true → x.2.1 < x.2.2 → H.any (on x.1.pl) = true := by
    intro x hx ho hlx
    have hz := h.nn (x.1, x.2.1) (List.mem_append_left _ (List.mem_map.2 ⟨x, hx, rfl⟩))
    have hz' := h'.nn (x.1, x.2.2) (List.mem_map.2 ⟨x, hx, rfl⟩)
    dsimp only at hz hz'
    obtain ⟨q, c1, c2, c3, c4, c5⟩ := h.bd (x.1, x.2.1) (List.mem_append_left _ (List.mem_map.2 ⟨x, hx, rfl⟩)) (by dsimp only; grind)
    dsimp only at c2 c4 c5
    have hkq : on k.1.pl q = false := by
      cases hkq : on k.1.pl q with
      | false => rfl
      | true =>
        have d4 := c4 (k.1, k.2.1) (List.mem_append_left _ (List.mem_map.2 ⟨k, hk, rfl⟩)) hkq
        have d5 := c5 (k.1, k.2.1) (List.mem_append_left _ (List.mem_map.2 ⟨k, hk, rfl⟩)) hkq
        dsimp only at d4 d5
        have e4 := b4 x hx ho
        have e5 := b5 x hx ho
        rcases Nat.lt_trichotomy x.1.rk k.1.rk with hr | hr | hr
        · have := d4 hr; grind
        · have d5 := d5 hr.symm
          have e5 := e5 hr
          have f1 : 0 < x.1.am := by grind
          have f2 : 0 < k.1.am := by grind
          have g1 := Rat.mul_lt_mul_of_pos_right hlt f1
          have g2 := Rat.mul_lt_mul_of_pos_right hlx f2
          grind
        · have := e4 hr; grind
    refine List.any_eq_true.2 ⟨q, (hH q).2 ⟨c1, ?_, hkq, ?_⟩, c2⟩
    · rcases W.ch ho c2 with h1 | h1
      · rw [W.tr b2 h1] at hkq; cases hkq
      · exact h1
    · rw [hD]
      have := h'.ok q c1
      grind
  have hcov : ∀ p, H.any (on p) = true → on p g = true := by
    intro p hp
    obtain ⟨q, hq, ho⟩ := List.any_eq_true.1 hp
    exact W.tr ho ((hH q).1 hq).2.1
  have hkc : H.any (on k.1.pl) = false := by
    rw [List.any_eq_false]
    intro q hq ho
    rw [((hH q).1 hq).2.2.1] at ho; cases ho
  have hlow : (qs I fun z => if on z.1 g then z.2 else 0) < qs I fun z => if H.any (on z.1) then z.2 else 0 := by
    refine qs_lt (k := (k.1.pl, k.2.2 - k.2.1)) ?_ ?_ ?_
    · intro z hz
      cases hcz : H.any (on z.1) with
      | true => rw [hcov z.1 hcz]; grind
      | false =>
        rw [if_neg (by decide : ¬ (false = true))]
        cases hzg : on z.1 g with
        | false => rw [if_neg (by decide)]; grind
        | true =>
          rw [if_pos rfl]
          rcases List.mem_append.1 hz with h1 | h1
          · obtain ⟨x, hx, rfl⟩ := List.mem_map.1 h1
            dsimp only at hcz hzg ⊢
            have : ¬ x.2.1 < x.2.2 := fun hl => by rw [gain x hx hzg hl] at hcz; cases hcz
            grind
          · rcases List.mem_append.1 h1 with h1 | h1
            · obtain ⟨x, hx, rfl⟩ := List.mem_map.1 h1
              have := h.nn x (List.mem_append_right _ hx)
              dsimp only; grind
            · obtain ⟨p, hp, rfl⟩ := List.mem_map.1 h1
              have := hg p (List.mem_range.1 hp)
              dsimp only; grind
    · exact List.mem_append_left _ (List.mem_map.2 ⟨k, hk, rfl⟩)
    · dsimp only
      rw [hkc, b2, if_pos rfl, if_neg (by decide)]; grind
  have hup := hD g
  have := h.ok g b1
  rw [b3] at hup
  grind
end Go.Proofs.YteaccaieaigeaaaGreatDoor
/-
  Plain laws of rights: the allotting of water is fair.
-/
namespace Go.Proofs.YteaccaieaigeaaaGreatDoor
/-! ### allotting -/
abbrev Zs := List (Cm × Rat × Bool)
def tks (zs : Zs) : List (Cm × Rat) := zs.map fun z => (z.1, z.2.1)
def unitZ (on : Nat → Nat → Bool) (zs : Zs) (g : Nat) : Rat := qs zs fun z => if (on z.1.pl g && z.2.2) = true then z.1.am else 0
def restZ (on : Nat → Nat → Bool) (n : Nat) (gn : Nat → Rat) (zs : Zs) (g : Nat) : Rat := sup on n gn g - used on (tks zs) g
def qmin (a b : Rat) : Rat := if b < a then b else a
theorem qmin_l (a b : Rat) : qmin a b ≤ a := by unfold qmin; grind
theorem qmin_r (a b : Rat) : qmin a b ≤ b := by unfold qmin; grind
theorem qmin_or (a b : Rat) : qmin a b = a ∨ qmin a b = b := by unfold qmin; grind
theorem div_nn {a b : Rat} (ha : 0 ≤ a) (hb : 0 ≤ b) : 0 ≤ a / b := by
  rw [Rat.div_def]
  by_cases h : b = 0
  · rw [h, Rat.inv_zero, Rat.mul_zero]; exact Rat.le_refl
  · have := Rat.inv_pos.2 (show 0 < b by grind)
    exact Rat.mul_nonneg ha (by grind)
def capF (u e : Nat → Rat) (p : Rat) : List Nat → Rat → Rat
  | [], b => b
  | g :: L, b => capF u e p L (if u g = 0 then b else qmin b (p + e g / u g))
theorem capF_le {u e : Nat → Rat} {p : Rat} : ∀ {L : List Nat} {b : Rat}, capF u e p L b ≤ b ∧ ∀ g ∈ L, u g ≠ 0 → capF u e p L b ≤ p + e g / u g
  | [], b => ⟨Rat.le_refl, fun g h => by cases h⟩
  | g :: L, b => by
    rw [capF]
    have ih := capF_le (u := u) (e := e) (p := p) (L := L) (b := if u g = 0 then b else qmin b (p + e g / u g))
    have h1 := qmin_l b (p + e g / u g)
    have h2 := qmin_r b (p + e g / u g)
    refine ⟨?_, fun x hx hu => ?_⟩
    · have := ih.1
      split at this <;> grind
    · rcases List.mem_cons.1 hx with rfl | hx
      · have := ih.1
        rw [if_neg hu] at this ⊢
        grind
      · exact ih.2 x hx hu
theorem capF_or {u e : Nat → Rat} {p : Rat} : ∀ {L : List Nat} {b : Rat}, capF u e p L b = b ∨ ∃ g ∈ L, u g ≠ 0 ∧ capF u e p L b = p + e g / u g
  | [], b => .inl rfl
  | g :: L, b => by
    rw [capF]
    by_cases hu : u g = 0
    · rw [if_pos hu]
      rcases capF_or (u := u) (e := e) (p := p) (L := L) (b := b) with h | ⟨x, h1, h2⟩
      · exact .inl h
      · exact .inr ⟨x, by simp [h1], h2⟩
    · rw [if_neg hu]
      rcases capF_or (u := u) (e := e) (p := p) (L := L) (b := qmin b (p + e g / u g)) with h | ⟨x, h1, h2⟩
      · rcases qmin_or b (p + e g / u g) with h3 | h3
        · exact .inl (by rw [h, h3])
        · exact .inr ⟨g, by simp, hu, by rw [h, h3]⟩
      · exact .inr ⟨x, by simp [h1], h2⟩
/-- How far all open claims can grow. -/
def capZ (on : Nat → Nat → Bool) (n : Nat) (gn : Nat → Rat) (zs : Zs) (p : Rat) : Rat := capF (unitZ on zs) (restZ on n gn zs) p (List.range n) 1
def midZ (zs : Zs) (p : Rat) : Zs := zs.map fun z => (z.1, if z.2.2 = true then z.1.am * p else z.2.1, z.2.2)
def dryZ (on : Nat → Nat → Bool) (n : Nat) (e : Nat → Rat) (pl : Nat) : Bool := (List.range n).any fun g => on pl g && decide (e g = 0)
def stepZ (on : Nat → Nat → Bool) (n : Nat) (gn : Nat → Rat) (zs : Zs) (p : Rat) : Zs := (midZ zs p).map fun z => (z.1, z.2.1, z.2.2 && (decide (p ≠ 1) && !dryZ on n (restZ on n gn (midZ zs p)) z.1.pl))
structure Inv (on : Nat → Nat → Bool) (n : Nat) (gn : Nat → Rat) (r : Nat) (zs : Zs) (p : Rat) : Prop where
  p0 : 0 ≤ p
  p1 : p ≤ 1
  nn : ∀ z ∈ zs, 0 ≤ z.2.1 ∧ z.2.1 ≤ z.1.am
  ok : ∀ g, g < n → used on (tks zs) g ≤ sup on n gn g
  hi : ∀ z ∈ zs, r < z.1.rk → z.2.1 = 0 ∧ z.2.2 = false
  op : ∀ z ∈ zs, z.2.2 = true → z.1.rk = r ∧ z.1.am ≠ 0 ∧ z.2.1 = z.1.am * p
  cl : ∀ z ∈ zs, z.1.rk = r → z.2.1 ≤ z.1.am * p
  bd : ∀ z ∈ zs, z.1.rk ≤ r → z.2.2 = false → z.2.1 ≠ z.1.am → ∃ g, Bnd on n gn (tks zs) (z.1, z.2.1) g
theorem tks_step (on : Nat → Nat → Bool) (n : Nat) (gn : Nat → Rat) (zs : Zs) (p : Rat) : tks (stepZ on n gn zs p) = tks (midZ zs p) := by rw [tks, stepZ, List.map_map, tks]; rfl
theorem unit_nn {on : Nat → Nat → Bool} {zs : Zs} (h : ∀ z ∈ zs, 0 ≤ z.2.1 ∧ z.2.1 ≤ z.1.am) (g : Nat) : 0 ≤ unitZ on zs g := qs_nn fun z hz => by
  have := h z hz
  split <;> grind
theorem used_mid {on : Nat → Nat → Bool} {zs : Zs} {p p' : Rat} (h : ∀ z ∈ zs, z.2.2 = true → z.2.1 = z.1.am * p) (g : Nat) : used on (tks (midZ zs p')) g = used on (tks zs) g + (p' - p) * unitZ on zs g := by
  rw [used, used, unitZ, tks, tks, midZ, qs_map, qs_map, qs_map, ← qs_mul, ← qs_add]
  refine qs_congr fun z hz => ?_
  have h1 := h z hz
  dsimp only
  cases ho : on z.1.pl g <;> cases hp : z.2.2
  · simp; grind
  · simp; grind
  · simp; grind
  · simp only [Bool.and_self, if_true]; have := h1 hp; grind
theorem Inv.unit {on : Nat → Nat → Bool} {n : Nat} {gn : Nat → Rat} {r : Nat} {zs : Zs} {p : Rat} (h : Inv on n gn r zs p) {y : Cm × Rat × Bool} (hy : y ∈ zs) {g : Nat} (ho : on y.1.pl g = true) (hp : y.2.2 = true) : 0 < unitZ on zs g := by
  have h1 := qs_mem (f := fun z : Cm × Rat × Bool => if (on z.1.pl g && z.2.2) = true then z.1.am else 0) (L := zs) (fun z hz => by
    have := h.nn z hz
    split <;> grind) hy
  rw [ho, hp, if_pos (by decide)] at h1
  have h2 := (h.op y hy hp).2.1
  have h3 := h.nn y hy
  unfold unitZ; grind
theorem Inv.cap {on : Nat → Nat → Bool} {n : Nat} {gn : Nat → Rat} {r : Nat} {zs : Zs} {p : Rat} (h : Inv on n gn r zs p) :
    p ≤ capZ on n gn zs p ∧ capZ on n gn zs p ≤ 1 ∧ ∀ g, g < n → (capZ on n gn zs p - p) * unitZ on zs g ≤ restZ on n gn zs g := by
  have h1 := capF_le (u := unitZ on zs) (e := restZ on n gn zs) (p := p) (L := List.range n) (b := 1)
  have hr : ∀ g, g < n → 0 ≤ restZ on n gn zs g := fun g hg => by have := h.ok g hg; unfold restZ; grind
  refine ⟨?_, h1.1, fun g hg => ?_⟩
  · rcases capF_or (u := unitZ on zs) (e := restZ on n gn zs) (p := p) (L := List.range n) (b := 1) with h2 | ⟨g, h2, h3, h4⟩
    · rw [capZ, h2]; exact h.p1
    · rw [capZ, h4]
      have h5 := hr g (List.mem_range.1 h2)
      have h6 := unit_nn (on := on) h.nn g
      have h7 : 0 ≤ restZ on n gn zs g / unitZ on zs g := by exact div_nn h5 h6
      grind
  · by_cases hu : unitZ on zs g = 0
    · rw [hu, Rat.mul_zero]; exact hr g hg
    · have h2 := h1.2 g (List.mem_range.2 hg) hu
      have h6 := unit_nn (on := on) h.nn g
      have h3 : restZ on n gn zs g / unitZ on zs g * unitZ on zs g = restZ on n gn zs g := Rat.div_mul_cancel hu
      have h4 : (capZ on n gn zs p - p) ≤ restZ on n gn zs g / unitZ on zs g := by unfold capZ; grind
      have := Rat.mul_le_mul_of_nonneg_right h4 h6
      grind
theorem Inv.step {on : Nat → Nat → Bool} {n : Nat} {gn : Nat → Rat} {r : Nat} {zs : Zs} {p : Rat} (h : Inv on n gn r zs p) : Inv on n gn r (stepZ on n gn zs (capZ on n gn zs p)) (capZ on n gn zs p) := by
  obtain ⟨c1, c2, c3⟩ := h.cap
  generalize hq : capZ on n gn zs p = q at *
  have hp0 := h.p0
  have hu := fun g => used_mid (on := on) (p' := q) (fun z hz hp => (h.op z hz hp).2.2) g
  have mem : ∀ {z}, z ∈ stepZ on n gn zs q → ∃ y ∈ zs, z = (y.1, if y.2.2 = true then y.1.am * q else y.2.1, y.2.2 && (decide (q ≠ 1) && !dryZ on n (restZ on n gn (midZ zs q)) y.1.pl)) := by
    intro z hz
    obtain ⟨x, hx, rfl⟩ := List.mem_map.1 hz
    obtain ⟨y, hy, rfl⟩ := List.mem_map.1 hx
    exact ⟨y, hy, rfl⟩
  have memT : ∀ {z}, z ∈ tks (stepZ on n gn zs q) → ∃ y ∈ zs, z = (y.1, if y.2.2 = true then y.1.am * q else y.2.1) := by
    intro z hz
    obtain ⟨x, hx, rfl⟩ := List.mem_map.1 hz
    obtain ⟨y, hy, rfl⟩ := mem hx
    exact ⟨y, hy, rfl⟩
  have cl' : ∀ y ∈ zs, y.1.rk = r → (if y.2.2 = true then y.1.am * q else y.2.1) ≤ y.1.am * q := by
    intro y hy hr
    have h1 := h.cl y hy hr
    have h2 := h.nn y hy
    have h3 := Rat.mul_le_mul_of_nonneg_left c1 (c := y.1.am) (by grind)
    split <;> grind
  refine ⟨by grind, c2, fun z hz => ?_, fun g hg => ?_, fun z hz hr => ?_, fun z hz hp => ?_, fun z hz hr => ?_, fun z hz hr hp he => ?_⟩
  · obtain ⟨y, hy, rfl⟩ := mem hz
    have h2 := h.nn y hy
    have h3 := Rat.mul_le_mul_of_nonneg_left c2 (c := y.1.am) (by grind)
    have h4 := Rat.mul_nonneg (a := y.1.am) (b := q) (by grind) (by grind)
    dsimp only
    split <;> grind
  · rw [tks_step, hu]
    have := c3 g hg
    unfold restZ at this; grind
  · obtain ⟨y, hy, rfl⟩ := mem hz
    obtain ⟨h1, h2⟩ := h.hi y hy hr
    dsimp only
    rw [h2]; exact ⟨h1, rfl⟩
  · obtain ⟨y, hy, rfl⟩ := mem hz
    have hp : y.2.2 = true := by dsimp only at hp; rw [Bool.and_eq_true] at hp; exact hp.1
    obtain ⟨h1, h2, h3⟩ := h.op y hy hp
    exact ⟨h1, h2, by dsimp only; rw [hp, if_pos rfl]⟩
  · obtain ⟨y, hy, rfl⟩ := mem hz
    exact cl' y hy hr
  · obtain ⟨y, hy, rfl⟩ := mem hz
    dsimp only at hr hp he ⊢
    cases hyo : y.2.2 with
    | false =>
      rw [hyo, if_neg (by decide)] at he
      obtain ⟨g, b1, b2, b3, b4, b5⟩ := h.bd y hy hr hyo he
      dsimp only at b2 b4 b5
      have same : ∀ x ∈ zs, on x.1.pl g = true → (if x.2.2 = true then x.1.am * q else x.2.1) = x.2.1 := by
        intro x hx ho
        cases hxo : x.2.2 with
        | false => rw [if_neg (by decide)]
        | true =>
          rw [if_pos rfl]
          have h1 := h.unit hx ho hxo
          have h2 := c3 g b1
          have h3 : restZ on n gn zs g = 0 := by unfold restZ; rw [b3]; grind
          rw [h3] at h2
          have h4 : q = p := by
            apply Decidable.byContradiction
            intro hne
            have h5 : 0 < (q - p) * unitZ on zs g := Rat.mul_pos (by grind) h1
            grind
          rw [h4, (h.op x hx hxo).2.2]
      refine ⟨g, b1, b2, ?_, fun x hx => ?_, fun x hx => ?_⟩
      · rw [← b3, tks_step, used, used, tks, tks, midZ, qs_map, qs_map, qs_map]
        refine qs_congr fun x hx => ?_
        dsimp only
        split
        · exact same x hx (by assumption)
        · rfl
      · obtain ⟨x', hx', rfl⟩ := memT hx
        intro h1 h2
        dsimp only at h1 h2 ⊢
        rw [same x' hx' h1]
        exact b4 (x'.1, x'.2.1) (List.mem_map.2 ⟨x', hx', rfl⟩) h1 h2
      · obtain ⟨x', hx', rfl⟩ := memT hx
        intro h1 h2
        dsimp only at h1 h2 ⊢
        rw [same x' hx' h1, if_neg (by decide)]
        exact b5 (x'.1, x'.2.1) (List.mem_map.2 ⟨x', hx', rfl⟩) h1 h2
    | true =>
      rw [hyo, if_pos rfl] at he
      rw [hyo, Bool.true_and, Bool.and_eq_false_iff] at hp
      obtain ⟨hrk, ham, ht⟩ := h.op y hy hyo
      rw [if_pos rfl]
      rcases hp with hp | hp
      · have : q = 1 := by simpa using hp
        rw [this] at he; grind
      · rw [Bool.not_eq_false', dryZ, List.any_eq_true] at hp
        obtain ⟨g, hg, hd⟩ := hp
        rw [Bool.and_eq_true, decide_eq_true_eq] at hd
        refine ⟨g, List.mem_range.1 hg, hd.1, ?_, fun x hx => ?_, fun x hx => ?_⟩
        · rw [tks_step]; have := hd.2; unfold restZ at this; grind
        · obtain ⟨x', hx', rfl⟩ := memT hx
          intro h1 h2
          dsimp only at h1 h2 ⊢
          obtain ⟨h3, h4⟩ := h.hi x' hx' (by omega)
          rw [h4, if_neg (by decide), h3]
        · obtain ⟨x', hx', rfl⟩ := memT hx
          intro h1 h2
          dsimp only at h1 h2 ⊢
          have h3 := cl' x' hx' (by omega)
          have h4 := h.nn y hy
          have := Rat.mul_le_mul_of_nonneg_right h3 (c := y.1.am) (by grind)
          grind
/-! ### rounds end -/
def cntO : Zs → Nat
  | [] => 0
  | z :: r => (if z.2.2 = true then 1 else 0) + cntO r
theorem cntO_le : ∀ zs : Zs, cntO zs ≤ zs.length
  | [] => Nat.le_refl _
  | z :: r => by
    have := cntO_le r
    rw [cntO, List.length_cons]; split <;> omega
theorem cntO_map_le {h : Cm × Rat × Bool → Cm × Rat × Bool} : ∀ {zs : Zs}, (∀ z ∈ zs, (h z).2.2 = true → z.2.2 = true) → cntO (zs.map h) ≤ cntO zs
  | [], _ => Nat.le_refl _
  | z :: r, hh => by
    have h1 := hh z (by simp)
    have h2 := cntO_map_le (zs := r) fun y hy => hh y (by simp [hy])
    rw [List.map_cons, cntO, cntO]
    by_cases h3 : (h z).2.2 = true
    · rw [if_pos h3, if_pos (h1 h3)]; omega
    · rw [if_neg h3]; omega
theorem cntO_map_lt {h : Cm × Rat × Bool → Cm × Rat × Bool} : ∀ {zs : Zs}, (∀ z ∈ zs, (h z).2.2 = true → z.2.2 = true) → ∀ y, y ∈ zs → y.2.2 = true → (h y).2.2 = false → cntO (zs.map h) < cntO zs
  | z :: r, hh, y, hy, h4, h5 => by
    have h1 := hh z (by simp)
    have h2 := cntO_map_le (zs := r) fun y hy => hh y (by simp [hy])
    rw [List.map_cons, cntO, cntO]
    rcases List.mem_cons.1 hy with rfl | hy
    · rw [h5, if_neg (by decide), if_pos h4]; omega
    · have := cntO_map_lt (zs := r) (fun y hy => hh y (by simp [hy])) y hy h4 h5
      by_cases h3 : (h z).2.2 = true
      · rw [if_pos h3, if_pos (h1 h3)]; omega
      · rw [if_neg h3]; omega
theorem cntO_none : ∀ {zs : Zs}, (zs.any fun z => z.2.2) = false ↔ cntO zs = 0
  | [] => by simp [cntO]
  | z :: r => by
    rw [List.any_cons, Bool.or_eq_false_iff, cntO_none, cntO]
    cases z.2.2 <;> simp
theorem Inv.less {on : Nat → Nat → Bool} {n : Nat} {gn : Nat → Rat} {r : Nat} {zs : Zs} {p : Rat} (h : Inv on n gn r zs p) (ho : (zs.any fun z => z.2.2) = true) : cntO (stepZ on n gn zs (capZ on n gn zs p)) < cntO zs := by
  rw [stepZ]
  generalize hmz : restZ on n gn (midZ zs (capZ on n gn zs p)) = em at *
  rw [midZ, List.map_map]
  obtain ⟨z0, hz0, hz1⟩ := List.any_eq_true.1 ho
  have hsub : ∀ z ∈ zs, (((fun z : Cm × Rat × Bool => (z.1, z.2.1, z.2.2 && (decide (capZ on n gn zs p ≠ 1) && !dryZ on n em z.1.pl))) ∘ fun z => (z.1, if z.2.2 = true then z.1.am * capZ on n gn zs p else z.2.1, z.2.2)) z).2.2 = true → z.2.2 = true := by
    intro z hz h1
    dsimp only [Function.comp] at h1
    rw [Bool.and_eq_true] at h1
    exact h1.1
  rcases capF_or (u := unitZ on zs) (e := restZ on n gn zs) (p := p) (L := List.range n) (b := 1) with h2 | ⟨g, h2, h3, h4⟩
  · refine cntO_map_lt hsub z0 hz0 hz1 ?_
    dsimp only [Function.comp]
    rw [show capZ on n gn zs p = 1 from h2]; simp
  · have h4 : capZ on n gn zs p = p + restZ on n gn zs g / unitZ on zs g := h4
    have h5 : ∃ y ∈ zs, on y.1.pl g = true ∧ y.2.2 = true := by
      apply Decidable.byContradiction
      intro hn
      refine h3 ?_
      refine (qs_congr (g := fun _ => 0) fun z hz => if_neg fun hc => hn ⟨z, hz, ?_⟩).trans (qs_zero zs)
      rwa [Bool.and_eq_true] at hc
    obtain ⟨y, hy, hy1, hy2⟩ := h5
    refine cntO_map_lt hsub y hy hy2 ?_
    dsimp only [Function.comp]
    have h6 : dryZ on n em y.1.pl = true := by
      rw [dryZ, List.any_eq_true]
      refine ⟨g, h2, ?_⟩
      rw [hy1, Bool.true_and, decide_eq_true_eq, ← hmz, restZ, used_mid (fun z hz hp => (h.op z hz hp).2.2), h4]
      have h7 : restZ on n gn zs g / unitZ on zs g * unitZ on zs g = restZ on n gn zs g := Rat.div_mul_cancel h3
      unfold restZ at h7 ⊢; grind
    rw [h6]; simp
def lpZ (on : Nat → Nat → Bool) (n : Nat) (gn : Nat → Rat) : Nat → Zs → Rat → Zs
  | 0, zs, _ => zs
  | f + 1, zs, p => if (zs.any fun z => z.2.2) = true then lpZ on n gn f (stepZ on n gn zs (capZ on n gn zs p)) (capZ on n gn zs p) else zs
theorem lpZ_fuel {on : Nat → Nat → Bool} {n : Nat} {gn : Nat → Rat} {r : Nat} : ∀ {f : Nat} {zs : Zs} {p : Rat}, Inv on n gn r zs p → cntO zs ≤ f → lpZ on n gn f zs p = lpZ on n gn (cntO zs) zs p
  | 0, zs, p, h, hf => by rw [Nat.le_zero.1 hf]
  | f + 1, zs, p, h, hf => by
    cases ho : (zs.any fun z => z.2.2) with
    | false => rw [cntO_none.1 ho, lpZ, lpZ, ho, if_neg (by decide)]
    | true =>
      have h1 := h.less ho
      obtain ⟨c, hc⟩ : ∃ c, cntO zs = c + 1 := ⟨cntO zs - 1, by omega⟩
      rw [hc, lpZ, lpZ, ho, if_pos rfl, if_pos rfl, lpZ_fuel h.step (by omega)]
      exact (lpZ_fuel h.step (by omega)).symm
/-- One round. -/
theorem lpZ_step {on : Nat → Nat → Bool} {n : Nat} {gn : Nat → Rat} {r : Nat} {zs : Zs} {p : Rat} (h : Inv on n gn r zs p) (ho : (zs.any fun z => z.2.2) = true) :
    lpZ on n gn (cntO zs) zs p = lpZ on n gn (cntO (stepZ on n gn zs (capZ on n gn zs p))) (stepZ on n gn zs (capZ on n gn zs p)) (capZ on n gn zs p) := by
  have h1 := h.less ho
  obtain ⟨c, hc⟩ : ∃ c, cntO zs = c + 1 := ⟨cntO zs - 1, by omega⟩
  rw [hc, lpZ, ho, if_pos rfl, lpZ_fuel h.step (by omega)]
theorem lpZ_end {on : Nat → Nat → Bool} {n : Nat} {gn : Nat → Rat} {zs : Zs} {p : Rat} (ho : (zs.any fun z => z.2.2) = false) (f : Nat) : lpZ on n gn f zs p = zs := by
  cases f with
  | zero => rfl
  | succ f => rw [lpZ, ho, if_neg (by decide)]
theorem lpZ_inv {on : Nat → Nat → Bool} {n : Nat} {gn : Nat → Rat} {r : Nat} : ∀ {f : Nat} {zs : Zs} {p : Rat}, Inv on n gn r zs p → cntO zs ≤ f → (∃ q, Inv on n gn r (lpZ on n gn f zs p) q) ∧ ((lpZ on n gn f zs p).any fun z => z.2.2) = false
  | 0, zs, p, h, hf => ⟨⟨p, h⟩, cntO_none.2 (Nat.le_zero.1 hf)⟩
  | f + 1, zs, p, h, hf => by
    rw [lpZ]
    cases ho : (zs.any fun z => z.2.2) with
    | false => rw [if_neg (by decide)]; exact ⟨⟨p, h⟩, ho⟩
    | true =>
      rw [if_pos rfl]
      have h1 := h.less ho
      exact lpZ_inv h.step (by omega)
/-! ### ranks -/
def startZ (r : Nat) (ts : List (Cm × Rat)) : Zs := ts.map fun z => (z.1, z.2, decide (z.1.rk = r) && decide (z.1.am ≠ 0))
def rankZ (on : Nat → Nat → Bool) (n : Nat) (gn : Nat → Rat) (r : Nat) (ts : List (Cm × Rat)) : List (Cm × Rat) := tks (lpZ on n gn (cntO (startZ r ts)) (startZ r ts) 0)
structure Done (on : Nat → Nat → Bool) (n : Nat) (gn : Nat → Rat) (r : Nat) (ts : List (Cm × Rat)) : Prop where
  nn : ∀ z ∈ ts, 0 ≤ z.2 ∧ z.2 ≤ z.1.am
  ok : ∀ g, g < n → used on ts g ≤ sup on n gn g
  hi : ∀ z ∈ ts, r ≤ z.1.rk → z.2 = 0
  bd : ∀ z ∈ ts, z.1.rk < r → z.2 ≠ z.1.am → ∃ g, Bnd on n gn ts z g
theorem tks_start (r : Nat) (ts : List (Cm × Rat)) : tks (startZ r ts) = ts := by
  rw [tks, startZ, List.map_map]
  exact (List.map_congr_left (fun z _ => rfl)).trans (List.map_id _)
theorem Done.start {on : Nat → Nat → Bool} {n : Nat} {gn : Nat → Rat} {r : Nat} {ts : List (Cm × Rat)} (h : Done on n gn r ts) : Inv on n gn r (startZ r ts) 0 := by
  have mem : ∀ {z}, z ∈ startZ r ts → ∃ y ∈ ts, z = (y.1, y.2, decide (y.1.rk = r) && decide (y.1.am ≠ 0)) := by
    intro z hz
    obtain ⟨y, hy, rfl⟩ := List.mem_map.1 hz
    exact ⟨y, hy, rfl⟩
  refine ⟨Rat.le_refl, by decide, fun z hz => ?_, fun g hg => ?_, fun z hz hr => ?_, fun z hz hp => ?_, fun z hz hr => ?_, fun z hz hr hp he => ?_⟩
  · obtain ⟨y, hy, rfl⟩ := mem hz
    exact h.nn y hy
  · rw [tks_start]; exact h.ok g hg
  · obtain ⟨y, hy, rfl⟩ := mem hz
    dsimp only at hr ⊢
    refine ⟨h.hi y hy (by omega), ?_⟩
    rw [decide_eq_false (by omega), Bool.false_and]
  · obtain ⟨y, hy, rfl⟩ := mem hz
    dsimp only at hp ⊢
    rw [Bool.and_eq_true, decide_eq_true_eq, decide_eq_true_eq] at hp
    exact ⟨hp.1, hp.2, by rw [h.hi y hy (by omega), Rat.mul_zero]⟩
  · obtain ⟨y, hy, rfl⟩ := mem hz
    dsimp only at hr ⊢
    rw [h.hi y hy (by omega), Rat.mul_zero]; exact Rat.le_refl
  · obtain ⟨y, hy, rfl⟩ := mem hz
    dsimp only at hr hp he ⊢
    rw [tks_start]
    rcases Nat.lt_or_ge y.1.rk r with h1 | h1
    · exact h.bd y hy h1 he
    · have h2 : y.1.rk = r := by omega
      rw [decide_eq_true h2, Bool.true_and, decide_eq_false_iff_not, Decidable.not_not] at hp
      exact absurd (by rw [h.hi y hy h1, hp]) he
theorem Done.rank {on : Nat → Nat → Bool} {n : Nat} {gn : Nat → Rat} {r : Nat} {ts : List (Cm × Rat)} (h : Done on n gn r ts) : Done on n gn (r + 1) (rankZ on n gn r ts) := by
  obtain ⟨⟨q, h1⟩, h2⟩ := lpZ_inv h.start (Nat.le_refl _)
  rw [rankZ]
  generalize lpZ on n gn _ _ 0 = zs at *
  have mem : ∀ {z}, z ∈ tks zs → ∃ b, (z.1, z.2, b) ∈ zs ∧ b = false := by
    intro z hz
    obtain ⟨y, hy, rfl⟩ := List.mem_map.1 hz
    refine ⟨y.2.2, hy, ?_⟩
    cases hb : y.2.2 with
    | false => rfl
    | true => rw [List.any_eq_true.2 ⟨y, hy, hb⟩] at h2; cases h2
  refine ⟨fun z hz => ?_, h1.ok, fun z hz hr => ?_, fun z hz hr he => ?_⟩
  · obtain ⟨b, hb, _⟩ := mem hz
    exact h1.nn _ hb
  · obtain ⟨b, hb, _⟩ := mem hz
    exact (h1.hi _ hb hr).1
  · obtain ⟨b, hb, hf⟩ := mem hz
    exact h1.bd _ hb (by dsimp only; omega) hf he
theorem lpZ_fst (on : Nat → Nat → Bool) (n : Nat) (gn : Nat → Rat) : ∀ (f : Nat) (zs : Zs) (p : Rat), (lpZ on n gn f zs p).map (·.1) = zs.map (·.1)
  | 0, zs, p => rfl
  | f + 1, zs, p => by
    rw [lpZ]
    split
    · rw [lpZ_fst on n gn f, stepZ, midZ, List.map_map, List.map_map]; rfl
    · rfl
theorem rankZ_fst (on : Nat → Nat → Bool) (n : Nat) (gn : Nat → Rat) (r : Nat) (ts : List (Cm × Rat)) : (rankZ on n gn r ts).map (·.1) = ts.map (·.1) := by
  rw [rankZ, tks, List.map_map]
  refine Eq.trans (lpZ_fst on n gn _ _ 0) ?_
  rw [startZ, List.map_map]; rfl
theorem rankZ_none {on : Nat → Nat → Bool} {n : Nat} {gn : Nat → Rat} {r : Nat} {ts : List (Cm × Rat)} (h : ∀ z ∈ ts, z.1.rk ≠ r) : rankZ on n gn r ts = ts := by
  rw [rankZ, lpZ_end, tks_start]
  rw [List.any_eq_false]
  intro z hz
  obtain ⟨y, hy, rfl⟩ := List.mem_map.1 hz
  dsimp only
  rw [decide_eq_false (h y hy)]; simp
end Go.Proofs.YteaccaieaigeaaaGreatDoor
/-
  Plain laws of rights: how great the numbers of allotting are.
-/
namespace Go.Proofs.YteaccaieaigeaaaGreatDoor
/-! ### how great the numbers are -/
def Iq (x : Rat) : Prop := ∃ N : Int, x = (N : Rat)
theorem Iq.add {x y : Rat} (h : Iq x) (h' : Iq y) : Iq (x + y) := by
  obtain ⟨N, rfl⟩ := h
  obtain ⟨M, rfl⟩ := h'
  exact ⟨N + M, (Rat.intCast_add N M).symm⟩
theorem Iq.mul {x y : Rat} (h : Iq x) (h' : Iq y) : Iq (x * y) := by
  obtain ⟨N, rfl⟩ := h
  obtain ⟨M, rfl⟩ := h'
  exact ⟨N * M, (Rat.intCast_mul N M).symm⟩
theorem Iq.int (N : Int) : Iq (N : Rat) := ⟨N, rfl⟩
theorem Iq.zero : Iq 0 := ⟨0, rfl⟩
theorem Iq.neg {x : Rat} (h : Iq x) : Iq (-x) := by
  have := (Iq.int (-1)).mul h
  rw [show -x = ((-1 : Int) : Rat) * x by rw [Rat.intCast_neg]; have : ((1 : Int) : Rat) = 1 := rfl; rw [this]; grind]
  exact this
theorem Iq.sub {x y : Rat} (h : Iq x) (h' : Iq y) : Iq (x - y) := by rw [Rat.sub_eq_add_neg]; exact h.add h'.neg
theorem Iq.qs {α : Type} {f : α → Rat} : ∀ {L : List α}, (∀ x ∈ L, Iq (f x)) → Iq (Go.Proofs.YteaccaieaigeaaaGreatDoor.qs L f)
  | [], _ => Iq.zero
  | x :: L, h => by rw [qs_cons]; exact (h x (by simp)).add (Iq.qs fun y hy => h y (by simp [hy]))
theorem qs_mulr {α : Type} (c : Rat) (f : α → Rat) (L : List α) : qs L f * c = qs L fun x => f x * c := by
  rw [Rat.mul_comm, ← qs_mul]; exact qs_congr fun x _ => Rat.mul_comm _ _
def Sz (D B j : Nat) (zs : Zs) (p : Rat) : Prop := ∃ E : Nat, 0 < E ∧ E ≤ B ^ j ∧ Iq (p * ((E : Int) : Rat)) ∧ ∀ z ∈ zs, Iq (z.2.1 * ((D : Int) : Rat) * ((E : Int) : Rat))
theorem int_nn {N : Int} (h : (0 : Rat) ≤ (N : Rat)) : 0 ≤ N := Rat.intCast_nonneg.1 h
theorem Sz.step {on : Nat → Nat → Bool} {n : Nat} {gn : Nat → Rat} {r : Nat} {zs : Zs} {p : Rat} (h : Inv on n gn r zs p) {D B j : Nat} (hs : Sz D B j zs p) (hB : 0 < B)
    (ha : ∀ z ∈ zs, Iq (z.1.am * ((D : Int) : Rat))) (hg : ∀ g, Iq (gn g * ((D : Int) : Rat))) (hu : ∀ g, unitZ on zs g * ((D : Int) : Rat) ≤ ((B : Int) : Rat)) (hD : 0 < D) :
    Sz D B (j + 1) (stepZ on n gn zs (capZ on n gn zs p)) (capZ on n gn zs p) := by
  obtain ⟨E, e0, e1, e2, e3⟩ := hs
  have hD' : ((D : Int) : Rat) ≠ 0 := fun e => by have := Rat.intCast_inj.1 (show ((D : Int) : Rat) = ((0 : Int) : Rat) from e); omega
  have hE' : ((E : Int) : Rat) ≠ 0 := fun e => by have := Rat.intCast_inj.1 (show ((E : Int) : Rat) = ((0 : Int) : Rat) from e); omega
  -- the new part with its denominator
  have key : ∃ U : Nat, 0 < U ∧ U ≤ B ∧ Iq (capZ on n gn zs p * (((E * U : Nat) : Int) : Rat)) := by
    rcases capF_or (u := unitZ on zs) (e := restZ on n gn zs) (p := p) (L := List.range n) (b := 1) with h2 | ⟨g, h2, h3, h4⟩
    · refine ⟨1, by decide, hB, ?_⟩
      rw [show capZ on n gn zs p = 1 from h2, Rat.one_mul]; exact Iq.int _
    · have h4 : capZ on n gn zs p = p + restZ on n gn zs g / unitZ on zs g := h4
      obtain ⟨U, hU⟩ : Iq (unitZ on zs g * ((D : Int) : Rat)) := by
        rw [unitZ, qs_mulr]
        refine Iq.qs fun z hz => ?_
        split
        · exact ha z hz
        · rw [Rat.zero_mul]; exact Iq.zero
      have hun := unit_nn (on := on) h.nn g
      have hU0 : 0 ≤ U := int_nn (by rw [← hU]; exact Rat.mul_nonneg hun (Rat.intCast_nonneg.2 (by omega)))
      have hUne : U ≠ 0 := by
        rintro rfl
        have : unitZ on zs g * ((D : Int) : Rat) = 0 := hU
        rcases Rat.mul_eq_zero.1 this with h5 | h5
        · exact h3 h5
        · exact hD' h5
      obtain ⟨u, rfl⟩ : ∃ u : Nat, U = u := ⟨U.toNat, by omega⟩
      refine ⟨u, by omega, ?_, ?_⟩
      · have := hu g
        rw [hU] at this
        have := Rat.intCast_le_intCast.1 this
        omega
      · have hr : Iq (restZ on n gn zs g * ((D : Int) : Rat) * ((E : Int) : Rat)) := by
          rw [restZ, show (sup on n gn g - used on (tks zs) g) * ((D : Int) : Rat) * ((E : Int) : Rat) = sup on n gn g * ((D : Int) : Rat) * ((E : Int) : Rat) - used on (tks zs) g * (((D : Int) : Rat) * ((E : Int) : Rat)) by grind]
          refine Iq.sub (Iq.mul ?_ (Iq.int _)) ?_
          · rw [sup, qs_mulr]
            refine Iq.qs fun z _ => ?_
            split
            · exact hg z
            · rw [Rat.zero_mul]; exact Iq.zero
          · rw [used, qs_mulr, tks, qs_map]
            refine Iq.qs fun z hz => ?_
            dsimp only
            split
            · rw [← Rat.mul_assoc]; exact e3 z hz
            · rw [Rat.zero_mul]; exact Iq.zero
        have hx : restZ on n gn zs g / unitZ on zs g * unitZ on zs g = restZ on n gn zs g := Rat.div_mul_cancel h3
        rw [h4, Int.natCast_mul, Rat.intCast_mul, show (p + restZ on n gn zs g / unitZ on zs g) * (((E : Int) : Rat) * (((u : Nat) : Int) : Rat)) = p * ((E : Int) : Rat) * (((u : Nat) : Int) : Rat) + restZ on n gn zs g * ((D : Int) : Rat) * ((E : Int) : Rat) by rw [← hU, ← hx]; grind]
        exact (e2.mul (Iq.int _)).add hr
  obtain ⟨U, u0, u1, u2⟩ := key
  refine ⟨E * U, Nat.mul_pos e0 u0, ?_, u2, fun z hz => ?_⟩
  · rw [Nat.pow_succ]; exact Nat.mul_le_mul e1 u1
  · obtain ⟨x, hx, rfl⟩ := List.mem_map.1 hz
    obtain ⟨y, hy, rfl⟩ := List.mem_map.1 hx
    dsimp only
    split
    · rw [show y.1.am * capZ on n gn zs p * ((D : Int) : Rat) * (((E * U : Nat) : Int) : Rat) = y.1.am * ((D : Int) : Rat) * (capZ on n gn zs p * (((E * U : Nat) : Int) : Rat)) by grind]
      exact (ha y hy).mul u2
    · rw [Int.natCast_mul, Rat.intCast_mul, ← Rat.mul_assoc]
      exact (e3 y hy).mul (Iq.int _)
/-- A number with a denominator and a bound. -/
theorem fr_of {x : Rat} {K V : Nat} (h : Iq (x * ((K : Int) : Rat))) (h0 : 0 ≤ x) (h1 : x ≤ ((V : Int) : Rat)) : ∃ N : Int, x * ((K : Int) : Rat) = (N : Rat) ∧ N.natAbs ≤ V * K := by
  obtain ⟨N, hN⟩ := h
  refine ⟨N, hN, ?_⟩
  have hk : (0 : Rat) ≤ ((K : Int) : Rat) := Rat.intCast_nonneg.2 (by omega)
  have h2 : 0 ≤ N := int_nn (by rw [← hN]; exact Rat.mul_nonneg h0 hk)
  have h3 := Rat.mul_le_mul_of_nonneg_right h1 hk
  rw [hN, ← Rat.intCast_mul] at h3
  have h4 := Rat.intCast_le_intCast.1 h3
  have : ((V * K : Nat) : Int) = (V : Int) * K := Int.natCast_mul V K
  omega
end Go.Proofs.YteaccaieaigeaaaGreatDoor
/-
  Plain laws of rights: ways down a river; nothing is lost.
-/
namespace Go.Proofs.YteaccaieaigeaaaGreatDoor
/-! ### ways down a river -/
/-- A gauge is another one, or below it. -/
def onR (R : List Rch) (p g : Nat) : Bool := (List.range (R.length + 1)).any fun k => decide (itr R k (p : Int) = (g : Int))
theorem itr_stay {R : List Rch} {k j : Nat} {g : Int} (h : itr R k g < 0) (hkj : k ≤ j) : itr R j g < 0 := by
  obtain ⟨d, rfl⟩ : ∃ d, j = k + d := ⟨j - k, by omega⟩
  rw [itr_add]; exact itr_neg h
theorem dnOf_ge {R : List Rch} {g : Nat} (h : R.length ≤ g) : dnOf R (g : Int) = -1 := by
  rw [dnOf, if_neg (by omega), Int.toNat_natCast, List.getElem?_eq_none h]
theorem itr_few {R : List Rch} (h : Riv R) {k p : Nat} (hk : 0 ≤ itr R k (p : Int)) : k ≤ R.length := by
  apply Nat.le_of_not_lt
  intro hlt
  rcases Nat.lt_or_ge p R.length with h1 | h1
  · have := itr_stay (h.fin p h1) (Nat.le_of_lt hlt); omega
  · obtain ⟨j, rfl⟩ : ∃ j, k = j + 1 := ⟨k - 1, by omega⟩
    rw [itr, dnOf_ge h1] at hk
    have := itr_neg (l := R) (k := j) (g := -1) (by decide)
    omega
theorem onR_iff {R : List Rch} (h : Riv R) {p g : Nat} : onR R p g = true ↔ ∃ k, itr R k (p : Int) = (g : Int) := by
  rw [onR, List.any_eq_true]
  constructor
  · rintro ⟨k, _, h2⟩; exact ⟨k, of_decide_eq_true h2⟩
  · rintro ⟨k, h2⟩
    have := itr_few h (p := p) (k := k) (by omega)
    exact ⟨k, List.mem_range.2 (by omega), decide_eq_true h2⟩
/-- A way has no gauge twice. -/
theorem itr_inj {R : List Rch} (h : Riv R) {p : Nat} {i j : Nat} (hij : i < j) (hi : 0 ≤ itr R i (p : Int)) : itr R i (p : Int) ≠ itr R j (p : Int) := by
  intro e
  obtain ⟨d, rfl⟩ : ∃ d, j = i + d := ⟨j - i, by omega⟩
  rw [itr_add] at e
  have h1 : ∀ m : Nat, itr R (m * d) (itr R i (p : Int)) = itr R i (p : Int) := by
    intro m
    induction m with
    | zero => rw [Nat.zero_mul]; rfl
    | succ m ih => rw [Nat.succ_mul, itr_add, ih, ← e]
  have h2 := h1 (R.length + 1)
  rw [← itr_add] at h2
  have h3 := itr_few h (p := p) (k := i + (R.length + 1) * d) (by rw [h2]; exact hi)
  have h4 : (R.length + 1) * 1 ≤ (R.length + 1) * d := Nat.mul_le_mul_left _ (by omega)
  omega
/-- Which of the first K gauges from one on down one is. -/
def onK (R : List Rch) (p : Nat) (K g : Nat) : Bool := (List.range K).any fun k => decide (itr R k (p : Int) = (g : Int))
theorem onK_zero (R : List Rch) (p g : Nat) : onK R p 0 g = false := rfl
theorem onK_succ (R : List Rch) (p K g : Nat) : onK R p (K + 1) g = (onK R p K g || decide (itr R K (p : Int) = (g : Int))) := by
  rw [onK, List.range_succ, List.any_append, onK, List.any_cons, List.any_nil, Bool.or_false]
theorem onK_end {R : List Rch} (h : Riv R) {p K : Nat} (hK : itr R K (p : Int) < 0) (g : Nat) : onK R p K g = onR R p g := by
  rw [Bool.eq_iff_iff, onR_iff h, onK, List.any_eq_true]
  constructor
  · rintro ⟨k, _, h2⟩; exact ⟨k, of_decide_eq_true h2⟩
  · rintro ⟨k, h2⟩
    refine ⟨k, List.mem_range.2 ?_, decide_eq_true h2⟩
    apply Nat.lt_of_not_le
    intro h3
    have := itr_stay hK h3
    omega
theorem onK_new {R : List Rch} (h : Riv R) {p K g : Nat} (hg : itr R K (p : Int) = (g : Int)) : onK R p K g = false := by
  rw [onK, List.any_eq_false]
  intro k hk h2
  have h3 := of_decide_eq_true h2
  exact itr_inj h (p := p) (List.mem_range.1 hk) (by omega) (by rw [h3, hg])
end Go.Proofs.YteaccaieaigeaaaGreatDoor
/-
  Plain laws of rights: what bounds a claim.
-/
namespace Go.Proofs.YteaccaieaigeaaaGreatDoor
/-! ### what bounds a claim -/
def wayN (R : List Rch) (p : Nat) : List Nat := (List.range (dpt R (p : Int))).map fun i => (itr R i (p : Int)).toNat
theorem mem_wayN {R : List Rch} (h : Riv R) {p : Nat} (hp : p < R.length) {g : Nat} : g ∈ wayN R p ↔ onR R p g = true := by
  obtain ⟨d1, d2, d3⟩ := h.dep (g := (p : Int)) (by omega)
  rw [wayN, List.mem_map, onR_iff h]
  constructor
  · rintro ⟨i, hi, rfl⟩
    have := d3 i (List.mem_range.1 hi)
    exact ⟨i, by omega⟩
  · rintro ⟨k, hk⟩
    refine ⟨k, List.mem_range.2 (Nat.lt_of_not_le fun hl => ?_), by omega⟩
    have := itr_stay d1 hl
    omega
theorem onR_lt {R : List Rch} (h : Riv R) {p g : Nat} (hp : p < R.length) (ho : onR R p g = true) : g < R.length := by
  obtain ⟨k, hk⟩ := (onR_iff h).1 ho
  have := (h.in_ k (g := (p : Int)) (by omega) (by omega)).2
  omega
/-- What speaks against a gauge as the bound of a claim. -/
def badB (on : Nat → Nat → Bool) (z : Cm × Rat) (g : Nat) (y : Cm × Rat) : Bool :=
  on y.1.pl g && (decide (y.1.am ≠ 0) && (decide (z.1.rk < y.1.rk ∧ y.2 ≠ 0) || decide (y.1.rk = z.1.rk ∧ z.2 * y.1.am < y.2 * z.1.am)))
def bndB (on : Nat → Nat → Bool) (n : Nat) (gn : Nat → Rat) (zs : List (Cm × Rat)) (z : Cm × Rat) (g : Nat) : Bool := !(zs.any (badB on z g)) && decide (sup on n gn g - used on zs g = 0)
def atZ (R : List Rch) (gn : Nat → Rat) (zs : List (Cm × Rat)) (z : Cm × Rat) : Option Int := if z.2 = z.1.am then some (-1) else Option.map (fun g : Nat => (g : Int)) ((wayN R z.1.pl).find? (bndB (onR R) R.length gn zs z))
def allO : List (Option Int) → Option (List Int)
  | [] => some []
  | none :: _ => none
  | some x :: r => (allO r).map (x :: ·)
def fairZ (R : List Rch) (gn : Nat → Rat) (zs : List (Cm × Rat)) : Option (List Int) := allO (zs.map (atZ R gn zs))
theorem allO_none : ∀ {l : List (Option Int)}, allO l = none ↔ none ∈ l
  | [] => by simp [allO]
  | none :: _ => by simp [allO]
  | some x :: r => by
    rw [allO, Option.map_eq_none_iff, allO_none]; simp
theorem allO_some : ∀ {l : List (Option Int)} {L : List Int}, allO l = some L ↔ l = L.map some
  | [], L => by
    rw [allO]
    cases L <;> simp
  | none :: _, L => by
    rw [allO]
    cases L <;> simp
  | some x :: r, L => by
    rw [allO, Option.map_eq_some_iff]
    constructor
    · rintro ⟨M, h1, rfl⟩
      rw [allO_some.1 h1]; rfl
    · intro h
      cases L with
      | nil => cases h
      | cons y L =>
        rw [List.map_cons, List.cons.injEq, Option.some.injEq] at h
        exact ⟨L, allO_some.2 h.2, by rw [h.1]⟩
/-- Takes are possible. -/
structure Poss (on : Nat → Nat → Bool) (n : Nat) (gn : Nat → Rat) (zs : List (Cm × Rat)) : Prop where
  nn : ∀ z ∈ zs, 0 ≤ z.2 ∧ z.2 ≤ z.1.am
  ok : ∀ g, g < n → used on zs g ≤ sup on n gn g
theorem atZ_neg {R : List Rch} {gn : Nat → Rat} {zs : List (Cm × Rat)} {z : Cm × Rat} : atZ R gn zs z = some (-1) ↔ z.2 = z.1.am := by
  rw [atZ]
  split
  · simp [*]
  · rename_i h
    rw [Option.map_eq_some_iff]
    constructor
    · rintro ⟨x, _, h2⟩; omega
    · intro e; exact absurd e h
end Go.Proofs.YteaccaieaigeaaaGreatDoor
