/-
  Ranges over functions.
-/
import Derived.Test.YtjfbdffcgapdlaaFa
import Derived.RangeFuncRecord

namespace Go.Sl
open Go.RowKit

/-- A round of a loop over a function: its frame comes to its end, and what called yield goes on with v. -/
def Rounds (P : Program) (l : Nat) (f : FuncId) (tmps : Array Value) (assign body : Code) (w : World) (R : Value → World → Prop) : Prop :=
  ∀ (c : Frame) (cs : List Frame), ∃ v w', R v w' ∧ Steps P (lone (Frame.round l f tmps assign body .normal) (c :: cs) w) (lone (c.finish v) cs w')

/-- A call of a function value. -/
inductive CallsV (P : Program) (fv : Value) (args : List Value) (w : World) (R : Value → World → Prop) : Prop where
  | fn (g : FuncId) (cap : Array Value) (hf : fv = .func (.func g) #[] cap) (hF : Fun P g) (h : Calls P g (args.toArray ++ cap) w fun e w' => ∃ v, e = .returned v ∧ R v w')
  | yield (l : Nat) (r : Loop) (hf : fv = .func (.yield l) #[] #[]) (hl : w.heap[l]? = some (.loop r)) (hs : args.toArray.size = r.params.size)
      (h : Rounds P l r.fn ((r.params.zip args.toArray).foldl (fun tmps (t, a) => tmps.setIfInBounds t a) r.tmps) r.assign r.body w R)

theorem CallsV.mono {P : Program} {fv : Value} {args : List Value} {w : World} {R R' : Value → World → Prop} (h : CallsV P fv args w R) (hr : ∀ v w', R v w' → R' v w') : CallsV P fv args w R' := by
  cases h with
  | fn g cap hf hF h => exact .fn g cap hf hF (h.mono fun e w' ⟨v, h1, h2⟩ => ⟨v, h1, hr v w' h2⟩)
  | yield l r hf hl hs h => exact .yield l r hf hl hs fun c cs => let ⟨v, w', h1, h2⟩ := h c cs; ⟨v, w', hr v w' h1, h2⟩

theorem Run.opV {P : Program} {b : Frame} {PHI : List Frame → Machine → Prop} {ops : Array Oper} {i : Nat} {rest : List Nat} {k : List Item} {a : Act} {w : World} {f : Operand} {args : List Operand} {vs : List Value} {fv : Value} {at_ : Array TypeId} {dst : Option Tmp} {ty : TypeId} {pos : String} {after : Array Edge} {gd : Option (Nat × Bool)}
    (ho : ops[i]? = some ⟨dst, .call { callee := .value f, args := args.toArray, argTypes := at_ }, ty, pos, after, gd⟩) (hw : Region.wanted ⟨dst, .call { callee := .value f, args := args.toArray, argTypes := at_ }, ty, pos, after, gd⟩ (yielded ops a.tmps) = true)
    (hf : a.eval f = fv) (ha : args.map a.eval = vs)
    (hc : CallsV P fv vs w fun v w' => Run P b PHI (.inRegion ops rest :: k) (a.put dst v) w') :
    Run P b PHI (.inRegion ops (i :: rest) :: k) a w := by
  cases hc with
  | fn g cap hfv hF h =>
    subst hfv
    refine Run.op ho hw (.inr fun c => by simp) ?_
    haveI := hF
    rw [run_call hf ha]
    refine h.mono fun e w' he => ?_
    obtain ⟨v, rfl, hv⟩ := he
    exact hv
  | yield l r hfv hl hs h =>
    subst hfv
    subst ha
    intro cs
    have hrun : (execOp a.eval ⟨dst, .call { callee := .value f, args := args.toArray, argTypes := at_ }, ty, pos, after, gd⟩).run P w = .ok (.round l r.fn ((r.params.zip (args.map a.eval).toArray).foldl (fun tmps (t, a) => tmps.setIfInBounds t a) r.tmps) r.assign r.body) w := by
      have := run_yield (P := P) hl hs
      simp only [execOp, resolve, hf, Deferred.ofValue, List.map_toArray, Sem.run_bind, Sem.run_pure, Result.andThen_ok, invoke]
      simpa using this
    have hg := stepGR_op (P := P) (b := b) (k := k) (cs := cs) (w := w) (rest := rest) ho hw
    rw [Oper.semAt_eq _ _ _ (fun c => by simp)] at hg
    have hfin : ∀ v, (b.atR a (.inRegion ops (i :: rest) :: k)).finish v = b.atR (a.put dst v) (.inRegion ops rest :: k) := by
      intro v; rw [Frame.finish_atR, ho]; rfl
    obtain ⟨v, w', hR, hsteps⟩ := h (b.atR a (.inRegion ops (i :: rest) :: k)) cs
    obtain ⟨m, h1, h2⟩ := hR cs
    refine ⟨m, .head (step_lone_go ?_) ((hfin v ▸ hsteps).trans h1), h2⟩
    rw [hg]; simp [stepG.apply, hrun]

variable {C : Ctx} {st : List (Nat × Value)} {M : List Row} {k : List Item} {q q' : Md} {all rest : List Oper} {d : Nat} {ty : TypeId} {pos : String} {after : Array Edge} {gd : Option (Nat × Bool)}

/-- A call of a function value that is known by what it does. -/
theorem G.callY {X : Type} {f : Operand} {args : List Operand} {vs : List Value} {fv : Value} {at_ : Array TypeId} (v : X → Value) (Mn : X → List Row) (hg : wnB all st gd = true) (hd : Nat.blt d C.N = true) (hf : evS st f = some fv) (ha : evL st args = some vs)
    (hc : ∀ w, Sat C.w0 M w → CallsV C.P fv vs w fun u w' => ∃ x, u = v x ∧ Sat C.w0 (Mn x) w')
    (h : ∀ x, G .seq C all ((d, v x) :: st) (Mn x) rest k) :
    G .seq C all st M ({ dst := some d, op := .call { callee := .value f, args := args.toArray, argTypes := at_ }, type := ty, pos, after, guard := gd } :: rest) k := by
  refine ⟨fun a w hfit hdf hw idx hi => ?_⟩
  obtain ⟨i, r, rfl, ho, hr⟩ := cons_idx hi
  refine Run.opV ho ((Wn.ofB (N := C.N) hg).go a hfit _ _ _ _ _) (hfit.eval hf) (hfit.evals ha) ((hc w hw).mono fun u w' hu => ?_)
  obtain ⟨x, rfl, hs⟩ := hu
  exact (h x).go _ w' (hfit.put hd _) hdf hs r hr

/-! ### rows in another order; the loop's record -/
theorem Sat.perm {w0 w : World} {M' : List Row} (h : Sat w0 M w) (hp : M.Perm M') : Sat w0 M' w :=
  ⟨h.below, fun r hr => h.hold r (hp.mem_iff.2 hr), fun r hr => h.old r (hp.mem_iff.2 hr), (hp.pairwise_iff fun {_ _} hxy b => ⟨(hxy b).2, (hxy b).1⟩).1 h.apart⟩
theorem J.perm {M' : List Row} (hp : M.Perm M') (h : J C st M' k) : J C st M k := .mk fun a w hf hd hw => h.go a w hf hd (hw.perm hp)

theorem Sat.putObj {w0 w : World} {i b : Nat} {o : Obj} (h : Sat w0 M w) (hi : M[i]? = some (.obj b o)) (o' : Obj) : Sat w0 (M.set i (.obj b o')) (w.putObj b o') := by
  have hmem := List.mem_of_getElem? hi
  have hlt := ((h.old _ hmem).2 b rfl).2
  refine h.change hi rfl rfl rfl (by simp) (fun k _ hk => World.putObj_heap_other fun e => hk e) (World.putObj_heap_same hlt) (Nat.zero_le _) fun b' hb' => ?_
  cases hb'
  exact ⟨.inl rfl, by simpa using hlt⟩
theorem Sat.newObj {w0 w : World} (h : Sat w0 M w) (o : Obj) : Sat w0 (.obj w.heap.size o :: M) (w.alloc o) :=
  h.new ((Below.refl _ _).alloc (Nat.le_refl _) _) (World.alloc_heap_new w o) (Nat.zero_le _) fun b hb => by
    cases hb; exact ⟨Nat.le_refl _, by simp [World.size_alloc]⟩

/-! ### a round's frame -/
def roundPHI (R : Value → World → Prop) (cs : List Frame) (m : Machine) : Prop :=
  match cs with
  | [] => True
  | c :: cs' => ∃ v w', R v w' ∧ m = lone (c.finish v) cs' w'
abbrev rctx (P : Program) (l : Nat) (F : FuncId) (N : Nat) (R : Value → World → Prop) (w0 : World) : Ctx :=
  { P, b := { (default : Frame) with fn := F, kind := .normal, roundOf := some l }, PHI := roundPHI R, N, w0, D := [] }

theorem rounds_of {P : Program} {l : Nat} {F : FuncId} {N : Nat} {R : Value → World → Prop} {w0 w : World} {tmps : Array Value} {assign body : Code} (hf : Fits N st { tmps, defers := [] }) (hw : Sat w0 M w)
    (h : J (rctx P l F N R w0) st M [.code assign, .beginRound, .code body]) : Rounds P l F tmps assign body w R := by
  intro c cs
  obtain ⟨m, h1, h2⟩ := h.go { tmps, defers := [] } w hf rfl hw (c :: cs)
  obtain ⟨v, w', hR, rfl⟩ := h2
  refine ⟨v, w', hR, ?_⟩
  have : Frame.round l F tmps assign body .normal = (rctx P l F N R w0).b.atR { tmps, defers := [] } [.code assign, .beginRound, .code body] := by
    simp [Frame.round, Frame.atR]
  rw [this]; exact h1

theorem J.beginRound {l i : Nat} {r : Loop} (hb : C.b.roundOf = some l) (hi : M[i]? = some (.obj l (.loop r))) (hr : r.state = .ready) (h : J C st (M.set i (.obj l (.loop { r with state := .busy }))) k) : J C st M (.beginRound :: k) := .mk fun a w hf hd hw =>
  (h.go a _ hf hd (hw.putObj hi (.loop { r with state := .busy }))).step fun _ => stepR_beginRound hb (run_beginRound (hw.hold _ (List.mem_of_getElem? hi)) hr)

theorem leaveRound {P : Program} {l i : Nat} {F : FuncId} {N : Nat} {R : Value → World → Prop} {w0 : World} {r : Loop} (hi : M[i]? = some (.obj l (.loop r)))
    (hR : ∀ w', Sat w0 (M.set i (.obj l (.loop { r with state := .ready, pending := none }))) w' → R (.bool true) w') : J (rctx P l F N R w0) st M [] := .mk fun a w hf hd hw cs => by
  cases cs with
  | nil => exact ⟨_, .refl _ _, trivial⟩
  | cons c cs =>
    have h1 := run_endRound (P := P) none (hw.hold _ (List.mem_of_getElem? hi))
    exact ⟨_, .one (stepR_round_end rfl rfl h1), _, _, hR _ (hw.putObj hi _), rfl⟩
theorem leaveRoundRet {P : Program} {l i : Nat} {F : FuncId} {N : Nat} {R : Value → World → Prop} {w0 : World} {r : Loop} (hi : M[i]? = some (.obj l (.loop r)))
    (hR : ∀ w', Sat w0 (M.set i (.obj l (.loop { r with state := .done, pending := some .ret }))) w' → R (.bool false) w') : J (rctx P l F N R w0) st M (.code .ret :: k) := .mk fun a w hf hd hw cs => by
  cases cs with
  | nil => exact ⟨_, .refl _ _, trivial⟩
  | cons c cs =>
    have h1 := run_endRound (P := P) (some .ret) (hw.hold _ (List.mem_of_getElem? hi))
    exact ⟨_, .one (stepR_round_ret rfl rfl h1), _, _, hR _ (hw.putObj hi _), rfl⟩
theorem leaveRoundExit {P : Program} {l i id : Nat} {F : FuncId} {N : Nat} {R : Value → World → Prop} {w0 : World} {r : Loop} (hx : exitTo id k = none) (hi : M[i]? = some (.obj l (.loop r)))
    (hR : ∀ w', Sat w0 (M.set i (.obj l (.loop { r with state := .done, pending := some (.exit id) }))) w' → R (.bool false) w') : J (rctx P l F N R w0) st M (.code (.exit id) :: k) := .mk fun a w hf hd hw cs => by
  cases cs with
  | nil => exact ⟨_, .refl _ _, trivial⟩
  | cons c cs =>
    have h1 := run_endRound (P := P) (some (.exit id)) (hw.hold _ (List.mem_of_getElem? hi))
    exact ⟨_, .one (stepR_round_exit rfl rfl hx h1), _, _, hR _ (hw.putObj hi _), rfl⟩

/-! ### the statement -/
def mark (b : Nat) : Deferred := { target := .collected b, args := #[] }
theorem J.range {f : FuncId} [hF : Fun C.P f] {cap : Array Value} {g : Operand} {ps : Array Tmp} {assign body : Code} {X : Type} (Mx : X → List Row) (px : X → Option Code) (sx : X → LoopState) (hb : C.b.roundOf = none) (hg : evS st g = some (.func (.func f) #[] cap)) (hsx : ∀ x, sx x ≠ .busy)
    (hcall : ∀ tmps Bd L w (r : Loop), r = ⟨.ready, none, C.b.fn, tmps, ps, assign, body, Bd⟩ → Fits C.N st { tmps, defers := [] } → Sat C.w0 (.obj L (.loop r) :: .obj Bd (.deferred (some [])) :: M) w →
      Calls C.P f (#[.func (.yield L) #[] #[]] ++ cap) w fun e w' => ∃ v x, e = .returned v ∧ Sat C.w0 (.obj L (.loop { r with state := sx x, pending := px x }) :: .obj Bd (.deferred (some [])) :: Mx x) w')
    (h : ∀ Bd x, J { C with D := mark Bd :: C.D } st (.obj Bd (.deferred (some [])) :: Mx x) (((px x).map Item.code).toList ++ k)) :
    J C st M (.code (.rangeFunc g ps assign body) :: k) := .mk fun a w hf hd hw cs => by
  have he := run_enterLoop_outer (P := C.P) (w := w) C.b.fn a.tmps ps assign body
  rw [← hb] at he
  have hs1 := (hw.newObj (.deferred (some []))).newObj (.loop ⟨.ready, none, C.b.fn, a.tmps, ps, assign, body, w.heap.size⟩)
  have hsz : (w.alloc (.deferred (some []))).heap.size = w.heap.size + 1 := by simp [World.size_alloc]
  rw [hsz] at hs1
  have hev : a.eval g = .func (.func f) #[] cap := hf.eval hg
  have hres : ∀ w1, (resolve a.eval (rangeCall g (w.heap.size + 1)) 0).run C.P w1 = .ok { target := .fn (.func f) cap, args := #[.func (.yield (w.heap.size + 1)) #[] #[]] } w1 := by
    intro w1
    have hc : ∀ v : Value, a.eval (.const v) = v := fun _ => rfl
    simp [resolve, rangeCall, hev, Deferred.ofValue, hc]
  have hinv : ∀ w1, (invoke (.fn (.func f) cap) #[.func (.yield (w.heap.size + 1)) #[] #[]]).run C.P w1 = .ok (.enter f (#[.func (.yield (w.heap.size + 1)) #[] #[]] ++ cap)) w1 := by
    intro w1
    simp [invoke, hF.h]
  have henter := stepR_rangeFunc (P := C.P) (b := C.b) (a := a) (k := k) (cs := cs) (w := w) he (hres _) (hinv _)
  obtain ⟨e, w3, fr, ⟨v, x, rfl, hs3⟩, hsteps, hfn, hleave⟩ := hcall a.tmps w.heap.size (w.heap.size + 1) _ _ rfl ⟨hf.size, hf.get⟩ hs1 (C.b.atR { a with defers := [mark w.heap.size] ++ a.defers } (.inRangeFunc (w.heap.size + 1) :: k) :: cs)
  have hend := run_endLoop (P := C.P) (hs3.hold _ (.head _)) (hsx x)
  have hs4 := (hs3.putObj (i := 0) rfl (.loop ⟨.exhausted, px x, C.b.fn, a.tmps, ps, assign, body, w.heap.size⟩)).forget (M' := .obj w.heap.size (.deferred (some [])) :: Mx x) (List.sublist_cons_self _ _)
  obtain ⟨m, h1, h2⟩ := (h w.heap.size x).go { a with defers := [mark w.heap.size] ++ a.defers } _ ⟨hf.size, hf.get⟩ (by rw [← hd]; rfl) hs4 cs
  refine ⟨m, .head henter (hsteps.trans (.head ?_ (.head (stepR_endRangeFunc hend) h1))), h2⟩
  rw [← finish_atR_inRangeFunc (w.heap.size + 1) v]; exact step_leave_returned hleave

/-- A loop in which the frame's marks grow. -/
theorem J.loopD {X : Type} {c : Code} (x0 : X) (mu : X → Nat) (Ds : X → List Deferred) (sts : X → List (Nat × Value)) (Ms : X → List Row) (I : X → Prop)
    (h0 : I x0) (hD : C.D = Ds x0) (hst : Sub st (sts x0)) (hM : (Ms x0).Sublist M)
    (body : ∀ x, I x → (∀ x', I x' → mu x' < mu x → J { C with D := Ds x' } (sts x') (Ms x') (.inLoop c :: k)) → J { C with D := Ds x } (sts x) (Ms x) (.code c :: .inLoop c :: k)) :
    J C st M (.code (.loop c) :: k) := by
  have key : ∀ n x, mu x = n → I x → J { C with D := Ds x } (sts x) (Ms x) (.code c :: .inLoop c :: k) := by
    intro n
    induction n using Nat.strongRecOn with
    | _ n ih =>
      intro x hx hI
      refine body x hI fun x' hI' hlt => ?_
      have := ih (mu x') (by omega) x' rfl hI'
      exact .mk fun a w hf hd hw => (this.go a w hf hd hw).step fun _ => stepR_inLoop
  exact .mk fun a w hf hd hw => ((key _ x0 rfl h0).go a w (hf.sub hst) (hd.trans hD) (hw.forget hM)).step fun _ => stepR_loop

/-! ### a function leaves with marks -/
def mk (ds : List Nat) : List Row := ds.map fun b => .obj b (.deferred (some []))
theorem popMarks {P : Program} {w0 : World} {M0 : List Row} : ∀ (ds : List Nat) (w : World) (fr : Frame) (cs : List Frame), fr.mode = .returning → fr.defers = ds.map mark → Sat w0 (mk ds ++ M0) w →
    ∃ w', Steps P (lone fr cs w) (lone { fr with defers := [] } cs w') ∧ Sat w0 M0 w'
  | [], w, fr, cs, hm, hd, hw => ⟨w, by
      have : ({ fr with defers := [] } : Frame) = fr := by cases fr; simp at hd; simp [hd]
      rw [this]; exact .refl _ _, hw⟩
  | b :: ds, w, fr, cs, hm, hd, hw => by
    have h1 := run_takeDeferred (P := P) (hw.hold (.obj b (.deferred (some []))) (.head _))
    have hs := (hw.putObj (i := 0) rfl (.deferred none)).forget (M' := mk ds ++ M0) (List.sublist_cons_self _ _)
    have hstep := step_collected (cs := cs) (fr := fr) (by rw [hm]; simp) hd rfl h1
    obtain ⟨w', h2, h3⟩ := popMarks ds _ { fr with defers := [] ++ ds.map mark } cs hm rfl hs
    exact ⟨w', .head hstep h2, h3⟩

theorem leaveM {P : Program} {N : Nat} {w0 : World} {D : List Deferred} {b : Frame} {F : FuncId} {R : Ending → World → Prop} {fn : Func} {v : Value} {ds : List Nat} {M0 : List Row} (hf : P.funcs[F]? = some fn) (hfn : b.fn = F) (hkd : b.kind = .normal) (hro : b.roundOf = none) (hD : D = ds.map mark)
    (hr : RunsTo ⟨P, b, retPHI P F R, N, w0, D⟩ st M0 fn v) (hp : M.Perm (mk ds ++ M0)) (hR : ∀ w, Sat w0 M0 w → R (.returned v) w) :
    J ⟨P, b, retPHI P F R, N, w0, D⟩ st M (.code .ret :: k) := by
  refine .mk fun a w hfit hd hw cs => ?_
  obtain ⟨w', h2, h3⟩ := popMarks (P := P) ds w { b.atR a (.code .ret :: k) with mode := .returning } cs rfl (hd.trans hD) (hw.perm hp)
  exact ⟨_, .head (stepR_ret hro) h2, v, w', _, hR w' h3, rfl, hfn, rfl, rfl, hkd, fn, hfn ▸ hf, hr.go a w' hfit h3⟩
theorem leaveEndM {P : Program} {N : Nat} {w0 : World} {D : List Deferred} {b : Frame} {F : FuncId} {R : Ending → World → Prop} {fn : Func} {v : Value} {ds : List Nat} {M0 : List Row} (hf : P.funcs[F]? = some fn) (hfn : b.fn = F) (hkd : b.kind = .normal) (hro : b.roundOf = none) (hD : D = ds.map mark)
    (hr : RunsTo ⟨P, b, retPHI P F R, N, w0, D⟩ st M0 fn v) (hp : M.Perm (mk ds ++ M0)) (hR : ∀ w, Sat w0 M0 w → R (.returned v) w) :
    J ⟨P, b, retPHI P F R, N, w0, D⟩ st M [] := by
  refine .mk fun a w hfit hd hw cs => ?_
  obtain ⟨w', h2, h3⟩ := popMarks (P := P) ds w { b.atR a [] with mode := .returning } cs rfl (hd.trans hD) (hw.perm hp)
  exact ⟨_, .head (stepR_end hro) h2, v, w', _, hR w' h3, rfl, hfn, rfl, rfl, hkd, fn, hfn ▸ hf, hr.go a w' hfit h3⟩

/-! ### closures -/
theorem G.makeFunc {f : Fn} {caps : List Operand} {vs : List Value} (ha : evL st caps = some vs) (hg : wnB all st gd = true) (hd : Nat.blt d C.N = true) (hq : q.calm = some q') (h : G q' C all ((d, .func f #[] vs.toArray) :: st) M rest k) :
    G q C all st M ({ dst := some d, op := .makeFunc f #[] caps.toArray, type := ty, pos, after, guard := gd } :: rest) k :=
  G.op (OpV.of fun a w hf _ dst pos after guard => by
    have := hf.evals ha
    simp [execOp, this, Instr.makeFunc]) hg rfl hd hq h
end Go.Sl
