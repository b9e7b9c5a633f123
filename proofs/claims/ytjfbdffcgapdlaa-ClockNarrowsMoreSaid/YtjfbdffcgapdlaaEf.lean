/-
  Effects, entry and exit, for the small logic of memory.
-/
import Derived.Test.YtjfbdffcgapdlaaOp
namespace Go.Sl
open Go.RowKit

variable {C : Ctx} {st : List (Nat × Value)} {M : List Row} {k : List Item} {q q' : Md} {all rest : List Oper} {d : Nat} {ty : TypeId} {pos : String} {after : Array Edge} {gd : Option (Nat × Bool)}

theorem Eff.val {o : Op} {Post : List (Nat × Value) → List Row → Prop} (hd : Nat.blt d C.N = true)
    (hx : ∀ a w, Fits C.N st a → Sat C.w0 M w → ∃ v w' M', (execOp a.eval ⟨some d, o, ty, pos, after, gd⟩).run C.P w = .ok (.value v) w' ∧ Sat C.w0 M' w' ∧ Post ((d, v) :: st) M') : Eff C st M ⟨some d, o, ty, pos, after, gd⟩ Post := by
  intro a w hf hw K hK
  obtain ⟨v, w', M', h1, h2, h3⟩ := hx a w hf hw
  rw [h1]
  exact hK _ _ _ _ h3 (hf.put hd v) rfl h2
theorem Eff.unit {o : Op} {Post : List (Nat × Value) → List Row → Prop}
    (hx : ∀ a w, Fits C.N st a → Sat C.w0 M w → ∃ w' M', (execOp a.eval ⟨none, o, ty, pos, after, gd⟩).run C.P w = .ok .skip w' ∧ Sat C.w0 M' w' ∧ Post st M') : Eff C st M ⟨none, o, ty, pos, after, gd⟩ Post := by
  intro a w hf hw K hK
  obtain ⟨w', M', h1, h2, h3⟩ := hx a w hf hw
  rw [h1]
  exact hK _ _ _ _ h3 hf rfl h2

/-! ### new variables -/
theorem G.box {T : TypeId} {x : Operand} {v : Value} {cs : List Value} (hg : wnB all st gd = true) (hd : Nat.blt d C.N = true) (hq : q.ext = some q') (hx : evS st x = some v) (hcs : v.cells = cs.toArray)
    (h : ∀ B, G q' C all ((d, .pointer (some ⟨B, 0, none⟩)) :: st) (.blk B T cs cs.length :: M) rest k) :
    G q C all st M ({ dst := some d, op := .box T x, type := ty, pos, after, guard := gd } :: rest) k := by
  refine G.ext hg rfl hq (Eff.val hd fun a w hf hw => ⟨_, _, _, ?_, hw.alloc T cs, List.sublist_cons_self _ _, h _⟩)
  simp only [execOp, hf.eval hx, hcs, Instr.box, newVar, newRow]
  rfl

theorem G.alloc {T : TypeId} {cs : List Value} [hz : TZero C.P T cs] (hg : wnB all st gd = true) (hd : Nat.blt d C.N = true) (hq : q.ext = some q')
    (h : ∀ B, G q' C all ((d, .pointer (some ⟨B, 0, none⟩)) :: st) (.blk B T cs cs.length :: M) rest k) :
    G q C all st M ({ dst := some d, op := .alloc T, type := ty, pos, after, guard := gd } :: rest) k := by
  refine G.ext hg rfl hq (Eff.val hd fun a w hf hw => ⟨_, _, _, ?_, hw.alloc T cs, List.sublist_cons_self _ _, h _⟩)
  obtain ⟨z, h1, h2⟩ := hz.h w
  simp only [execOp, Instr.alloc, Sem.run_bind, h1, Result.andThen_ok, newVar, newRow, h2]
  rfl

/-! ### stores -/
def setL : List Value → Nat → List Value → List Value
  | cs, _, [] => cs
  | cs, j, v :: vs => setL (cs.set j v) (j + 1) vs

theorem setL_length : ∀ (vs : List Value) (cs : List Value) (j : Nat), (setL cs j vs).length = cs.length
  | [], _, _ => rfl
  | v :: vs, cs, j => by rw [setL, setL_length]; simp

theorem setL_eq : ∀ (vs : List Value) (cs : List Value) (j : Nat), j + vs.length ≤ cs.length → setL cs j vs = cs.take j ++ vs ++ cs.drop (j + vs.length)
  | [], cs, j, h => by simp [setL]
  | v :: vs, cs, j, h => by
    simp only [List.length_cons] at h
    rw [setL, setL_eq vs _ _ (by simp; omega)]
    apply List.ext_getElem?
    intro i
    simp only [List.getElem?_append, List.length_take, List.length_set, List.getElem?_take, List.getElem?_drop, List.length_append, List.length_cons]
    by_cases h1 : i < j
    · simp [show i < min (j + 1) cs.length by omega, show i < min (j + 1) cs.length + vs.length by omega, show i < min j cs.length by omega, show i < min j cs.length + (vs.length + 1) by omega, show i < j + 1 by omega, h1, List.getElem?_set_ne (by omega : j ≠ i)]
    · by_cases h2 : i = j
      · subst h2
        simp [show i < min (i + 1) cs.length by omega, show i < min (i + 1) cs.length + vs.length by omega, show ¬ i < min i cs.length by omega, show i < min i cs.length + (vs.length + 1) by omega, show i < cs.length by omega, show i - min i cs.length = 0 by omega]
      · by_cases h3 : i < j + 1 + vs.length
        · simp only [show ¬ i < min (j + 1) cs.length by omega, show i < min (j + 1) cs.length + vs.length by omega, show ¬ i < min j cs.length by omega, show i < min j cs.length + (vs.length + 1) by omega, if_true, if_false]
          rw [show i - min j cs.length = (i - min (j + 1) cs.length) + 1 by omega, List.getElem?_cons_succ]
        · simp only [show ¬ i < min (j + 1) cs.length + vs.length by omega, show ¬ i < min j cs.length + (vs.length + 1) by omega, if_false]
          rw [List.getElem?_set_ne (by omega)]
          congr 1; omega

theorem setL_append (rest : List Value) : ∀ (vs : List Value) (cs : List Value) (j : Nat), j + vs.length ≤ cs.length → setL (cs ++ rest) j vs = setL cs j vs ++ rest
  | [], cs, j, h => rfl
  | v :: vs, cs, j, h => by
    simp only [List.length_cons] at h
    rw [setL, setL, List.set_append_left _ _ (by omega), setL_append rest vs _ _ (by simp; omega)]

theorem Sat.setRow {w0 w : World} (h : Sat w0 M w) {i b : Nat} {e : TypeId} {cs : List Value} {n : Nat} (hi : M[i]? = some (Row.blk b e cs n)) {j : Nat} {vs : List Value} (hj : j + vs.length ≤ cs.length) (h1 : ∀ v ∈ vs, v.oneCell' = true) (P : Program) :
    ∃ w', (storeCells ⟨b, j, none⟩ vs).run P w = .ok () w' ∧ Sat w0 (M.set i (.blk b e (setL cs j vs) n)) w' := by
  obtain ⟨rs, hh, hl⟩ := h.hold _ (List.mem_of_getElem? hi)
  have hb : b < w.heap.size := (Array.getElem?_eq_some_iff.1 hh).1
  refine ⟨_, run_storeCells_at P b j e vs 0 _ w hh (by simp; omega) h1, ?_⟩
  have hcs : (cs ++ rs).toArray.toList.take (j + 0) ++ vs ++ (cs ++ rs).toArray.toList.drop (j + 0 + vs.length) = setL cs j vs ++ rs := by
    rw [← setL_append rs vs cs j hj, setL_eq _ _ _ (by simp; omega)]; simp
  rw [hcs]
  have hsz : (w.setRow b (setL cs j vs ++ rs).toArray).heap.size = w.heap.size := by simp [World.setRow]
  refine h.change hi rfl rfl rfl (by rw [hsz]; exact Nat.le_refl _) (fun k hk hk' => ?_) ⟨rs, setRow_heap w b _ _ e (0, 0) hh, by rw [setL_length]; exact hl⟩ (Nat.zero_le _) fun b' hb' => ⟨.inl hb', by cases hb'; rw [hsz]; exact hb⟩
  have hk2 : b ≠ k := fun e => hk' e.symm
  simp only [World.setRow, Array.getElem?_modify, if_neg hk2]

theorem G.storeI {T n : TypeId} {i : Nat} {x y : Operand} {v : Value} {vs : List Value} {b j tot : Nat} {e : TypeId} {cs : List Value} (hg : wnB all st gd = true) (hq : q.res = some q')
    (hx : evS st x = some (.pointer (some ⟨b, j, none⟩))) (hm : M[i]? = some (.blk b e cs tot)) (hy : evS st y = some v) (hvs : v.cells = vs.toArray) (h1 : vs.all (·.oneCell') = true) (hj : j + vs.length ≤ cs.length) [hT : TSize C.P T n] (hn : vs.length = n)
    (h : G q' C all st (M.set i (.blk b e (setL cs j vs) tot)) rest k) :
    G q C all st M ({ dst := none, op := .store T x y, type := ty, pos, after, guard := gd } :: rest) k := by
  refine G.res hg rfl hq (Eff.unit fun a w hf hw => ?_)
  obtain ⟨w', h2, h3⟩ := hw.setRow hm hj (fun v hv => List.all_eq_true.1 h1 v hv) C.P
  refine ⟨w', _, ?_, h3, h⟩
  simp [execOp, hf.eval hx, hf.eval hy, Instr.storeAt, Instr.sureAddr, storeVar, hT.h, hvs, hn, h2]

theorem G.store {T n : TypeId} {i : Nat} {x y : Operand} {v : Value} {vs : List Value} {b j tot : Nat} {e : TypeId} {cs : List Value} (hg : wnB all st gd = true) (hq : q.res = some q')
    (hx : evS st x = some (.pointer (some ⟨b, j, none⟩))) (hm : M[i]? = some (.blk b e cs tot)) (hy : evS st y = some v) (hvs : v.cells = vs.toArray) (h1 : vs.all (·.oneCell') = true) (hj : Nat.ble (j + vs.length) cs.length = true) [hT : TSize C.P T n] (hn : vs.length = n)
    (h : G q' C all st (M.set i (.blk b e (setL cs j vs) tot)) rest k) :
    G q C all st M ({ dst := none, op := .store T x y, type := ty, pos, after, guard := gd } :: rest) k :=
  G.storeI hg hq hx hm hy hvs h1 (by simpa using hj) hn h

theorem G.storeW {T n : TypeId} {i : Nat} {x y : Operand} {v : Value} {vs : List Value} {b j tot : Nat} {e : TypeId} {cs : List Value} (hg : wnB all st gd = true) (hq : q.st i = some q')
    (hx : evS st x = some (.pointer (some ⟨b, j, none⟩))) (hm : M[i]? = some (.blk b e cs tot)) (hy : evS st y = some v) (hvs : v.cells = vs.toArray) (h1 : vs.all (·.oneCell') = true) (hj : j + vs.length ≤ cs.length) [hT : TSize C.P T n] (hn : vs.length = n)
    (h : G q' C all st (M.set i (.blk b e (setL cs j vs) tot)) rest k) :
    G q C all st M ({ dst := none, op := .store T x y, type := ty, pos, after, guard := gd } :: rest) k := by
  refine G.stW (r := .blk b e (setL cs j vs) tot) hg rfl hq (Eff.unit fun a w hf hw => ?_)
  obtain ⟨w', h2, h3⟩ := hw.setRow hm hj (fun v hv => List.all_eq_true.1 h1 v hv) C.P
  refine ⟨w', _, ?_, h3, rfl, h⟩
  simp [execOp, hf.eval hx, hf.eval hy, Instr.storeAt, Instr.sureAddr, storeVar, hT.h, hvs, hn, h2]

/-- A store into a row that nothing to come leans on. -/
theorem G.storeS {T n : TypeId} {M0 : List Row} {i : Nat} {x y : Operand} {v : Value} {vs : List Value} {b j tot : Nat} {e : TypeId} {cs cs' : List Value} (hg : wnB all st gd = true) (hq : q.sto = some (M0, q'))
    (hx : evS st x = some (.pointer (some ⟨b, j, none⟩))) (hm : M[i]? = some (.blk b e cs tot)) (hy : evS st y = some v) (hvs : v.cells = vs.toArray) (h1 : vs.all (·.oneCell') = true) (hs : setL cs j vs = cs') (hj : j + vs.length ≤ cs.length) [hT : TSize C.P T n] (hn : vs.length = n) (hsub : M0.Sublist (M.set i (.blk b e cs' tot)))
    (h : G q' C all st (M.set i (.blk b e cs' tot)) rest k) :
    G q C all st M ({ dst := none, op := .store T x y, type := ty, pos, after, guard := gd } :: rest) k := by
  subst hs
  refine G.stS hg rfl hq (Eff.unit fun a w hf hw => ?_)
  obtain ⟨w', h2, h3⟩ := hw.setRow hm hj (fun v hv => List.all_eq_true.1 h1 v hv) C.P
  refine ⟨w', _, ?_, h3, hsub, h⟩
  simp [execOp, hf.eval hx, hf.eval hy, Instr.storeAt, Instr.sureAddr, storeVar, hT.h, hvs, hn, h2]

theorem set_self {A : Type} : ∀ {l : List A} {i : Nat} {x : A}, l[i]? = some x → l.set i x = l
  | [], _, _, h => by simp at h
  | a :: l, 0, x, h => by simp at h; simp [h]
  | a :: l, i + 1, x, h => by simp only [List.set_cons_succ]; rw [set_self (by simpa using h)]

/-- What is stored stands there already. -/
theorem G.storeSame {T n : TypeId} {i : Nat} {x y : Operand} {v : Value} {vs : List Value} {b j tot : Nat} {e : TypeId} {cs : List Value} (hg : wnB all st gd = true) (hq : q.ext = some q')
    (hx : evS st x = some (.pointer (some ⟨b, j, none⟩))) (hm : M[i]? = some (.blk b e cs tot)) (hy : evS st y = some v) (hvs : v.cells = vs.toArray) (h1 : vs.all (·.oneCell') = true) (hj : Nat.ble (j + vs.length) cs.length = true) (hsame : setL cs j vs = cs) [hT : TSize C.P T n] (hn : vs.length = n)
    (h : G q' C all st M rest k) :
    G q C all st M ({ dst := none, op := .store T x y, type := ty, pos, after, guard := gd } :: rest) k := by
  refine G.ext hg rfl hq (Eff.unit fun a w hf hw => ?_)
  obtain ⟨w', h2, h3⟩ := hw.setRow hm (by simpa using hj) (fun v hv => List.all_eq_true.1 h1 v hv) C.P
  rw [hsame, set_self hm] at h3
  refine ⟨w', M, ?_, h3, List.Sublist.refl _, h⟩
  simp [execOp, hf.eval hx, hf.eval hy, Instr.storeAt, Instr.sureAddr, storeVar, hT.h, hvs, hn, h2]

/-! ### a struct built -/
def fillL (place : List (Nat × Nat)) : List Value → List (Nat × Value) → Option (List Value)
  | cs, [] => some cs
  | cs, (i, v) :: r => match place[i]? with
    | none => none
    | some (off, size) => match v.cells.toList with
      | vs => if vs.length = size ∧ off + vs.length ≤ cs.length then fillL place (setL cs off vs) r else none

theorem foldl_set : ∀ (vs : List Value) (cs : Array Value) (off j : Nat),
    (vs.zipIdx j).foldl (fun cs (p : Value × Nat) => cs.setIfInBounds (off + p.2) p.1) cs = (setL cs.toList (off + j) vs).toArray
  | [], cs, off, j => by simp [setL]
  | v :: vs, cs, off, j => by
    simp only [List.zipIdx_cons, List.foldl_cons]
    rw [foldl_set vs _ off (j + 1)]
    simp [setL, Nat.add_assoc]

theorem fill_eq (place : List (Nat × Nat)) : ∀ (parts : List (Nat × Value)) (cs : List Value) (out : List Value), fillL place cs parts = some out → Instr.fill (fun i => place[i]?) cs.toArray parts = some out.toArray
  | [], cs, out, h => by simp [fillL] at h; simp [Instr.fill, h]
  | (i, v) :: r, cs, out, h => by
    simp only [fillL] at h
    simp only [Instr.fill]
    split at h
    · cases h
    · rename_i off size hp
      simp only [hp]
      split at h
      · rename_i hc
        obtain ⟨h1, h2⟩ := hc
        rw [if_neg (by simp only [Array.length_toList] at h1 h2; simp; omega)]
        have := foldl_set v.cells.toList cs.toArray off 0
        simp only [Nat.add_zero] at this
        have e : v.cells.zipIdx.foldl (fun cs (x : Value × Nat) => match x with | (c, j) => cs.setIfInBounds (off + j) c) cs.toArray = (setL cs off v.cells.toList).toArray := by
          rw [← this, ← Array.foldl_toList, Array.toList_zipIdx]
        rw [e]
        exact fill_eq place r _ out h
      · cases h

class TBuild (P : Program) (T : TypeId) (zero : outParam (List Value)) (place : outParam (List (Nat × Nat))) : Prop where
  h : ∀ parts out w, Instr.fill (fun i => place[i]?) zero.toArray parts = some out → (Instr.build T parts.toArray).run P w = .ok (.agg out) w

def evP (st : List (Nat × Value)) : List (Nat × Operand) → Option (List (Nat × Value))
  | [] => some []
  | (i, x) :: r => match evS st x, evP st r with
    | some v, some vs => some ((i, v) :: vs)
    | _, _ => none
theorem Fits.evP {N : Nat} {a : Act} (h : Fits N st a) : ∀ {xs : List (Nat × Operand)} {vs : List (Nat × Value)}, Sl.evP st xs = some vs → xs.map (fun (i, x) => (i, a.eval x)) = vs
  | [], vs, e => by simp [Sl.evP] at e; simp [← e]
  | (i, x) :: r, vs, e => by
    simp only [Sl.evP] at e
    split at e
    · rename_i v us hv hus
      cases e
      simp [h.eval hv, h.evP hus]
    · cases e

theorem OpV.build {T : TypeId} {zero : List Value} {place : List (Nat × Nat)} [hT : TBuild C.P T zero place] {parts : List (Nat × Operand)} {vs : List (Nat × Value)} {out : List Value} (hp : Sl.evP st parts = some vs) (ho : fillL place zero vs = some out) :
    OpV C st M (.build T parts.toArray) ty (.agg out.toArray) :=
  OpV.of fun a w hf _ dst pos after guard => by
    have := hT.h vs out.toArray w (fill_eq place vs zero out ho)
    have e := hf.evP hp
    simp only [execOp, List.map_toArray]
    rw [e]
    simp [this]

/-! ### a call that hands back more than a number -/
theorem G.call {X : Type} {g : FuncId} [hF : Fun C.P g] {f : Operand} {args : List Operand} {cap : Array Value} {vs : List Value} {at_ : Array TypeId} {v : X → Value} {Mn : X → List Row} (hg : wnB all st gd = true) (hd : Nat.blt d C.N = true) (hq : q.ext = some q')
    (hf : evS st f = some (.func (.func g) #[] cap)) (ha : evL st args = some vs)
    (hc : ∀ w, Sat C.w0 M w → Calls C.P g (vs.toArray ++ cap) w fun e w' => ∃ x, e = .returned (v x) ∧ Sat C.w0 (Mn x ++ M) w')
    (h : ∀ x, G q' C all ((d, v x) :: st) (Mn x ++ M) rest k) :
    G q C all st M ({ dst := some d, op := .call { callee := .value f, args := args.toArray, argTypes := at_ }, type := ty, pos, after, guard := gd } :: rest) k := by
  refine G.ext hg rfl hq fun a w hfit hw K hK => ?_
  rw [run_call (hfit.eval hf) (hfit.evals ha)]
  refine (hc w hw).mono fun e w' hh => ?_
  obtain ⟨x, rfl, hs⟩ := hh
  exact hK _ _ _ _ ⟨List.sublist_append_right _ _, h x⟩ (hfit.put hd _) rfl hs

theorem G.call0 {X : Type} {g : FuncId} [hF : Fun C.P g] {args : List Operand} {vs : List Value} {at_ : Array TypeId} {v : X → Value} {Mn : X → List Row} (hg : wnB all st gd = true) (hd : Nat.blt d C.N = true) (hq : q.ext = some q')
    (ha : evL st args = some vs)
    (hc : ∀ w, Sat C.w0 M w → Calls C.P g vs.toArray w fun e w' => ∃ x, e = .returned (v x) ∧ Sat C.w0 (Mn x ++ M) w')
    (h : ∀ x, G q' C all ((d, v x) :: st) (Mn x ++ M) rest k) :
    G q C all st M ({ dst := some d, op := .call { callee := .value (.func g), args := args.toArray, argTypes := at_ }, type := ty, pos, after, guard := gd } :: rest) k :=
  G.call (cap := #[]) hg hd hq rfl ha (fun w hw => by simpa using hc w hw) h

/-! ### entry and exit of a function -/
def retPHI (P : Program) (F : FuncId) (R : Ending → World → Prop) (cs : List Frame) (m : Machine) : Prop :=
  ∃ v w' fr, R (.returned v) w' ∧ m = lone fr cs w' ∧ fr.fn = F ∧ fr.leaving P w' (.returned v)

abbrev fctx (P : Program) (F : FuncId) (N : Nat) (R : Ending → World → Prop) (w0 : World) : Ctx :=
  { P, b := { (default : Frame) with fn := F, kind := .normal }, PHI := retPHI P F R, N, w0, D := [] }

def ArgsOk (args : Array Value) : List (Nat × Value) → Prop
  | [] => True
  | (t, v) :: r => args[t]? = some v ∧ ArgsOk args r
theorem ArgsOk.get {args : Array Value} : ∀ {st : List (Nat × Value)}, ArgsOk args st → ∀ t v, getT st t = some v → args[t]? = some v
  | [], _, t, v, h => by simp [getT] at h
  | (i, u) :: r, hs, t, v, h => by
    simp only [getT] at h
    split at h
    · rename_i e
      have e' : i = t := by simpa using e
      subst e'; cases h; exact hs.1
    · exact ArgsOk.get hs.2 t v h

theorem enter {P : Program} {F : FuncId} {fn : Func} {c : Code} {args : Array Value} {w : World} {R : Ending → World → Prop} {N : Nat} (st : List (Nat × Value)) (hf : P.funcs[F]? = some fn) (hb : fn.body = some c) (hN : fn.ntmps = N) (ha : (args.size ≤ N) = True)
    (hst : ArgsOk args st) (h : J (fctx P F N R w) st [] [.code c]) : Calls P F args w R := by
  intro cs
  have ha' : args.size ≤ N := of_eq_true ha
  have henter : Frame.enter P F args .normal = (fctx P F N R w).b.atR { tmps := args ++ Array.replicate (N - args.size) undef, defers := [] } [.code c] := by
    simp [Frame.enter, Frame.atR, hf, hb, hN, fctx]
    rfl
  obtain ⟨m, h1, v, w', fr, h2, rfl, h3, h4⟩ := h.go { tmps := args ++ Array.replicate (N - args.size) undef, defers := [] } w
    ⟨by simp; omega, fun t v hv => by
      have := hst.get t v hv
      have ht := (Array.getElem?_eq_some_iff.1 this).1
      rw [Array.getElem?_append_left ht]; exact this⟩ rfl (Sat.start w) cs
  rw [← henter] at h1
  exact ⟨.returned v, w', fr, h2, h1, h3, h4⟩

/-- A result as it is read at the end. -/
def ResV (C : Ctx) (st : List (Nat × Value)) (M : List Row) (r : ResultVar) (v : Value) : Prop :=
  match r with
  | .tmp t => getT st t = some v
  | .cell t T => ∃ p, getT st t = some (.pointer (some p)) ∧ LdV C M T p v
theorem ResV.tmp {t : Nat} {v : Value} (h : getT st t = some v) : ResV C st M (.tmp t) v := h
theorem ResV.cell {t : Nat} {T : TypeId} {p : Addr} {v : Value} (h : getT st t = some (.pointer (some p))) (h2 : LdV C M T p v) : ResV C st M (.cell t T) v := ⟨p, h, h2⟩
def resSem (tmps : Array Value) (r : ResultVar) : Sem Value :=
  match r with
  | .tmp t => pure (tmps.getD t undef)
  | .cell t T => do loadVar T (← asAddr (tmps.getD t undef))
theorem ResV.run {r : ResultVar} {v : Value} (h : ResV C st M r v) {a : Act} {w : World} (hf : Fits C.N st a) (hw : Sat C.w0 M w) : (resSem a.tmps r).run C.P w = .ok v w := by
  cases r with
  | tmp t => simp [resSem, hf.get t v h]
  | cell t T =>
    obtain ⟨p, h1, h2⟩ := h
    simp [resSem, hf.get t _ h1, asAddr, h2.go w hw]

structure RunsTo (C : Ctx) (st : List (Nat × Value)) (M : List Row) (fn : Func) (v : Value) : Prop where
  go : ∀ a w, Fits C.N st a → Sat C.w0 M w → (results fn a.tmps).run C.P w = .ok v w

theorem results_eq (fn : Func) (tmps : Array Value) : results fn tmps = (do let vs ← fn.results.mapM (resSem tmps); pure (if h : vs.size = 1 then vs[0] else .tuple vs)) := rfl

theorem RunsTo.zero {fn : Func} (hr : fn.results = #[]) : RunsTo C st M fn (.tuple #[]) := .mk fun a w hf hw => by
  simp [results, hr]
theorem RunsTo.one {fn : Func} {r : ResultVar} {v : Value} (hr : fn.results = #[r]) (h : ResV C st M r v) : RunsTo C st M fn v := .mk fun a w hf hw => by
  simp [results_eq, hr, h.run hf hw]
theorem RunsTo.two {fn : Func} {r1 r2 : ResultVar} {v1 v2 : Value} (hr : fn.results = #[r1, r2]) (h1 : ResV C st M r1 v1) (h2 : ResV C st M r2 v2) : RunsTo C st M fn (.tuple #[v1, v2]) := .mk fun a w hf hw => by
  simp [results_eq, hr, h1.run hf hw, h2.run hf hw]
theorem RunsTo.three {fn : Func} {r1 r2 r3 : ResultVar} {v1 v2 v3 : Value} (hr : fn.results = #[r1, r2, r3]) (h1 : ResV C st M r1 v1) (h2 : ResV C st M r2 v2) (h3 : ResV C st M r3 v3) : RunsTo C st M fn (.tuple #[v1, v2, v3]) := .mk fun a w hf hw => by
  simp [results_eq, hr, h1.run hf hw, h2.run hf hw, h3.run hf hw]

theorem leave {P : Program} {F : FuncId} {N : Nat} {R : Ending → World → Prop} {w0 : World} {fn : Func} {v : Value} (hf : P.funcs[F]? = some fn) (hr : RunsTo (fctx P F N R w0) st M fn v) (hR : ∀ w, Sat w0 M w → R (.returned v) w) :
    J (fctx P F N R w0) st M (.code .ret :: k) := by
  refine .mk fun a w hfit hd hw cs => ?_
  refine ⟨_, .one (stepR_ret rfl), v, w, _, hR w hw, rfl, rfl, rfl, hd, rfl, fn, hf, hr.go a w hfit hw⟩

theorem leaveEnd {P : Program} {F : FuncId} {N : Nat} {R : Ending → World → Prop} {w0 : World} {fn : Func} {v : Value} (hf : P.funcs[F]? = some fn) (hr : RunsTo (fctx P F N R w0) st M fn v) (hR : ∀ w, Sat w0 M w → R (.returned v) w) :
    J (fctx P F N R w0) st M [] := by
  refine .mk fun a w hfit hd hw cs => ?_
  refine ⟨_, .one (stepR_end rfl), v, w, _, hR w hw, rfl, rfl, rfl, hd, rfl, fn, hf, hr.go a w hfit hw⟩

/-! ### rows of old memory -/
def RowAt (w : World) (b o : Nat) (cs : List Value) : Prop := b < w.heap.size ∧ ∀ j v, cs[j]? = some v → w.cell? ⟨b, o + j, none⟩ = some v
theorem RowAt.below {w w' : World} {b o : Nat} {cs : List Value} (h : RowAt w b o cs) (hb : Below w.heap.size w w') : RowAt w' b o cs :=
  ⟨Nat.lt_of_lt_of_le h.1 hb.size, fun j v hv => (hb.cell (p := ⟨b, o + j, none⟩) h.1).trans (h.2 j v hv)⟩
theorem CellV.row0 {b o : Nat} {cs : List Value} {v : Value} (h : RowAt C.w0 b o cs) (hv : cs[0]? = some v) : CellV C M ⟨b, o, none⟩ v := CellV.old (h.2 0 v hv) h.1
theorem CellV.rowS {b o j : Nat} {cs : List Value} {v : Value} (h : RowAt C.w0 b o cs) (hv : cs[j]? = some v) : CellV C M ⟨b, o + j, none⟩ v := CellV.old (h.2 j v hv) h.1

theorem CellsV.of {b : Nat} : ∀ {vs : List Value} {o : Nat}, (∀ j v, vs[j]? = some v → CellV C M ⟨b, o + j, none⟩ v) → CellsV C M b o vs
  | [], _, _ => trivial
  | v :: vs, o, h => ⟨h 0 v rfl, CellsV.of fun j u hu => by
      have := h (j + 1) u (by simpa using hu)
      rwa [Nat.add_assoc, Nat.add_comm 1 j]⟩
theorem LdV.aggRow {T n : Nat} [hT : TAgg C.P T n] {b o : Nat} {cs : List Value} (h : RowAt C.w0 b o cs) (hl : cs.length = n) : LdV C M T ⟨b, o, none⟩ (.agg cs.toArray) :=
  LdV.agg hl (CellsV.of fun j v hv => CellV.rowS h hv)
theorem LdV.aggBlk {T n : Nat} [hT : TAgg C.P T n] {b tot : Nat} {e : TypeId} {cs : List Value} (hm : Row.blk b e cs tot ∈ M) (hl : cs.length = n) : LdV C M T ⟨b, 0, none⟩ (.agg cs.toArray) :=
  LdV.agg hl (CellsV.of fun j v hv => by rw [Nat.zero_add]; exact CellV.blk hm hv)

theorem OpV.decT {p : Prop} [Decidable p] {opn : Op} (h : OpV C st M opn ty (.bool (decide p))) (hp : p) : OpV C st M opn ty (.bool true) := by simpa [hp] using h
theorem OpV.decF {p : Prop} [Decidable p] {opn : Op} (h : OpV C st M opn ty (.bool (decide p))) (hp : ¬ p) : OpV C st M opn ty (.bool false) := by simpa [hp] using h

theorem field_mk {P : Program} {T f n off : Nat} {fields : Array Field} {fd : Field} (hu : ∀ w, (underlying T).run P w = .ok (.struct fields) w) (hf : fields[f]? = some fd) (hs : ∀ w, (sizeOf fd.type).run P w = .ok n w) (hn : n ≠ 0) (ho : fd.offset = off) : TField P T f off := ⟨fun a w => by
  subst ho; simp [Instr.fieldAt, hu, hf, Instr.sureAddr, fieldPlace, hs, hn]⟩

theorem fill_congr {p p' : Nat → Option (Nat × Nat)} : ∀ (parts : List (Nat × Value)) (cs out : Array Value), (∀ i x, p i = some x → p' i = some x) → Instr.fill p cs parts = some out → Instr.fill p' cs parts = some out
  | [], cs, out, _, h => h
  | (i, v) :: r, cs, out, hp, h => by
    simp only [Instr.fill] at h ⊢
    cases hi : p i with
    | none => rw [hi] at h; cases h
    | some x =>
      obtain ⟨off, size⟩ := x
      rw [hp i _ hi]
      simp only [hi] at h ⊢
      split at h
      · cases h
      · rename_i hc
        rw [if_neg hc]
        exact fill_congr r _ out hp h

theorem build_arr {P : Program} {T E n sz : Nat} {z : Value} {zs : List Value} {place : List (Nat × Nat)} (hz : ∀ w, (zeroValue T).run P w = .ok z w) (hu : ∀ w, (underlying T).run P w = .ok (.array n E) w) (hs : ∀ w, (sizeOf E).run P w = .ok sz w) (hzs : z.cells = zs.toArray)
    (hp : (List.range place.length).all (fun i => decide (place[i]? = some (i * sz, sz))) = true) : TBuild P T zs place := ⟨fun parts out w h => by
  have : Instr.fill (fun i => some (i * sz, sz)) zs.toArray parts = some out := by
    refine fill_congr parts _ out (fun i x hx => ?_) h
    have hi : i < place.length := (List.getElem?_eq_some_iff.1 hx).1
    have := List.all_eq_true.1 hp i (List.mem_range.2 hi)
    simp only [decide_eq_true_eq] at this
    rw [← this]; exact hx
  simp [Instr.build, hz, hu, hs, hzs, this]⟩

/-! ### slices that are read -/
/-- The slice at a (of elements of sz cells each) reads as l. -/
def SlAt (w : World) (a : Option Addr) (sz : Nat) (l : List (List Value)) : Prop :=
  0 < l.length → ∃ b off, a = some ⟨b, off, none⟩ ∧ ∀ i cs, l[i]? = some cs → RowAt w b (off + i * sz) cs
theorem SlAt.below {w w' : World} {a : Option Addr} {sz : Nat} {l : List (List Value)} (h : SlAt w a sz l) (hb : Below w.heap.size w w') : SlAt w' a sz l := fun h0 =>
  let ⟨b, off, h1, h2⟩ := h h0
  ⟨b, off, h1, fun i cs hi => (h2 i cs hi).below hb⟩
theorem SlAt.at {w : World} {a : Option Addr} {sz : Nat} {A : Type} {f : A → List Value} {l : List A} (h : SlAt w a sz (l.map f)) (i : Nat) (hi : i < l.length) : ∃ b off, a = some ⟨b, off, none⟩ ∧ RowAt w b (off + i * sz) (f l[i]) := by
  obtain ⟨b, off, h1, h2⟩ := h (by simp; omega)
  exact ⟨b, off, h1, h2 i _ (by simp [hi])⟩
theorem SlAt.nil {w : World} {a : Option Addr} {sz : Nat} : SlAt w a sz [] := fun h => by simp at h

end Go.Sl
