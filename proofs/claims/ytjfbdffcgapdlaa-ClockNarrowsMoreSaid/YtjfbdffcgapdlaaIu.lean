/-
  Ranges over functions whose rounds all go through.
-/
import Derived.Test.YtjfbdffcgapdlaaIt

namespace Go.Sl
open Go.RowKit

/-! ### rows in another order, by numbers -/
def cat {A : Type} : List (List A) → List A
  | [] => []
  | [l] => l
  | l :: m :: r => l ++ cat (m :: r)
theorem cat_eq {A : Type} : ∀ ls : List (List A), cat ls = ls.flatten
  | [] => rfl
  | [l] => by simp [cat]
  | l :: m :: r => by rw [cat, cat_eq (m :: r)]; simp
theorem perm_cat {A : Type} (ls : List (List A)) (i j : List Nat) (h : i.isPerm j = true) : (cat (i.map (ls.getD · []))).Perm (cat (j.map (ls.getD · []))) := by
  rw [cat_eq, cat_eq]
  exact ((List.isPerm_iff.1 h).map _).flatten

variable {C : Ctx} {st : List (Nat × Value)} {M : List Row} {k : List Item} {q q' : Md} {all rest : List Oper} {d : Nat} {ty : TypeId} {pos : String} {after : Array Edge} {gd : Option (Nat × Bool)}

/-- The function f with the captures cap calls yield with each of es, while it says true. -/
def IterF (P : Program) (w0 : World) (K : List Row) (f : FuncId) (cap : Array Value) {E : Type} (enc : E → Value) (es : List E) : Prop :=
  ∀ {X : Type} (R : X → List Row) (stp : X → E → X) (Inv : Nat → X → Prop) (fY : Fn) (cY : Array Value),
    (∀ i x e, Inv i x → es[i]? = some e → ∀ M' w, Sat w0 (R x ++ M') w → CallsV P (.func fY #[] cY) [enc e] w fun v w' => v = .bool true ∧ Inv (i + 1) (stp x e) ∧ Sat w0 (R (stp x e) ++ M') w') →
    ∀ x0, Inv 0 x0 → ∀ M1 w, Sat w0 (K ++ (R x0 ++ M1)) w →
      Calls P f (#[.func fY #[] cY] ++ cap) w fun e w' => e = .returned (.tuple #[]) ∧ Inv es.length (es.foldl stp x0) ∧ Sat w0 (K ++ (R (es.foldl stp x0) ++ M1)) w'

def busy (r : Loop) : Loop := { r with state := .busy }
theorem J.beginR {l i : Nat} {r : Loop} (hb : C.b.roundOf = some l) (hi : M[i]? = some (.obj l (.loop r))) (hr : r.state = .ready) (h : J C st (M.set i (.obj l (.loop (busy r)))) k) : J C st M (.beginRound :: k) := J.beginRound hb hi hr h
theorem busy_back {r : Loop} (h1 : r.state = .ready) (h2 : r.pending = none) : ({ busy r with state := .ready, pending := none } : Loop) = r := by
  cases r; simp only at h1 h2; subst h1; subst h2; rfl
theorem leaveR {P : Program} {l i : Nat} {F : FuncId} {N : Nat} {R : Value → World → Prop} {w0 : World} {r : Loop} (h1 : r.state = .ready) (h2 : r.pending = none) (hi : M[i]? = some (.obj l (.loop (busy r))))
    (hR : ∀ w', Sat w0 (M.set i (.obj l (.loop r))) w' → R (.bool true) w') : J (rctx P l F N R w0) st M [] :=
  leaveRound hi fun w' hw' => hR w' (by rwa [busy_back h1 h2] at hw')

theorem Fits.defers {N : Nat} {a : Act} {ds : List Deferred} (h : Fits N st a) : Fits N st { a with defers := ds } := ⟨h.size, h.get⟩

/-- The statement, where each round goes through. -/
theorem J.rangeF {f : FuncId} [hF : Fun C.P f] {cap : Array Value} {g : Operand} {p : Tmp} {assign body : Code} {E : Type} {enc : E → Value} {es : List E} {K : List Row} {X : Type} (R : X → List Row) (stp : X → E → X) (Inv : Nat → X → Prop) (x0 : X) (M1 : List Row)
    (hIt : IterF C.P C.w0 K f cap enc es) (hb : C.b.roundOf = none) (hg : evS st g = some (.func (.func f) #[] cap)) (hp : Nat.blt p C.N = true) (hM : M.Perm (K ++ (R x0 ++ M1))) (hI : Inv 0 x0)
    (hround : ∀ i x e, Inv i x → es[i]? = some e → ∀ L (r : Loop) M', r.state = .ready → r.pending = none →
      J (rctx C.P L C.b.fn C.N (fun v w' => v = .bool true ∧ Inv (i + 1) (stp x e) ∧ Sat C.w0 (.obj L (.loop r) :: R (stp x e) ++ M') w') C.w0) ((p, enc e) :: st) (.obj L (.loop r) :: R x ++ M') [.code assign, .beginRound, .code body])
    (h : ∀ Bd, Inv es.length (es.foldl stp x0) → J { C with D := mark Bd :: C.D } st (.obj Bd (.deferred (some [])) :: (K ++ (R (es.foldl stp x0) ++ M1))) k) :
    J C st M (.code (.rangeFunc g #[p] assign body) :: k) := by
  refine J.perm hM (J.range (f := f) (cap := cap) (X := PLift (Inv es.length (es.foldl stp x0))) (fun _ => K ++ (R (es.foldl stp x0) ++ M1)) (fun _ => none) (fun _ => .ready) hb hg (fun _ => by simp) ?_ fun Bd x => h Bd x.down)
  intro tmps Bd L w r hr hfit hw
  have hrs : r.state = .ready := by rw [hr]
  have hrp : r.pending = none := by rw [hr]
  have hrr : ({ r with state := .ready, pending := none } : Loop) = r := by rw [hr]
  have hp1 : ∀ x, (Row.obj L (.loop r) :: .obj Bd (.deferred (some [])) :: (K ++ (R x ++ M1))).Perm (K ++ ((.obj L (.loop r) :: R x) ++ (.obj Bd (.deferred (some [])) :: M1))) := fun x =>
    perm_cat [[Row.obj L (.loop r)], [.obj Bd (.deferred (some []))], K, R x, M1] [0, 1, 2, 3, 4] [2, 0, 3, 1, 4] rfl
  have hmain := hIt (fun x => Row.obj L (.loop r) :: R x) stp Inv (.yield L) #[] ?_ x0 hI (.obj Bd (.deferred (some [])) :: M1) w (hw.perm (hp1 x0))
  · refine hmain.mono fun e w2 ⟨q1, q2, q3⟩ => ⟨_, ⟨q2⟩, q1, ?_⟩
    rw [hrr]
    exact q3.perm (hp1 _).symm
  · intro i x e h1 h2 M' w1 hw1
    have h3 := hround i x e h1 h2 L r M' hrs hrp
    refine .yield L r rfl (hw1.hold _ (.head _)) (by rw [hr]; rfl) ?_
    have hf6 := (hfit.put hp (enc e))
    have e1 : (r.params.zip [enc e].toArray).foldl (fun tmps (t, a) => tmps.setIfInBounds t a) r.tmps = (({ tmps := tmps, defers := [] } : Act).put (some p) (enc e)).tmps := by
      have e0 : ((#[p] : Array Tmp).zip [enc e].toArray) = #[(p, enc e)] := by simp
      rw [hr]; dsimp only; rw [e0]; simp [Act.put]
    rw [e1]
    have e2 : r.fn = C.b.fn := by rw [hr]
    have e3 : r.assign = assign := by rw [hr]
    have e4 : r.body = body := by rw [hr]
    rw [e2, e3, e4]
    exact rounds_of hf6 hw1 h3

/-! ### calls that change rows -/
theorem G.callM {X : Type} {g : FuncId} {args : List Operand} {vs : List Value} {at_ : Array TypeId} (v : X → Value) (Mn : X → List Row) (hg : wnB all st gd = true) (hd : Nat.blt d C.N = true) (hq : q.res = some q')
    (ha : evL st args = some vs) [hF : Fun C.P g]
    (hc : ∀ w, Sat C.w0 M w → Calls C.P g vs.toArray w fun e w' => ∃ x, e = .returned (v x) ∧ Sat C.w0 (Mn x) w')
    (h : ∀ x, G q' C all ((d, v x) :: st) (Mn x) rest k) :
    G q C all st M ({ dst := some d, op := .call { callee := .value (.func g), args := args.toArray, argTypes := at_ }, type := ty, pos, after, guard := gd } :: rest) k := by
  refine G.res hg rfl hq fun a w hfit hw K hK => ?_
  have hrc := run_call (P := C.P) (w := w) (g := g) (a := a) (f := .func g) (cap := #[]) (ty := ty) (pos := pos) (after := after) (at_ := at_) (dst := some d) (guard := gd) rfl (hfit.evals ha)
  rw [hrc]
  have e0 : vs.toArray ++ #[] = vs.toArray := by simp
  rw [e0]
  refine (hc w hw).mono fun e w' hh => ?_
  obtain ⟨x, rfl, hs⟩ := hh
  exact hK _ _ _ _ (h x) (hfit.put hd _) rfl hs
theorem G.callMB {g : FuncId} {args : List Operand} {vs : List Value} {at_ : Array TypeId} (b : Bool) (Mn : List Row) (hg : wnB all st gd = true) (hd : Nat.blt d C.N = true) (hq : q.res = some q')
    (ha : evL st args = some vs) [hF : Fun C.P g]
    (hc : ∀ w, Sat C.w0 M w → Calls C.P g vs.toArray w fun e w' => e = .returned (.bool b) ∧ Sat C.w0 Mn w')
    (h1 : b = true → G q' C all ((d, .bool true) :: st) Mn rest k) (h2 : b = false → G q' C all ((d, .bool false) :: st) Mn rest k) :
    G q C all st M ({ dst := some d, op := .call { callee := .value (.func g), args := args.toArray, argTypes := at_ }, type := ty, pos, after, guard := gd } :: rest) k :=
  G.callM (X := Unit) (fun _ => .bool b) (fun _ => Mn) hg hd hq ha (fun w hw => (hc w hw).mono fun e w' hh => ⟨(), hh⟩) fun _ => by
    cases b
    · exact h2 rfl
    · exact h1 rfl
/-- A call that hands back a value with a new slice in it. -/
theorem G.callN {g : FuncId} {args : List Operand} {vs : List Value} {at_ : Array TypeId} {sz : Nat} (v : Option Addr → Nat → Value) (L : List (List Value)) (ha : evL st args = some vs) (hg : wnB all st gd = true) (hd : Nat.blt d C.N = true) (hq : q.ext = some q') [hF : Fun C.P g]
    (hc : ∀ w, Sat C.w0 M w → Calls C.P g vs.toArray w fun e w' => ∃ a' c', e = .returned (v a' c') ∧ SlAt w' a' sz L ∧ (∀ p, a' = some p → w.heap.size ≤ p.block) ∧ Below w.heap.size w w')
    (h : ∀ a' c', (0 < L.length → ∃ b off, a' = some ⟨b, off, none⟩) → (∀ p, a' = some p → C.w0.heap.size ≤ p.block) → G q' C all ((d, v a' c') :: st) (slRow C.w0.heap.size a' sz L :: M) rest k) :
    G q C all st M ({ dst := some d, op := .call { callee := .value (.func g), args := args.toArray, argTypes := at_ }, type := ty, pos, after, guard := gd } :: rest) k := by
  refine G.call0 (X := { x : Option Addr × Nat // (0 < L.length → ∃ b off, x.1 = some ⟨b, off, none⟩) ∧ ∀ p, x.1 = some p → C.w0.heap.size ≤ p.block }) (v := fun x => v x.1.1 x.1.2) (Mn := fun x => [slRow C.w0.heap.size x.1.1 sz L]) hg hd hq ha (fun w hw => (hc w hw).mono fun e w' he => ?_) fun x => h x.1.1 x.1.2 x.2.1 x.2.2
  obtain ⟨a', c', rfl, h1, h2, h3⟩ := he
  refine ⟨⟨(a', c'), fun h0 => (let ⟨b, off, e, _⟩ := h1 h0; ⟨b, off, e⟩), fun p hp => Nat.le_trans hw.size (h2 p hp)⟩, rfl, (hw.ext h3).addFact (Nat.le_refl _) h1 fun b hb => ?_⟩
  obtain ⟨h0, p, h5, h6, h7⟩ := hb
  dsimp only at h5
  obtain ⟨b', off, h8, hr⟩ := h1 h0
  have hlt := (hr 0 _ (List.getElem?_eq_getElem h0)).1
  have := h2 p h5
  rw [h5] at h8; cases h8
  simp only at h6 this
  subst h6
  exact ⟨h7, hlt, hw.free (.inr (.inl this)) h7⟩
theorem LdV.aggSl {A : Type} {f : A → List Value} {T n sz N : Nat} [hT : TAgg C.P T n] {l : List A} {b off i : Nat} (hm : slRow N (some ⟨b, off, none⟩) sz (l.map f) ∈ M) (hi : i < l.length) (hl : (f l[i]).length = n) : LdV C M T ⟨b, off + i * sz, none⟩ (.agg (f l[i]).toArray) :=
  LdV.agg hl (CellsV.of fun _ _ hv => CellV.sl hm hi hv)
end Go.Sl
