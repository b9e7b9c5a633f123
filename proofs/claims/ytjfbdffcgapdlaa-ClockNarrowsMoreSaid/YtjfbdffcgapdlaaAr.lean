/-
  Arrays behind a pointer; comparisons whose sides are the same.
-/
import Derived.Test.YtjfbdffcgapdlaaIu

namespace Go.Sl
open Go.RowKit

variable {C : Ctx} {st : List (Nat × Value)} {M : List Row} {k : List Item} {q q' : Md} {all rest : List Oper} {d : Nat} {ty : TypeId} {pos : String} {after : Array Edge} {gd : Option (Nat × Bool)}

class TArr (P : Program) (T : TypeId) (len E sz : outParam Nat) : Prop where
  h1 : P.underlying T = some (.array len E)
  h2 : ∀ w, (sizeOf E).run P w = .ok sz w

theorem OpV.indexArr {T len E sz : Nat} [hT : TArr C.P T len E sz] {x y : Operand} {b o : Nat} {ki : IntKind} {i : Nat} {e : Int} (hx : evS st x = some (.pointer (some ⟨b, o, none⟩))) (hy : evS st y = some (.int ki e)) (he : e = (i : Int)) (hi : i < len) :
    OpV C st M (.indexAddr T x y) ty (.pointer (some ⟨b, addO o (i * sz), none⟩)) :=
  OpV.of fun a w hf _ dst pos after guard => by
    subst he
    have h0 : (0 : Int) ≤ (i : Int) ∧ (i : Int) < (len : Int) := by omega
    have hu : ∀ w, (underlying T).run C.P w = .ok (.array len E) w := fun w => by simp [underlying, hT.h1]
    simp only [execOp, hf.eval hx, hf.eval hy, Instr.indexAt, Instr.sureAddr, asIntOf, Sem.run_bind, Sem.run_pure, Result.andThen_ok, hu]
    rw [if_pos h0]
    simp [hT.h2, addr_add]
theorem G.indexArr {T len E sz : Nat} {x y : Operand} {b o o' : Nat} {ki : IntKind} {i : Nat} {e : Int} (hx : evS st x = some (.pointer (some ⟨b, o, none⟩))) (hy : evS st y = some (.int ki e)) (he : e = (i : Int)) [hT : TArr C.P T len E sz] (hi : i < len) (ho : addO o (i * sz) = o') (hg : wnB all st gd = true) (hd : Nat.blt d C.N = true) (hq : q.calm = some q') (h : G q' C all ((d, .pointer (some ⟨b, o', none⟩)) :: st) M rest k) :
    G q C all st M ({ dst := some d, op := .indexAddr T x y, type := ty, pos, after, guard := gd } :: rest) k := G.op (ho ▸ OpV.indexArr hx hy he hi) hg rfl hd hq h

/-! ### both sides are the same -/
theorem G.eqSI {t : TypeId} {x y : Operand} {yt : TypeId} {ki : IntKind} {a : Int} (hx : evS st x = some (.int ki a)) (hy : evS st y = some (.int ki a)) (hg : wnB all st gd = true) (hd : Nat.blt d C.N = true) (hq : q.calm = some q') (h : G q' C all ((d, .bool true) :: st) M rest k) :
    G q C all st M ({ dst := some d, op := .binOp .eql t x y yt, type := ty, pos, after, guard := gd } :: rest) k :=
  G.op (OpV.decT (OpV.eql hx hy) rfl) hg rfl hd hq h
theorem G.eqS2 {T : TypeId} {x y : Operand} {yt : TypeId} {a b : Int} (hx : evS st x = some (.agg #[.int .i64 a, .int .i64 b])) (hy : evS st y = some (.agg #[.int .i64 a, .int .i64 b])) [hT : TEq2 C.P T] (hg : wnB all st gd = true) (hd : Nat.blt d C.N = true) (hq : q.calm = some q') (h : G q' C all ((d, .bool true) :: st) M rest k) :
    G q C all st M ({ dst := some d, op := .binOp .eql T x y yt, type := ty, pos, after, guard := gd } :: rest) k :=
  G.op (OpV.decT (OpV.eql2 hx hy) ⟨rfl, rfl⟩) hg rfl hd hq h
class TBool (P : Program) (T : TypeId) : Prop where
  h : P.underlying T = some .bool
theorem OpV.eqlB {t : TypeId} [hT : TBool C.P t] {x y : Operand} {yt : TypeId} {a b : Bool} (hx : evS st x = some (.bool a)) (hy : evS st y = some (.bool b)) : OpV C st M (.binOp .eql t x y yt) ty (.bool (a == b)) :=
  OpV.of fun ac w hf _ dst pos after guard => by
    have hg : (eqGuard .eql t x y (.bool a) (.bool b)).run C.P w = .ok () w := rfl
    have hu : (underlying t).run C.P w = .ok .bool w := by simp [underlying, hT.h]
    have he : (Op.equal t (.bool a) (.bool b)).run C.P w = .ok (a == b) w := by
      rw [Op.equal, Op.maxDepth, Op.equalIn, Sem.run_bind, hu]; rfl
    have e : (binOp .eql t (.bool a) (.bool b)).run C.P w = .ok (.bool (a == b)) w := by
      show ((Op.equal t _ _).bind fun b => Sem.pure (Value.bool b)).run C.P w = _
      rw [Sem.run_bind', he]; rfl
    simp only [execOp, hf.eval hx, hf.eval hy, Sem.run_bind, hg, e, Result.andThen_ok]; rfl
theorem G.eqSB {t : TypeId} {x y : Operand} {yt : TypeId} {a : Bool} (hx : evS st x = some (.bool a)) (hy : evS st y = some (.bool a)) [hT : TBool C.P t] (hg : wnB all st gd = true) (hd : Nat.blt d C.N = true) (hq : q.calm = some q') (h : G q' C all ((d, .bool true) :: st) M rest k) :
    G q C all st M ({ dst := some d, op := .binOp .eql t x y yt, type := ty, pos, after, guard := gd } :: rest) k :=
  G.op (by have := OpV.eqlB (C := C) (M := q.cls M) (ty := ty) (t := t) (yt := yt) hx hy; simpa using this) hg rfl hd hq h

/-- A call that hands back a value with a slice in it of which Q holds. -/
theorem G.callQ {g : FuncId} {args : List Operand} {vs : List Value} {at_ : Array TypeId} {sz : Nat} (Q : Option Addr → Prop) (v : Option Addr → Nat → Value) (L : List (List Value)) (ha : evL st args = some vs) (hg : wnB all st gd = true) (hd : Nat.blt d C.N = true) (hq : q.ext = some q') [hF : Fun C.P g]
    (hc : ∀ w, Sat C.w0 M w → Calls C.P g vs.toArray w fun e w' => ∃ a' c', e = .returned (v a' c') ∧ SlAt w' a' sz L ∧ (∀ p, a' = some p → 0 < L.length → Free C M w p.block) ∧ Q a' ∧ Below w.heap.size w w')
    (h : ∀ a' c', (0 < L.length → ∃ b off, a' = some ⟨b, off, none⟩) → Q a' → G q' C all ((d, v a' c') :: st) (slRow C.w0.heap.size a' sz L :: M) rest k) :
    G q C all st M ({ dst := some d, op := .call { callee := .value (.func g), args := args.toArray, argTypes := at_ }, type := ty, pos, after, guard := gd } :: rest) k := by
  refine G.call0 (X := { x : Option Addr × Nat // (0 < L.length → ∃ b off, x.1 = some ⟨b, off, none⟩) ∧ Q x.1 }) (v := fun x => v x.1.1 x.1.2) (Mn := fun x => [slRow C.w0.heap.size x.1.1 sz L]) hg hd hq ha (fun w hw => (hc w hw).mono fun e w' he => ?_) fun x => h x.1.1 x.1.2 x.2.1 x.2.2
  obtain ⟨a', c', rfl, h1, h2, hQ, h3⟩ := he
  refine ⟨⟨(a', c'), fun h0 => (let ⟨b, off, e, _⟩ := h1 h0; ⟨b, off, e⟩), hQ⟩, rfl, (hw.ext h3).addFact (Nat.le_refl _) h1 fun b hb => ?_⟩
  obtain ⟨h0, p, h5, h6, h7⟩ := hb
  dsimp only at h5
  obtain ⟨b', off, h8, hr⟩ := h1 h0
  have hlt := (hr 0 _ (List.getElem?_eq_getElem h0)).1
  have := h2 p h5 h0
  rw [h5] at h8; cases h8
  simp only at h6 this
  subst h6
  exact ⟨h7, hlt, hw.free this h7⟩
end Go.Sl
