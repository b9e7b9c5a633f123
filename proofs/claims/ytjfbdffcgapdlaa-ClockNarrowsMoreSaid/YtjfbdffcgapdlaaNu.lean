/-
  Numbers of every kind: wrapping sums, quotients, shifts, bits, conversions.
-/
import Derived.Test.YtjfbdffcgapdlaaAr

namespace Go.Sl
open Go.RowKit

variable {C : Ctx} {st : List (Nat × Value)} {M : List Row} {k : List Item} {q q' : Md} {all rest : List Oper} {d : Nat} {ty : TypeId} {pos : String} {after : Array Edge} {gd : Option (Nat × Bool)}

theorem wrap_u64 (x : Int) : IntKind.u64.wrap x = x % 18446744073709551616 := by
  simp [IntKind.wrap, IntKind.bits, IntKind.signed]
theorem wrap_u32 (x : Int) : IntKind.u32.wrap x = x % 4294967296 := by
  simp [IntKind.wrap, IntKind.bits, IntKind.signed]
theorem wrap_u16 (x : Int) : IntKind.u16.wrap x = x % 65536 := by
  simp [IntKind.wrap, IntKind.bits, IntKind.signed]
theorem wrap_u8 (x : Int) : IntKind.u8.wrap x = x % 256 := by
  simp [IntKind.wrap, IntKind.bits, IntKind.signed]

theorem G.mulK {t : TypeId} {x y : Operand} {yt : TypeId} {ki : IntKind} {a b m : Int} (hx : evS st x = some (.int ki a)) (hy : evS st y = some (.int ki b)) (hm : ki.wrap (a * b) = m) (hg : wnB all st gd = true) (hd : Nat.blt d C.N = true) (hq : q.calm = some q') (h : G q' C all ((d, .int ki m) :: st) M rest k) :
    G q C all st M ({ dst := some d, op := .binOp .mul t x y yt, type := ty, pos, after, guard := gd } :: rest) k :=
  G.op (OpV.bin hx hy fun w => by subst hm; cases ki <;> rfl) hg rfl hd hq h
theorem G.addK {t : TypeId} {x y : Operand} {yt : TypeId} {ki : IntKind} {a b m : Int} (hx : evS st x = some (.int ki a)) (hy : evS st y = some (.int ki b)) (hm : ki.wrap (a + b) = m) (hg : wnB all st gd = true) (hd : Nat.blt d C.N = true) (hq : q.calm = some q') (h : G q' C all ((d, .int ki m) :: st) M rest k) :
    G q C all st M ({ dst := some d, op := .binOp .add t x y yt, type := ty, pos, after, guard := gd } :: rest) k :=
  G.op (OpV.bin hx hy fun w => by subst hm; cases ki <;> rfl) hg rfl hd hq h
theorem G.subK {t : TypeId} {x y : Operand} {yt : TypeId} {ki : IntKind} {a b m : Int} (hx : evS st x = some (.int ki a)) (hy : evS st y = some (.int ki b)) (hm : ki.wrap (a - b) = m) (hg : wnB all st gd = true) (hd : Nat.blt d C.N = true) (hq : q.calm = some q') (h : G q' C all ((d, .int ki m) :: st) M rest k) :
    G q C all st M ({ dst := some d, op := .binOp .sub t x y yt, type := ty, pos, after, guard := gd } :: rest) k :=
  G.op (OpV.bin hx hy fun w => by subst hm; cases ki <;> rfl) hg rfl hd hq h
theorem G.quoK {t : TypeId} {x y : Operand} {yt : TypeId} {ki : IntKind} {a b m : Int} (hx : evS st x = some (.int ki a)) (hy : evS st y = some (.int ki b)) (hb : b ≠ 0) (hm : ki.wrap (a.tdiv b) = m) (hg : wnB all st gd = true) (hd : Nat.blt d C.N = true) (hq : q.calm = some q') (h : G q' C all ((d, .int ki m) :: st) M rest k) :
    G q C all st M ({ dst := some d, op := .binOp .quo t x y yt, type := ty, pos, after, guard := gd } :: rest) k :=
  G.op (OpV.bin hx hy fun w => by subst hm; simp [binOp, Op.intDiv, hb]) hg rfl hd hq h
theorem G.remK {t : TypeId} {x y : Operand} {yt : TypeId} {ki : IntKind} {a b m : Int} (hx : evS st x = some (.int ki a)) (hy : evS st y = some (.int ki b)) (hb : b ≠ 0) (hm : a.tmod b = m) (hg : wnB all st gd = true) (hd : Nat.blt d C.N = true) (hq : q.calm = some q') (h : G q' C all ((d, .int ki m) :: st) M rest k) :
    G q C all st M ({ dst := some d, op := .binOp .rem t x y yt, type := ty, pos, after, guard := gd } :: rest) k :=
  G.op (OpV.bin hx hy fun w => by subst hm; simp [binOp, Op.intDiv, hb]) hg rfl hd hq h

theorem OpV.bin2 {bop : BinOp} {t : TypeId} {x y : Operand} {yt : TypeId} {k1 k2 : IntKind} {a b : Int} {v : Value} (hb : bop = .shl ∨ bop = .shr) (hx : evS st x = some (.int k1 a)) (hy : evS st y = some (.int k2 b)) (h : ∀ w, (binOp bop t (.int k1 a) (.int k2 b)).run C.P w = .ok v w) :
    OpV C st M (.binOp bop t x y yt) ty v :=
  OpV.of fun ac w hf _ dst pos after guard => by
    have hg : (eqGuard bop t x y (.int k1 a) (.int k2 b)).run C.P w = .ok () w := by
      rcases hb with rfl | rfl <;> rfl
    simp only [execOp, hf.eval hx, hf.eval hy, Sem.run_bind, hg, h, Result.andThen_ok]; rfl
theorem G.shlK {t : TypeId} {x y : Operand} {yt : TypeId} {k1 k2 : IntKind} {a b m : Int} {n : Nat} (hx : evS st x = some (.int k1 a)) (hy : evS st y = some (.int k2 b)) (hn : b = (n : Int)) (hm : k1.wrap (a * 2 ^ (min n k1.bits)) = m) (hg : wnB all st gd = true) (hd : Nat.blt d C.N = true) (hq : q.calm = some q') (h : G q' C all ((d, .int k1 m) :: st) M rest k) :
    G q C all st M ({ dst := some d, op := .binOp .shl t x y yt, type := ty, pos, after, guard := gd } :: rest) k :=
  G.op (OpV.bin2 (.inl rfl) hx hy fun w => by
    subst hm; subst hn
    have : ¬ (n : Int) < 0 := by omega
    simp [binOp, Op.shift, this]) hg rfl hd hq h
theorem G.shrK {t : TypeId} {x y : Operand} {yt : TypeId} {k1 k2 : IntKind} {a b m : Int} {n : Nat} (hx : evS st x = some (.int k1 a)) (hy : evS st y = some (.int k2 b)) (hn : b = (n : Int)) (hm : a.fdiv (2 ^ (min n k1.bits)) = m) (hg : wnB all st gd = true) (hd : Nat.blt d C.N = true) (hq : q.calm = some q') (h : G q' C all ((d, .int k1 m) :: st) M rest k) :
    G q C all st M ({ dst := some d, op := .binOp .shr t x y yt, type := ty, pos, after, guard := gd } :: rest) k :=
  G.op (OpV.bin2 (.inr rfl) hx hy fun w => by
    subst hm; subst hn
    have : ¬ (n : Int) < 0 := by omega
    simp [binOp, Op.shift, this]) hg rfl hd hq h
theorem G.orK {t : TypeId} {x y : Operand} {yt : TypeId} {ki : IntKind} {a b m : Int} (hx : evS st x = some (.int ki a)) (hy : evS st y = some (.int ki b)) (hm : ki.wrap ((BitVec.ofInt ki.bits a ||| BitVec.ofInt ki.bits b).toNat : Int) = m) (hg : wnB all st gd = true) (hd : Nat.blt d C.N = true) (hq : q.calm = some q') (h : G q' C all ((d, .int ki m) :: st) M rest k) :
    G q C all st M ({ dst := some d, op := .binOp .or t x y yt, type := ty, pos, after, guard := gd } :: rest) k :=
  G.op (OpV.bin hx hy fun w => by subst hm; cases ki <;> rfl) hg rfl hd hq h

class TIntK (P : Program) (T : TypeId) (k : outParam IntKind) : Prop where
  h : P.underlying T = some (.int k)
theorem G.convK {S T : TypeId} {x : Operand} {k1 k2 : IntKind} {n m : Int} (hx : evS st x = some (.int k1 n)) [hS : TIntK C.P S k1] [hT : TIntK C.P T k2] (hm : k2.wrap n = m) (hg : wnB all st gd = true) (hd : Nat.blt d C.N = true) (hq : q.calm = some q') (h : G q' C all ((d, .int k2 m) :: st) M rest k) :
    G q C all st M ({ dst := some d, op := .convert S T x, type := ty, pos, after, guard := gd } :: rest) k :=
  G.op (OpV.of fun ac w hf _ dst pos after guard => by
    subst hm
    have h1 : (underlying S).run C.P w = .ok (.int k1) w := by simp [underlying, hS.h]
    have h2 : (underlying T).run C.P w = .ok (.int k2) w := by simp [underlying, hT.h]
    simp [execOp, hf.eval hx, convert, h1, h2, Conv.intToInt]) hg rfl hd hq h

/-- Two cells of a block, as a struct. -/
theorem LdV.p0 {T : TypeId} [hT : TAgg C.P T 2] {b tot : Nat} {e : TypeId} {x y : Value} {r : List Value} (hm : Row.blk b e (x :: y :: r) tot ∈ M) : LdV C M T ⟨b, 0, none⟩ (.agg #[x, y]) :=
  LdV.agg (vs := [x, y]) rfl ⟨CellV.blk hm rfl, CellV.blk hm rfl, trivial⟩
theorem LdV.p2 {T : TypeId} [hT : TAgg C.P T 2] {b tot : Nat} {e : TypeId} {u v x y : Value} {r : List Value} (hm : Row.blk b e (u :: v :: x :: y :: r) tot ∈ M) : LdV C M T ⟨b, 2, none⟩ (.agg #[x, y]) :=
  LdV.agg (vs := [x, y]) rfl ⟨CellV.blk hm rfl, CellV.blk hm rfl, trivial⟩
theorem Sat.rowAt {w0 w : World} {b tot : Nat} {e : TypeId} {cs : List Value} (hw : Sat w0 M w) (hm : Row.blk b e cs tot ∈ M) : RowAt w b 0 cs :=
  ⟨((hw.old _ hm).2 b rfl).2, fun j v hv => by rw [Nat.zero_add]; exact hw.cellBlk hm hv⟩

/-! ### ways that meet again behind a region -/
theorem G.cut {X : Type} (stF : X → List (Nat × Value)) (MF : X → List Row) {l : List Oper} (hk : ∀ x, J C (stF x) (MF x) k) (h : (∀ x, J C (stF x) (MF x) k) → G q C all st M l k) : G q C all st M l k := h hk
theorem J.meet {X : Type} {stF : X → List (Nat × Value)} {MF : X → List Row} (hk : ∀ x, J C (stF x) (MF x) k) (x : X) {M' : List Row} (hs : Sub st (stF x)) (hf : M'.Sublist M) (hp : M'.Perm (MF x)) : J C st M k := J.forget hf (J.perm hp (J.sub hs (hk x)))

/-! ### appends whose result is told in other words -/
theorem G.appendOE {T ty' E bytes size n m c i base : Nat} {z v : Value} {x y : Operand} {a : Option Addr} {xs news cs : List Value} (hg : wnB all st gd = true) (hd : Nat.blt d C.N = true) (hq : q.res = some q')
    (hx : evS st x = some v) (hm : M[i]? = some (.own base v E size n xs)) (hy : evS st y = some (.slice a m c)) [hT : TElem C.P T E z size bytes] (hs : SrcV C M a m size news) (hcs : xs ++ news = cs) (hb : (n + m) * bytes ≤ 140737488355328) (hnm : n + m ≤ 9223372036854775807) (h0 : 0 < n + m)
    (h : ∀ g cap, n + m ≤ cap → G q' C all ((d, .slice (some ⟨g, 0, none⟩) (n + m) cap) :: st) (M.set i (.blk g E cs (cap * size))) rest k) :
    G q C all st M ({ dst := some d, op := .call { callee := .builtin .append, args := #[x, y], argTypes := #[T, T] }, type := ty', pos, after, guard := gd } :: rest) k := by
  subst hcs; exact G.appendO hg hd hq hx hm hy hs hb hnm h0 h
theorem G.appendE {T ty' E bytes size n m c i base : Nat} {z v : Value} {x y : Operand} {a : Option Addr} {xs news cs : List Value} (hg : wnB all st gd = true) (hd : Nat.blt d C.N = true) (hq : q.res = some q')
    (hx : evS st x = some v) (hm : M[i]? = some (.own base v E size n xs)) (hy : evS st y = some (.slice a m c)) [hT : TElem C.P T E z size bytes] (hs : SrcV C M a m size news) (hcs : xs ++ news = cs) (hb : (n + m) * bytes ≤ 140737488355328) (hnm : n + m ≤ 9223372036854775807)
    (h : ∀ v', G q' C all ((d, v') :: st) (M.set i (.own 0 v' E size (n + m) cs)) rest k) :
    G q C all st M ({ dst := some d, op := .call { callee := .builtin .append, args := #[x, y], argTypes := #[T, T] }, type := ty', pos, after, guard := gd } :: rest) k := by
  subst hcs; exact G.append hg hd hq hx hm hy hs hb hnm h
/-- An append to a row that nothing to come leans on. -/
theorem G.appendS {T ty' E bytes size n m c i base : Nat} {z v : Value} {x y : Operand} {M0 : List Row} {a : Option Addr} {xs news cs : List Value} (hg : wnB all st gd = true) (hd : Nat.blt d C.N = true) (hq : q.sto = some (M0, q'))
    (hx : evS st x = some v) (hm : M[i]? = some (.own base v E size n xs)) (hy : evS st y = some (.slice a m c)) [hT : TElem C.P T E z size bytes] (hs : SrcV C M a m size news) (hcs : xs ++ news = cs) (hb : (n + m) * bytes ≤ 140737488355328) (hnm : n + m ≤ 9223372036854775807) (hsub : ∀ v', M0.Sublist (M.set i (.own 0 v' E size (n + m) cs)))
    (h : ∀ v', G q' C all ((d, v') :: st) (M.set i (.own 0 v' E size (n + m) cs)) rest k) :
    G q C all st M ({ dst := some d, op := .call { callee := .builtin .append, args := #[x, y], argTypes := #[T, T] }, type := ty', pos, after, guard := gd } :: rest) k := by
  subst hcs
  refine G.stS hg rfl hq (Eff.val hd fun ac w hf hw => ?_)
  obtain ⟨v', w', h1, h2⟩ := append_run (T := T) (dst := some d) (ty' := ty') (pos := pos) (after := after) (gd := gd) hf hw hx hm hy hs hb hnm
  exact ⟨v', w', _, h1, h2, hsub v', h v'⟩
end Go.Sl
