/-
  The operations, one lemma each, for the small logic of memory.
-/
import Derived.Test.YtjfbdffcgapdlaaAn
namespace Go.Sl
open Go.RowKit

/-! ### types -/
class TPlain (P : Program) (T : TypeId) : Prop where
  h : ∀ w, (isAgg T).run P w = .ok false w
class TAgg (P : Program) (T : TypeId) (n : outParam Nat) : Prop where
  h1 : ∀ w, (isAgg T).run P w = .ok true w
  h2 : ∀ w, (sizeOf T).run P w = .ok n w
class TSize (P : Program) (T : TypeId) (n : outParam Nat) : Prop where
  h : ∀ w, (sizeOf T).run P w = .ok n w
class TSlice (P : Program) (T : TypeId) (E sz : outParam Nat) : Prop where
  h1 : P.underlying T = some (.slice E)
  h2 : ∀ w, (sizeOf E).run P w = .ok sz w
class TString (P : Program) (T : TypeId) : Prop where
  h : P.underlying T = some .string
class TField (P : Program) (T f : Nat) (off : outParam Nat) : Prop where
  h : ∀ a w, (Instr.fieldAt T (.pointer (some a)) f).run P w = .ok (.pointer (some (a.add off))) w
class TZero (P : Program) (T : TypeId) (cs : outParam (List Value)) : Prop where
  h : ∀ w, ∃ z, (zeroValue T).run P w = .ok z w ∧ z.cells = cs.toArray

variable {C : Ctx} {st : List (Nat × Value)} {M : List Row} {k : List Item} {q q' : Md} {all rest : List Oper} {d : Nat} {ty : TypeId} {pos : String} {after : Array Edge} {gd : Option (Nat × Bool)}

theorem OpV.of {opn : Op} {v : Value} (h : ∀ a w, Fits C.N st a → Sat C.w0 M w → ∀ dst pos after guard, (execOp a.eval ⟨dst, opn, ty, pos, after, guard⟩).run C.P w = .ok (.value v) w) : OpV C st M opn ty v :=
  .mk fun a w hf hw dst pos after guard => .inl (h a w hf hw dst pos after guard)

def evF (st : List (Nat × Value)) (x : Operand) : Value := (evS st x).getD undef
def knownB (st : List (Nat × Value)) (opn : Op) : Bool := opn.operands.toList.all fun x => (evS st x).isSome
def noSel (opn : Op) : Bool := match opn with | .select .. => false | _ => true

theorem OpV.eval {opn : Op} {v : Value} (hk : (knownB st opn && noSel opn) = true) (h : ∀ w, (execOp (evF st) ⟨none, opn, ty, "", #[], none⟩).run C.P w = .ok (.value v) w) : OpV C st M opn ty v := by
  rw [Bool.and_eq_true] at hk
  refine OpV.of fun a w hf _ dst pos after guard => ?_
  have e : execOp a.eval ⟨dst, opn, ty, pos, after, guard⟩ = execOp (evF st) ⟨dst, opn, ty, pos, after, guard⟩ := by
    refine execOp_congr _ (fun cs b e => ?_) fun x hx => ?_
    · have := hk.2; simp only at e; subst e; simp [noSel] at this
    · have h1 := List.all_eq_true.1 hk.1 x (by simpa using hx)
      obtain ⟨u, hu⟩ := Option.isSome_iff_exists.1 h1
      rw [hf.eval hu, evF, hu]; rfl
  rw [e]
  have e2 : execOp (evF st) ⟨dst, opn, ty, pos, after, guard⟩ = execOp (evF st) ⟨none, opn, ty, "", #[], none⟩ := by
    cases opn <;> rfl
  rw [e2]; exact h w

theorem OpV.move {x : Operand} {v : Value} (hx : evS st x = some v) : OpV C st M (.move x) ty v :=
  OpV.of fun a w hf _ dst pos after guard => by simp only [execOp, hf.eval hx]; rfl
theorem OpV.assign {x : Operand} {v : Value} (hx : evS st x = some v) : OpV C st M (.assign x) ty v :=
  OpV.of fun a w hf _ dst pos after guard => by simp only [execOp, hf.eval hx]; rfl
theorem OpV.pickT {c x y : Operand} {v : Value} (hc : evS st c = some (.bool true)) (hx : evS st x = some v) : OpV C st M (.pick c x y) ty v :=
  OpV.of fun a w hf _ dst pos after guard => by simp only [execOp, hf.eval hx, hf.eval hc]; rfl
theorem OpV.pickF {c x y : Operand} {v : Value} (hc : evS st c = some (.bool false)) (hy : evS st y = some v) : OpV C st M (.pick c x y) ty v :=
  OpV.of fun a w hf _ dst pos after guard => by simp only [execOp, hf.eval hy, hf.eval hc]; rfl
theorem OpV.not {t : TypeId} {x : Operand} {b : Bool} (hx : evS st x = some (.bool b)) : OpV C st M (.unOp .not t x) ty (.bool (!b)) :=
  OpV.of fun a w hf _ dst pos after guard => by simp only [execOp, hf.eval hx]; rfl
theorem OpV.extract {x : Operand} {i : Nat} {vs : Array Value} {v : Value} (hx : evS st x = some (.tuple vs)) (hv : vs[i]? = some v) : OpV C st M (.extract x i) ty v :=
  OpV.of fun a w hf _ dst pos after guard => by simp only [execOp, hf.eval hx, Instr.extract, hv]; rfl
theorem OpV.makeFunc {fn : Fn} {cap : Array Operand} {vs : Array Value} (hx : ∀ a, Fits C.N st a → cap.map a.eval = vs) : OpV C st M (.makeFunc fn #[] cap) ty (.func fn #[] vs) :=
  OpV.of fun a w hf _ dst pos after guard => by simp [execOp, Instr.makeFunc, hx a hf]

/-! ### numbers -/
theorem wrap_in {x : Int} (h1 : -9223372036854775808 ≤ x) (h2 : x ≤ 9223372036854775807) : IntKind.i64.wrap x = x := IntWalk.i64_in _ ⟨h1, h2⟩

theorem run_bin {P : Program} {w : World} {ρ : Operand → Value} {dst : Option Tmp} {bop : BinOp} {t : TypeId} {x y : Operand} {yt : TypeId} {guard : Option (Nat × Bool)} {ki : IntKind} {a b : Int} {v : Value} (hx : ρ x = .int ki a) (hy : ρ y = .int ki b)
    (h : (binOp bop t (.int ki a) (.int ki b)).run P w = .ok v w) : (execOp ρ ⟨dst, .binOp bop t x y yt, ty, pos, after, guard⟩).run P w = .ok (.value v) w := by
  have hg : (eqGuard bop t x y (.int ki a) (.int ki b)).run P w = .ok () w := by
    cases bop <;> rfl
  simp only [execOp, hx, hy, Sem.run_bind, hg, h, Result.andThen_ok]; rfl

theorem OpV.bin {bop : BinOp} {t : TypeId} {x y : Operand} {yt : TypeId} {ki : IntKind} {a b : Int} {v : Value} (hx : evS st x = some (.int ki a)) (hy : evS st y = some (.int ki b)) (h : ∀ w, (binOp bop t (.int ki a) (.int ki b)).run C.P w = .ok v w) :
    OpV C st M (.binOp bop t x y yt) ty v :=
  OpV.of fun ac w hf _ dst pos after guard => run_bin (hf.eval hx) (hf.eval hy) (h w)

theorem OpV.add {t : TypeId} {x y : Operand} {yt : TypeId} {a b : Int} (hx : evS st x = some (.int .i64 a)) (hy : evS st y = some (.int .i64 b)) (h1 : -9223372036854775808 ≤ a + b) (h2 : a + b ≤ 9223372036854775807) : OpV C st M (.binOp .add t x y yt) ty (.int .i64 (a + b)) :=
  OpV.bin hx hy fun w => by show Result.ok (Value.int .i64 (IntKind.i64.wrap (a + b))) w = _; rw [wrap_in h1 h2]
theorem OpV.sub {t : TypeId} {x y : Operand} {yt : TypeId} {a b : Int} (hx : evS st x = some (.int .i64 a)) (hy : evS st y = some (.int .i64 b)) (h1 : -9223372036854775808 ≤ a - b) (h2 : a - b ≤ 9223372036854775807) : OpV C st M (.binOp .sub t x y yt) ty (.int .i64 (a - b)) :=
  OpV.bin hx hy fun w => by show Result.ok (Value.int .i64 (IntKind.i64.wrap (a - b))) w = _; rw [wrap_in h1 h2]
theorem OpV.mul {t : TypeId} {x y : Operand} {yt : TypeId} {a b : Int} (hx : evS st x = some (.int .i64 a)) (hy : evS st y = some (.int .i64 b)) (h1 : -9223372036854775808 ≤ a * b) (h2 : a * b ≤ 9223372036854775807) : OpV C st M (.binOp .mul t x y yt) ty (.int .i64 (a * b)) :=
  OpV.bin hx hy fun w => by show Result.ok (Value.int .i64 (IntKind.i64.wrap (a * b))) w = _; rw [wrap_in h1 h2]
theorem OpV.lss {t : TypeId} {x y : Operand} {yt : TypeId} {ki : IntKind} {a b : Int} (hx : evS st x = some (.int ki a)) (hy : evS st y = some (.int ki b)) : OpV C st M (.binOp .lss t x y yt) ty (.bool (decide (a < b))) :=
  OpV.bin hx hy fun w => by cases ki <;> rfl
theorem OpV.leq {t : TypeId} {x y : Operand} {yt : TypeId} {ki : IntKind} {a b : Int} (hx : evS st x = some (.int ki a)) (hy : evS st y = some (.int ki b)) : OpV C st M (.binOp .leq t x y yt) ty (.bool (decide (a ≤ b))) :=
  OpV.bin hx hy fun w => by cases ki <;> rfl
theorem OpV.gtr {t : TypeId} {x y : Operand} {yt : TypeId} {ki : IntKind} {a b : Int} (hx : evS st x = some (.int ki a)) (hy : evS st y = some (.int ki b)) : OpV C st M (.binOp .gtr t x y yt) ty (.bool (decide (b < a))) :=
  OpV.bin hx hy fun w => by cases ki <;> rfl
theorem OpV.geq {t : TypeId} {x y : Operand} {yt : TypeId} {ki : IntKind} {a b : Int} (hx : evS st x = some (.int ki a)) (hy : evS st y = some (.int ki b)) : OpV C st M (.binOp .geq t x y yt) ty (.bool (decide (b ≤ a))) :=
  OpV.bin hx hy fun w => by cases ki <;> rfl
theorem OpV.eql {t : TypeId} {x y : Operand} {yt : TypeId} {ki : IntKind} {a b : Int} (hx : evS st x = some (.int ki a)) (hy : evS st y = some (.int ki b)) : OpV C st M (.binOp .eql t x y yt) ty (.bool (decide (a = b))) :=
  OpV.bin hx hy fun w => by cases ki <;> rfl
theorem OpV.neq {t : TypeId} {x y : Operand} {yt : TypeId} {ki : IntKind} {a b : Int} (hx : evS st x = some (.int ki a)) (hy : evS st y = some (.int ki b)) : OpV C st M (.binOp .neq t x y yt) ty (.bool (decide (a ≠ b))) :=
  OpV.bin hx hy fun w => by
    have : (decide (a ≠ b)) = (a != b) := by by_cases h : a = b <;> simp [h]
    rw [this]; cases ki <;> rfl
theorem OpV.neg {t : TypeId} {x : Operand} {a : Int} (hx : evS st x = some (.int .i64 a)) (h1 : -9223372036854775808 ≤ -a) (h2 : -a ≤ 9223372036854775807) : OpV C st M (.unOp .neg t x) ty (.int .i64 (-a)) :=
  OpV.of fun ac w hf _ dst pos after guard => by
    simp only [execOp, hf.eval hx]
    show Result.ok (Next.value (Value.int .i64 (IntKind.i64.wrap (0 - a)))) w = _
    rw [Int.zero_sub, wrap_in h1 h2]

/-! ### addresses and loads -/
def addO (o off : Nat) : Nat := match off with
  | 0 => o
  | n + 1 => o + (n + 1)
theorem addO_eq (o off : Nat) : addO o off = o + off := by cases off <;> rfl
theorem addr_add (b o off : Nat) : (⟨b, o, none⟩ : Addr).add off = ⟨b, addO o off, none⟩ := by
  cases off with
  | zero => rfl
  | succ n => simp [Addr.add, addO]

theorem OpV.fieldAddr {T f off : Nat} [hT : TField C.P T f off] {x : Operand} {b o : Nat} (hx : evS st x = some (.pointer (some ⟨b, o, none⟩))) : OpV C st M (.fieldAddr T x f) ty (.pointer (some ⟨b, addO o off, none⟩)) :=
  OpV.of fun a w hf _ dst pos after guard => by
    simp only [execOp, hf.eval hx, Sem.run_bind, hT.h, Result.andThen_ok, addr_add]; rfl

theorem OpV.indexAddr {T E sz : Nat} [hT : TSlice C.P T E sz] {x y : Operand} {b o n c : Nat} {ki : IntKind} {i : Nat} {e : Int} (hx : evS st x = some (.slice (some ⟨b, o, none⟩) n c)) (hy : evS st y = some (.int ki e)) (he : e = (i : Int)) (hi : i < n) :
    OpV C st M (.indexAddr T x y) ty (.pointer (some ⟨b, o + i * sz, none⟩)) :=
  OpV.of fun a w hf _ dst pos after guard => by
    subst he
    have h0 : (0 : Int) ≤ (i : Int) ∧ (i : Int) < (n : Int) := by omega
    have ha : (⟨b, o, none⟩ : Addr).add (i * sz) = ⟨b, o + i * sz, none⟩ := by rw [addr_add, addO_eq]
    have hu : ∀ w, (underlying T).run C.P w = .ok (.slice E) w := fun w => by simp [underlying, hT.h1]
    simp only [execOp, hf.eval hx, hf.eval hy, Instr.indexAt, asIntOf, Sem.run_bind, Sem.run_pure, Result.andThen_ok, hu]
    rw [if_pos h0]
    simp [hT.h2, ha]

/-- What a load of a type at a place gives. -/
structure LdV (C : Ctx) (M : List Row) (T : TypeId) (p : Addr) (v : Value) : Prop where
  go : ∀ w, Sat C.w0 M w → (loadVar T p).run C.P w = .ok v w
structure CellV (C : Ctx) (M : List Row) (p : Addr) (v : Value) : Prop where
  go : ∀ w, Sat C.w0 M w → w.cell? p = some v

theorem CellV.old {p : Addr} {v : Value} (hc : C.w0.cell? p = some v) (hp : p.block < C.w0.heap.size) : CellV C M p v := .mk fun w hw => hw.cellOld hc hp
theorem CellV.blk {b : Nat} {e : TypeId} {cs : List Value} {n : Nat} (hm : Row.blk b e cs n ∈ M) {j : Nat} {v : Value} (hv : cs[j]? = some v) : CellV C M ⟨b, j, none⟩ v := .mk fun w hw => hw.cellBlk hm hv
def CellsV (C : Ctx) (M : List Row) (b o : Nat) : List Value → Prop
  | [] => True
  | v :: vs => CellV C M ⟨b, o, none⟩ v ∧ CellsV C M b (o + 1) vs

theorem CellsV.get {b : Nat} : ∀ {vs : List Value} {o : Nat}, CellsV C M b o vs → ∀ j v, vs[j]? = some v → CellV C M ⟨b, o + j, none⟩ v
  | [], _, _, j, v, h => by simp at h
  | u :: us, o, hc, 0, v, h => by simp at h; subst h; exact hc.1
  | u :: us, o, hc, j + 1, v, h => by
    have := CellsV.get hc.2 j v (by simpa using h)
    rwa [Nat.add_assoc, Nat.add_comm 1 j] at this

theorem LdV.one {T : TypeId} [hT : TPlain C.P T] {p : Addr} {v : Value} (h : CellV C M p v) : LdV C M T p v := .mk fun w hw => by
  simp [loadVar, hT.h, h.go w hw]
theorem LdV.agg {T n : TypeId} [hT : TAgg C.P T n] {b o : Nat} {vs : List Value} (hl : vs.length = n) (h : CellsV C M b o vs) : LdV C M T ⟨b, o, none⟩ (.agg vs.toArray) := .mk fun w hw => by
  have := run_loadCells_list (P := C.P) w ⟨b, o, none⟩ vs fun j v hv => by
    rw [addr_add, addO_eq]; exact (h.get j v hv).go w hw
  rw [hl] at this
  simp [loadVar, hT.h1, hT.h2, this]

theorem OpV.load {T : TypeId} {x : Operand} {p : Addr} {v : Value} (hx : evS st x = some (.pointer (some p))) (h : LdV C M T p v) : OpV C st M (.load T x) ty v :=
  OpV.of fun a w hf hw dst pos after guard => by
    simp only [execOp, hf.eval hx, Instr.loadAt, Instr.sureAddr, Sem.run_bind, Sem.run_pure, Result.andThen_ok, h.go w hw]

/-! ### lengths -/
theorem OpV.lenSlice {T E sz : TypeId} [hT : TSlice C.P T E sz] {x : Operand} {a : Option Addr} {n c : Nat} (hx : evS st x = some (.slice a n c)) : OpV C st M (.call { callee := .builtin .len, args := #[x], argTypes := #[T] }) ty (.int .i64 n) :=
  OpV.of fun ac w hf _ dst pos after guard => by
    have hu : ∀ w, (underlying T).run C.P w = .ok (.slice E) w := fun w => by simp [underlying, hT.h1]
    simp [execOp, resolve, hf.eval hx, invoke, builtin, Builtin.len_, hu, goInt]
theorem OpV.lenString {T : TypeId} [hT : TString C.P T] {x : Operand} {s : ByteArray} (hx : evS st x = some (.string s)) : OpV C st M (.call { callee := .builtin .len, args := #[x], argTypes := #[T] }) ty (.int .i64 s.size) :=
  OpV.of fun ac w hf _ dst pos after guard => by
    have hu : ∀ w, (underlying T).run C.P w = .ok .string w := fun w => by simp [underlying, hT.h]
    simp [execOp, resolve, hf.eval hx, invoke, builtin, Builtin.len_, hu, goInt]

/-! ### calls -/
def evL (st : List (Nat × Value)) : List Operand → Option (List Value)
  | [] => some []
  | x :: r => match evS st x, evL st r with
    | some v, some vs => some (v :: vs)
    | _, _ => none
theorem Fits.evals {N : Nat} {a : Act} (h : Fits N st a) : ∀ {xs : List Operand} {vs : List Value}, evL st xs = some vs → xs.map a.eval = vs
  | [], vs, e => by simp [evL] at e; simp [← e]
  | x :: r, vs, e => by
    simp only [evL] at e
    split at e
    · rename_i v us hv hus
      cases e
      simp [h.eval hv, h.evals hus]
    · cases e

/-- A function of the program's, with a body. -/
class Fun (P : Program) (g : FuncId) : Prop where
  h : ∀ args w, (callFunc g args).run P w = .ok (.enter g args) w

theorem run_call {P : Program} {w : World} {g : FuncId} [hF : Fun P g] {a : Act} {f : Operand} {args : List Operand} {cap : Array Value} {vs : List Value} {at_ : Array TypeId} {dst : Option Tmp} {guard : Option (Nat × Bool)}
    (hf : a.eval f = .func (.func g) #[] cap) (ha : args.map a.eval = vs) : (execOp a.eval ⟨dst, .call { callee := .value f, args := args.toArray, argTypes := at_ }, ty, pos, after, guard⟩).run P w = .ok (.enter g (vs.toArray ++ cap)) w := by
  subst ha
  simp [execOp, resolve, hf, Deferred.ofValue, invoke, hF.h]

theorem OpV.call {g : FuncId} [hF : Fun C.P g] {f : Operand} {args : List Operand} {cap : Array Value} {vs : List Value} {at_ : Array TypeId} {v : Value} (hf : evS st f = some (.func (.func g) #[] cap)) (ha : evL st args = some vs)
    (hc : ∀ w, Sat C.w0 M w → Calls C.P g (vs.toArray ++ cap) w fun e w' => e = .returned v ∧ Below w.heap.size w w') : OpV C st M (.call { callee := .value f, args := args.toArray, argTypes := at_ }) ty v :=
  .mk fun a w hfit hw dst pos after guard => .inr ⟨g, _, run_call (hfit.eval hf) (hfit.evals ha), (hc w hw).mono fun e w' hh => hh⟩

/-- A call of a function by its name. -/
theorem OpV.call0 {g : FuncId} [hF : Fun C.P g] {args : List Operand} {vs : List Value} {at_ : Array TypeId} {v : Value} (ha : evL st args = some vs)
    (hc : ∀ w, Sat C.w0 M w → Calls C.P g vs.toArray w fun e w' => e = .returned v ∧ Below w.heap.size w w') : OpV C st M (.call { callee := .value (.func g), args := args.toArray, argTypes := at_ }) ty v :=
  OpV.call (cap := #[]) rfl ha fun w hw => by simpa using hc w hw

/-! ### two numbers compared at once -/
class TEq2 (P : Program) (T : TypeId) : Prop where
  h : ∀ a b c d w, (Op.equal T (.agg #[.int .i64 a, .int .i64 b]) (.agg #[.int .i64 c, .int .i64 d])).run P w = .ok (decide (a = c ∧ b = d)) w
  g : P.eqGuardType P.depth T = false

theorem run_guard2 {P : Program} {T : TypeId} [hT : TEq2 P T] (bop : BinOp) (x y : Operand) (xs ys : Array Value) (w : World) : (eqGuard bop T x y (.agg xs) (.agg ys)).run P w = .ok () w := run_eqGuard_agg w bop T x y xs ys hT.g

theorem OpV.eql2 {T : TypeId} [hT : TEq2 C.P T] {x y : Operand} {yt : TypeId} {a b c d : Int} (hx : evS st x = some (.agg #[.int .i64 a, .int .i64 b])) (hy : evS st y = some (.agg #[.int .i64 c, .int .i64 d])) : OpV C st M (.binOp .eql T x y yt) ty (.bool (decide (a = c ∧ b = d))) :=
  OpV.of fun ac w hf _ dst pos after guard => by
    have e : (binOp .eql T (.agg #[.int .i64 a, .int .i64 b]) (.agg #[.int .i64 c, .int .i64 d])).run C.P w = .ok (.bool (decide (a = c ∧ b = d))) w := by
      show ((Op.equal T _ _).bind fun b => Sem.pure (Value.bool b)).run C.P w = _
      rw [Sem.run_bind', hT.h]; rfl
    simp only [execOp, hf.eval hx, hf.eval hy, Sem.run_bind, run_guard2, e, Result.andThen_ok]; rfl
theorem OpV.neq2 {T : TypeId} [hT : TEq2 C.P T] {x y : Operand} {yt : TypeId} {a b c d : Int} (hx : evS st x = some (.agg #[.int .i64 a, .int .i64 b])) (hy : evS st y = some (.agg #[.int .i64 c, .int .i64 d])) : OpV C st M (.binOp .neq T x y yt) ty (.bool (decide (¬ (a = c ∧ b = d)))) :=
  OpV.of fun ac w hf _ dst pos after guard => by
    have e : (binOp .neq T (.agg #[.int .i64 a, .int .i64 b]) (.agg #[.int .i64 c, .int .i64 d])).run C.P w = .ok (.bool (decide (¬ (a = c ∧ b = d)))) w := by
      show ((Op.equal T _ _).bind fun b => Sem.pure (Value.bool (!b))).run C.P w = _
      rw [Sem.run_bind', hT.h, decide_not]; rfl
    simp only [execOp, hf.eval hx, hf.eval hy, Sem.run_bind, run_guard2, e, Result.andThen_ok]; rfl

end Go.Sl
