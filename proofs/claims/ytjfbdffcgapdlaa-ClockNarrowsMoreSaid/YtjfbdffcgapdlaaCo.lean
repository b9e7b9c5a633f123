/-
  One lemma for each operation, on the rest of a region.
-/
import Derived.Test.YtjfbdffcgapdlaaEf
namespace Go.Sl
open Go.RowKit

variable {C : Ctx} {st : List (Nat × Value)} {M : List Row} {k : List Item} {q q' : Md} {all rest : List Oper} {d : Nat} {ty : TypeId} {pos : String} {after : Array Edge} {gd : Option (Nat × Bool)}


theorem G.move {x : Operand} {v : Value} (hx : evS st x = some v) (hg : wnB all st gd = true) (hd : Nat.blt d C.N = true) (hq : q.calm = some q') (h : G q' C all ((d, v) :: st) M rest k) :
    G q C all st M ({ dst := some d, op := .move x, type := ty, pos, after, guard := gd } :: rest) k := G.op (OpV.move hx) hg rfl hd hq h

theorem G.assign {x : Operand} {v : Value} (hx : evS st x = some v) (hg : wnB all st gd = true) (hd : Nat.blt d C.N = true) (hq : q.calm = some q') (h : G q' C all ((d, v) :: st) M rest k) :
    G q C all st M ({ dst := some d, op := .assign x, type := ty, pos, after, guard := gd } :: rest) k := G.op (OpV.assign hx) hg rfl hd hq h

theorem G.pickT {c x y : Operand} {v : Value} (hc : evS st c = some (.bool true)) (hx : evS st x = some v) (hg : wnB all st gd = true) (hd : Nat.blt d C.N = true) (hq : q.calm = some q') (h : G q' C all ((d, v) :: st) M rest k) :
    G q C all st M ({ dst := some d, op := .pick c x y, type := ty, pos, after, guard := gd } :: rest) k := G.op (OpV.pickT hc hx) hg rfl hd hq h

theorem G.pickF {c x y : Operand} {v : Value} (hc : evS st c = some (.bool false)) (hy : evS st y = some v) (hg : wnB all st gd = true) (hd : Nat.blt d C.N = true) (hq : q.calm = some q') (h : G q' C all ((d, v) :: st) M rest k) :
    G q C all st M ({ dst := some d, op := .pick c x y, type := ty, pos, after, guard := gd } :: rest) k := G.op (OpV.pickF hc hy) hg rfl hd hq h

theorem G.not {t : TypeId} {x : Operand} {b : Bool} (hx : evS st x = some (.bool b)) (hg : wnB all st gd = true) (hd : Nat.blt d C.N = true) (hq : q.calm = some q') (h : G q' C all ((d, .bool (!b)) :: st) M rest k) :
    G q C all st M ({ dst := some d, op := .unOp .not t x, type := ty, pos, after, guard := gd } :: rest) k := G.op (OpV.not hx) hg rfl hd hq h

theorem G.notT {t : TypeId} {x : Operand} (hx : evS st x = some (.bool true)) (hg : wnB all st gd = true) (hd : Nat.blt d C.N = true) (hq : q.calm = some q') (h : G q' C all ((d, .bool false) :: st) M rest k) :
    G q C all st M ({ dst := some d, op := .unOp .not t x, type := ty, pos, after, guard := gd } :: rest) k := G.op (OpV.not (b := true) hx) hg rfl hd hq h

theorem G.notF {t : TypeId} {x : Operand} (hx : evS st x = some (.bool false)) (hg : wnB all st gd = true) (hd : Nat.blt d C.N = true) (hq : q.calm = some q') (h : G q' C all ((d, .bool true) :: st) M rest k) :
    G q C all st M ({ dst := some d, op := .unOp .not t x, type := ty, pos, after, guard := gd } :: rest) k := G.op (OpV.not (b := false) hx) hg rfl hd hq h

theorem G.extract {x : Operand} {i : Nat} {vs : Array Value} {v : Value} (hx : evS st x = some (.tuple vs)) (hv : vs[i]? = some v) (hg : wnB all st gd = true) (hd : Nat.blt d C.N = true) (hq : q.calm = some q') (h : G q' C all ((d, v) :: st) M rest k) :
    G q C all st M ({ dst := some d, op := .extract x i, type := ty, pos, after, guard := gd } :: rest) k := G.op (OpV.extract hx hv) hg rfl hd hq h

theorem G.fieldAddr {T f off : Nat} {x : Operand} {b o : Nat} (hx : evS st x = some (.pointer (some ⟨b, o, none⟩))) [hT : TField C.P T f off] (hg : wnB all st gd = true) (hd : Nat.blt d C.N = true) (hq : q.calm = some q') (h : G q' C all ((d, .pointer (some ⟨b, addO o off, none⟩)) :: st) M rest k) :
    G q C all st M ({ dst := some d, op := .fieldAddr T x f, type := ty, pos, after, guard := gd } :: rest) k := G.op (OpV.fieldAddr hx) hg rfl hd hq h

theorem G.indexAddr {T E sz : Nat} {x y : Operand} {b o n c : Nat} {ki : IntKind} {i : Nat} {e : Int} (hx : evS st x = some (.slice (some ⟨b, o, none⟩) n c)) (hy : evS st y = some (.int ki e)) (he : e = (i : Int)) (hi : i < n) [hT : TSlice C.P T E sz] (hg : wnB all st gd = true) (hd : Nat.blt d C.N = true) (hq : q.calm = some q') (h : G q' C all ((d, .pointer (some ⟨b, o + i * sz, none⟩)) :: st) M rest k) :
    G q C all st M ({ dst := some d, op := .indexAddr T x y, type := ty, pos, after, guard := gd } :: rest) k := G.op (OpV.indexAddr hx hy he hi) hg rfl hd hq h

theorem G.load {T : TypeId} {x : Operand} {p : Addr} {v : Value} (hx : evS st x = some (.pointer (some p))) (hl : LdV C (q.cls M) T p v) (hg : wnB all st gd = true) (hd : Nat.blt d C.N = true) (hq : q.calm = some q') (h : G q' C all ((d, v) :: st) M rest k) :
    G q C all st M ({ dst := some d, op := .load T x, type := ty, pos, after, guard := gd } :: rest) k := G.op (OpV.load hx hl) hg rfl hd hq h

theorem G.lenSlice {T E sz : TypeId} {x : Operand} {a : Option Addr} {n c : Nat} (hx : evS st x = some (.slice a n c)) [hT : TSlice C.P T E sz] (hg : wnB all st gd = true) (hd : Nat.blt d C.N = true) (hq : q.calm = some q') (h : G q' C all ((d, .int .i64 n) :: st) M rest k) :
    G q C all st M ({ dst := some d, op := .call { callee := .builtin .len, args := #[x], argTypes := #[T] }, type := ty, pos, after, guard := gd } :: rest) k := G.op (OpV.lenSlice hx) hg rfl hd hq h

theorem G.lenString {T : TypeId} {x : Operand} {s : ByteArray} (hx : evS st x = some (.string s)) [hT : TString C.P T] (hg : wnB all st gd = true) (hd : Nat.blt d C.N = true) (hq : q.calm = some q') (h : G q' C all ((d, .int .i64 s.size) :: st) M rest k) :
    G q C all st M ({ dst := some d, op := .call { callee := .builtin .len, args := #[x], argTypes := #[T] }, type := ty, pos, after, guard := gd } :: rest) k := G.op (OpV.lenString hx) hg rfl hd hq h

theorem G.build {T : TypeId} {zero : List Value} {place : List (Nat × Nat)} {parts : List (Nat × Operand)} {vs : List (Nat × Value)} {out : List Value} (hp : Sl.evP st parts = some vs) [hT : TBuild C.P T zero place] (ho : fillL place zero vs = some out) (hg : wnB all st gd = true) (hd : Nat.blt d C.N = true) (hq : q.calm = some q') (h : G q' C all ((d, .agg out.toArray) :: st) M rest k) :
    G q C all st M ({ dst := some d, op := .build T parts.toArray, type := ty, pos, after, guard := gd } :: rest) k := G.op (OpV.build hp ho) hg rfl hd hq h

theorem G.add {t : TypeId} {x y : Operand} {yt : TypeId} {a b : Int} (hx : evS st x = some (.int .i64 a)) (hy : evS st y = some (.int .i64 b)) (h1 : -9223372036854775808 ≤ a + b) (h2 : a + b ≤ 9223372036854775807) (hg : wnB all st gd = true) (hd : Nat.blt d C.N = true) (hq : q.calm = some q') (h : G q' C all ((d, .int .i64 (a + b)) :: st) M rest k) :
    G q C all st M ({ dst := some d, op := .binOp .add t x y yt, type := ty, pos, after, guard := gd } :: rest) k := G.op (OpV.add hx hy h1 h2) hg rfl hd hq h

theorem G.sub {t : TypeId} {x y : Operand} {yt : TypeId} {a b : Int} (hx : evS st x = some (.int .i64 a)) (hy : evS st y = some (.int .i64 b)) (h1 : -9223372036854775808 ≤ a - b) (h2 : a - b ≤ 9223372036854775807) (hg : wnB all st gd = true) (hd : Nat.blt d C.N = true) (hq : q.calm = some q') (h : G q' C all ((d, .int .i64 (a - b)) :: st) M rest k) :
    G q C all st M ({ dst := some d, op := .binOp .sub t x y yt, type := ty, pos, after, guard := gd } :: rest) k := G.op (OpV.sub hx hy h1 h2) hg rfl hd hq h

theorem G.mul {t : TypeId} {x y : Operand} {yt : TypeId} {a b : Int} (hx : evS st x = some (.int .i64 a)) (hy : evS st y = some (.int .i64 b)) (h1 : -9223372036854775808 ≤ a * b) (h2 : a * b ≤ 9223372036854775807) (hg : wnB all st gd = true) (hd : Nat.blt d C.N = true) (hq : q.calm = some q') (h : G q' C all ((d, .int .i64 (a * b)) :: st) M rest k) :
    G q C all st M ({ dst := some d, op := .binOp .mul t x y yt, type := ty, pos, after, guard := gd } :: rest) k := G.op (OpV.mul hx hy h1 h2) hg rfl hd hq h

theorem G.addW {t : TypeId} {x y : Operand} {yt : TypeId} {ki : IntKind} {a b : Int} (hx : evS st x = some (.int ki a)) (hy : evS st y = some (.int ki b)) (hg : wnB all st gd = true) (hd : Nat.blt d C.N = true) (hq : q.calm = some q') (h : G q' C all ((d, .int ki (ki.wrap (a + b))) :: st) M rest k) :
    G q C all st M ({ dst := some d, op := .binOp .add t x y yt, type := ty, pos, after, guard := gd } :: rest) k := G.op (OpV.bin hx hy fun w => by cases ki <;> rfl) hg rfl hd hq h

theorem G.subW {t : TypeId} {x y : Operand} {yt : TypeId} {ki : IntKind} {a b : Int} (hx : evS st x = some (.int ki a)) (hy : evS st y = some (.int ki b)) (hg : wnB all st gd = true) (hd : Nat.blt d C.N = true) (hq : q.calm = some q') (h : G q' C all ((d, .int ki (ki.wrap (a - b))) :: st) M rest k) :
    G q C all st M ({ dst := some d, op := .binOp .sub t x y yt, type := ty, pos, after, guard := gd } :: rest) k := G.op (OpV.bin hx hy fun w => by cases ki <;> rfl) hg rfl hd hq h

theorem G.mulW {t : TypeId} {x y : Operand} {yt : TypeId} {ki : IntKind} {a b : Int} (hx : evS st x = some (.int ki a)) (hy : evS st y = some (.int ki b)) (hg : wnB all st gd = true) (hd : Nat.blt d C.N = true) (hq : q.calm = some q') (h : G q' C all ((d, .int ki (ki.wrap (a * b))) :: st) M rest k) :
    G q C all st M ({ dst := some d, op := .binOp .mul t x y yt, type := ty, pos, after, guard := gd } :: rest) k := G.op (OpV.bin hx hy fun w => by cases ki <;> rfl) hg rfl hd hq h

theorem G.neg {t : TypeId} {x : Operand} {a : Int} (hx : evS st x = some (.int .i64 a)) (h1 : -9223372036854775808 ≤ -a) (h2 : -a ≤ 9223372036854775807) (hg : wnB all st gd = true) (hd : Nat.blt d C.N = true) (hq : q.calm = some q') (h : G q' C all ((d, .int .i64 (-a)) :: st) M rest k) :
    G q C all st M ({ dst := some d, op := .unOp .neg t x, type := ty, pos, after, guard := gd } :: rest) k := G.op (OpV.neg hx h1 h2) hg rfl hd hq h

theorem G.lss {t : TypeId} {x y : Operand} {yt : TypeId} {ki : IntKind} {a b : Int} (hx : evS st x = some (.int ki a)) (hy : evS st y = some (.int ki b)) (hg : wnB all st gd = true) (hd : Nat.blt d C.N = true) (hq : q.calm = some q') (h1 : a < b → G q' C all ((d, .bool true) :: st) M rest k) (h2 : ¬ (a < b) → G q' C all ((d, .bool false) :: st) M rest k) :
    G q C all st M ({ dst := some d, op := .binOp .lss t x y yt, type := ty, pos, after, guard := gd } :: rest) k := G.opDec (OpV.lss hx hy) hg rfl hd hq h1 h2

theorem G.leq {t : TypeId} {x y : Operand} {yt : TypeId} {ki : IntKind} {a b : Int} (hx : evS st x = some (.int ki a)) (hy : evS st y = some (.int ki b)) (hg : wnB all st gd = true) (hd : Nat.blt d C.N = true) (hq : q.calm = some q') (h1 : a ≤ b → G q' C all ((d, .bool true) :: st) M rest k) (h2 : ¬ (a ≤ b) → G q' C all ((d, .bool false) :: st) M rest k) :
    G q C all st M ({ dst := some d, op := .binOp .leq t x y yt, type := ty, pos, after, guard := gd } :: rest) k := G.opDec (OpV.leq hx hy) hg rfl hd hq h1 h2

theorem G.gtr {t : TypeId} {x y : Operand} {yt : TypeId} {ki : IntKind} {a b : Int} (hx : evS st x = some (.int ki a)) (hy : evS st y = some (.int ki b)) (hg : wnB all st gd = true) (hd : Nat.blt d C.N = true) (hq : q.calm = some q') (h1 : b < a → G q' C all ((d, .bool true) :: st) M rest k) (h2 : ¬ (b < a) → G q' C all ((d, .bool false) :: st) M rest k) :
    G q C all st M ({ dst := some d, op := .binOp .gtr t x y yt, type := ty, pos, after, guard := gd } :: rest) k := G.opDec (OpV.gtr hx hy) hg rfl hd hq h1 h2

theorem G.geq {t : TypeId} {x y : Operand} {yt : TypeId} {ki : IntKind} {a b : Int} (hx : evS st x = some (.int ki a)) (hy : evS st y = some (.int ki b)) (hg : wnB all st gd = true) (hd : Nat.blt d C.N = true) (hq : q.calm = some q') (h1 : b ≤ a → G q' C all ((d, .bool true) :: st) M rest k) (h2 : ¬ (b ≤ a) → G q' C all ((d, .bool false) :: st) M rest k) :
    G q C all st M ({ dst := some d, op := .binOp .geq t x y yt, type := ty, pos, after, guard := gd } :: rest) k := G.opDec (OpV.geq hx hy) hg rfl hd hq h1 h2

theorem G.eql {t : TypeId} {x y : Operand} {yt : TypeId} {ki : IntKind} {a b : Int} (hx : evS st x = some (.int ki a)) (hy : evS st y = some (.int ki b)) (hg : wnB all st gd = true) (hd : Nat.blt d C.N = true) (hq : q.calm = some q') (h1 : a = b → G q' C all ((d, .bool true) :: st) M rest k) (h2 : ¬ (a = b) → G q' C all ((d, .bool false) :: st) M rest k) :
    G q C all st M ({ dst := some d, op := .binOp .eql t x y yt, type := ty, pos, after, guard := gd } :: rest) k := G.opDec (OpV.eql hx hy) hg rfl hd hq h1 h2

theorem G.neq {t : TypeId} {x y : Operand} {yt : TypeId} {ki : IntKind} {a b : Int} (hx : evS st x = some (.int ki a)) (hy : evS st y = some (.int ki b)) (hg : wnB all st gd = true) (hd : Nat.blt d C.N = true) (hq : q.calm = some q') (h1 : a ≠ b → G q' C all ((d, .bool true) :: st) M rest k) (h2 : ¬ (a ≠ b) → G q' C all ((d, .bool false) :: st) M rest k) :
    G q C all st M ({ dst := some d, op := .binOp .neq t x y yt, type := ty, pos, after, guard := gd } :: rest) k := G.opDec (OpV.neq hx hy) hg rfl hd hq h1 h2

theorem G.eql2 {T : TypeId} {x y : Operand} {yt : TypeId} {a b c e : Int} (hx : evS st x = some (.agg #[.int .i64 a, .int .i64 b])) (hy : evS st y = some (.agg #[.int .i64 c, .int .i64 e])) [hT : TEq2 C.P T] (hg : wnB all st gd = true) (hd : Nat.blt d C.N = true) (hq : q.calm = some q') (h1 : a = c ∧ b = e → G q' C all ((d, .bool true) :: st) M rest k) (h2 : ¬ (a = c ∧ b = e) → G q' C all ((d, .bool false) :: st) M rest k) :
    G q C all st M ({ dst := some d, op := .binOp .eql T x y yt, type := ty, pos, after, guard := gd } :: rest) k := G.opDec (OpV.eql2 hx hy) hg rfl hd hq h1 h2

theorem G.neq2 {T : TypeId} {x y : Operand} {yt : TypeId} {a b c e : Int} (hx : evS st x = some (.agg #[.int .i64 a, .int .i64 b])) (hy : evS st y = some (.agg #[.int .i64 c, .int .i64 e])) [hT : TEq2 C.P T] (hg : wnB all st gd = true) (hd : Nat.blt d C.N = true) (hq : q.calm = some q') (h1 : ¬ (a = c ∧ b = e) → G q' C all ((d, .bool true) :: st) M rest k) (h2 : ¬ (¬ (a = c ∧ b = e)) → G q' C all ((d, .bool false) :: st) M rest k) :
    G q C all st M ({ dst := some d, op := .binOp .neq T x y yt, type := ty, pos, after, guard := gd } :: rest) k := G.opDec (OpV.neq2 hx hy) hg rfl hd hq h1 h2

/-- The greater and the lesser of two numbers. -/
theorem G.max2 {ts : Array TypeId} {x y : Operand} {ki : IntKind} {a b : Int} (hx : evS st x = some (.int ki a)) (hy : evS st y = some (.int ki b)) (hg : wnB all st gd = true) (hd : Nat.blt d C.N = true) (hq : q.calm = some q') (h : G q' C all ((d, .int ki (Max.max a b)) :: st) M rest k) :
    G q C all st M ({ dst := some d, op := .call { callee := .builtin .max, args := #[x, y], argTypes := ts }, type := ty, pos, after, guard := gd } :: rest) k :=
  G.op (OpV.of fun ac w hf _ dst pos after guard => by
    have : (if b > a then b else a) = Max.max a b := by split <;> omega
    simp [execOp, resolve, hf.eval hx, hf.eval hy, invoke, builtin, run_max_int2, this]) hg rfl hd hq h
theorem G.min2 {ts : Array TypeId} {x y : Operand} {ki : IntKind} {a b : Int} (hx : evS st x = some (.int ki a)) (hy : evS st y = some (.int ki b)) (hg : wnB all st gd = true) (hd : Nat.blt d C.N = true) (hq : q.calm = some q') (h : G q' C all ((d, .int ki (Min.min a b)) :: st) M rest k) :
    G q C all st M ({ dst := some d, op := .call { callee := .builtin .min, args := #[x, y], argTypes := ts }, type := ty, pos, after, guard := gd } :: rest) k :=
  G.op (OpV.of fun ac w hf _ dst pos after guard => by
    have : (if b < a then b else a) = Min.min a b := by split <;> omega
    simp [execOp, resolve, hf.eval hx, hf.eval hy, invoke, builtin, run_min_int2, this]) hg rfl hd hq h

/-- A call of a function by its name; its result is known. -/
theorem G.callV {g : FuncId} {args : List Operand} {vs : List Value} {at_ : Array TypeId} {v : Value} (ha : evL st args = some vs) (hg : wnB all st gd = true) (hd : Nat.blt d C.N = true) (hq : q.calm = some q') [hF : Fun C.P g]
    (hc : ∀ w, Sat C.w0 (q.cls M) w → Calls C.P g vs.toArray w fun e w' => e = .returned v ∧ Below w.heap.size w w') (h : G q' C all ((d, v) :: st) M rest k) :
    G q C all st M ({ dst := some d, op := .call { callee := .value (.func g), args := args.toArray, argTypes := at_ }, type := ty, pos, after, guard := gd } :: rest) k := G.op (OpV.call0 ha hc) hg rfl hd hq h
theorem G.callB {g : FuncId} {args : List Operand} {vs : List Value} {at_ : Array TypeId} {b : Bool} (ha : evL st args = some vs) (hg : wnB all st gd = true) (hd : Nat.blt d C.N = true) (hq : q.calm = some q') [hF : Fun C.P g]
    (hc : ∀ w, Sat C.w0 (q.cls M) w → Calls C.P g vs.toArray w fun e w' => e = .returned (.bool b) ∧ Below w.heap.size w w') (h1 : b = true → G q' C all ((d, .bool true) :: st) M rest k) (h2 : b = false → G q' C all ((d, .bool false) :: st) M rest k) :
    G q C all st M ({ dst := some d, op := .call { callee := .value (.func g), args := args.toArray, argTypes := at_ }, type := ty, pos, after, guard := gd } :: rest) k := G.opBool (OpV.call0 ha hc) hg rfl hd hq h1 h2

/-- A call of a function value that is known. -/
theorem G.callVf {g : FuncId} {f : Operand} {cap : Array Value} {args : List Operand} {vs : List Value} {at_ : Array TypeId} {v : Value} (hf : evS st f = some (.func (.func g) #[] cap)) (ha : evL st args = some vs) (hg : wnB all st gd = true) (hd : Nat.blt d C.N = true) (hq : q.calm = some q') [hF : Fun C.P g]
    (hc : ∀ w, Sat C.w0 (q.cls M) w → Calls C.P g (vs.toArray ++ cap) w fun e w' => e = .returned v ∧ Below w.heap.size w w') (h : G q' C all ((d, v) :: st) M rest k) :
    G q C all st M ({ dst := some d, op := .call { callee := .value f, args := args.toArray, argTypes := at_ }, type := ty, pos, after, guard := gd } :: rest) k := G.op (OpV.call hf ha hc) hg rfl hd hq h
theorem G.callBf {g : FuncId} {f : Operand} {cap : Array Value} {args : List Operand} {vs : List Value} {at_ : Array TypeId} {b : Bool} (hf : evS st f = some (.func (.func g) #[] cap)) (ha : evL st args = some vs) (hg : wnB all st gd = true) (hd : Nat.blt d C.N = true) (hq : q.calm = some q') [hF : Fun C.P g]
    (hc : ∀ w, Sat C.w0 (q.cls M) w → Calls C.P g (vs.toArray ++ cap) w fun e w' => e = .returned (.bool b) ∧ Below w.heap.size w w') (h1 : b = true → G q' C all ((d, .bool true) :: st) M rest k) (h2 : b = false → G q' C all ((d, .bool false) :: st) M rest k) :
    G q C all st M ({ dst := some d, op := .call { callee := .value f, args := args.toArray, argTypes := at_ }, type := ty, pos, after, guard := gd } :: rest) k := G.opBool (OpV.call hf ha hc) hg rfl hd hq h1 h2

end Go.Sl
