/-
  One lemma for all operations that ask nothing of memory or of types; short forms of the others.
-/
import Derived.Test.YthkdfpbjkpgckaaGreatDoorM2
import Derived.Test.YthkdfpbjkpgckaaGreatDoorProg
set_option linter.unusedVariables false
set_option linter.unusedSimpArgs false
set_option linter.unusedSectionVars false
namespace Go.Sl
open Go.RowKit
variable {C : Ctx} {st : List (Nat × Value)} {M : List Row} {k : List Item} {q q' : Md} {all rest : List Oper} {d : Nat} {opn : Op} {ty : TypeId} {pos : String} {after : Array Edge} {gd : Option (Nat × Bool)}
def sideB (all : List Oper) (st : List (Nat × Value)) (gd : Option (Nat × Bool)) (d N : Nat) (q : Option Md) : Option Md :=
  match wnB all st gd with
  | true => match Nat.blt d N with
    | true => q
    | false => none
  | false => none
theorem sideB_ok {N : Nat} {qo : Option Md} (h : sideB all st gd d N qo = some q') : wnB all st gd = true ∧ Nat.blt d N = true ∧ qo = some q' := by
  unfold sideB at h
  split at h
  · rename_i h1
    split at h
    · rename_i h2; exact ⟨h1, h2, h⟩
    · cases h
  · cases h
/-- A number in its range. -/
def inK (k : IntKind) (r : Int) : Option (Prop × Value) :=
  match k with
  | .i8 => some (-128 ≤ r ∧ r ≤ 127, .int .i8 r)
  | .i16 => some (-32768 ≤ r ∧ r ≤ 32767, .int .i16 r)
  | .i32 => some (-2147483648 ≤ r ∧ r ≤ 2147483647, .int .i32 r)
  | .i64 => some (-9223372036854775808 ≤ r ∧ r ≤ 9223372036854775807, .int .i64 r)
  | .u8 => some (0 ≤ r ∧ r ≤ 255, .int .u8 r)
  | .u16 => some (0 ≤ r ∧ r ≤ 65535, .int .u16 r)
  | .u32 => some (0 ≤ r ∧ r ≤ 4294967295, .int .u32 r)
  | .u64 => some (0 ≤ r ∧ r ≤ 18446744073709551615, .int .u64 r)
theorem inK_ok {k : IntKind} {r : Int} {c : Prop} {v : Value} (h : inK k r = some (c, v)) (hc : c) : v = .int k r ∧ k.wrap r = r := by
  cases k <;> (simp only [inK, Option.some.injEq, Prod.mk.injEq] at h; obtain ⟨rfl, rfl⟩ := h; refine ⟨rfl, ?_⟩; simp [IntKind.wrap, IntKind.bits, IntKind.signed]; omega)
/-- What a sum, a quotient and the like yield, and on what condition. -/
def arO (bop : BinOp) (k : IntKind) (a b : Int) : Option (Prop × Value) :=
  match bop with
  | .add => inK k (a + b)
  | .sub => inK k (a - b)
  | .mul => inK k (a * b)
  | .quo => match inK k a with
    | some (c, _) => some (c ∧ 0 ≤ a ∧ 0 < b, .int k (a / b))
    | none => none
  | .rem => some (0 ≤ a ∧ 0 < b, .int k (a % b))
  | _ => none
theorem binOp_add {P : Program} {w : World} {t : TypeId} {k : IntKind} {a b : Int} : (binOp .add t (.int k a) (.int k b)).run P w = .ok (.int k (k.wrap (a + b))) w := by cases k <;> rfl
theorem binOp_sub {P : Program} {w : World} {t : TypeId} {k : IntKind} {a b : Int} : (binOp .sub t (.int k a) (.int k b)).run P w = .ok (.int k (k.wrap (a - b))) w := by cases k <;> rfl
theorem binOp_mul {P : Program} {w : World} {t : TypeId} {k : IntKind} {a b : Int} : (binOp .mul t (.int k a) (.int k b)).run P w = .ok (.int k (k.wrap (a * b))) w := by cases k <;> rfl
theorem arO_ok {P : Program} {t : TypeId} {bop : BinOp} {ki : IntKind} {a b : Int} {c : Prop} {v : Value} (h : arO bop ki a b = some (c, v)) (hc : c) (w : World) : (binOp bop t (.int ki a) (.int ki b)).run P w = .ok v w := by
  cases bop with
  | add => obtain ⟨rfl, h2⟩ := inK_ok h hc; rw [binOp_add, h2]
  | sub => obtain ⟨rfl, h2⟩ := inK_ok h hc; rw [binOp_sub, h2]
  | mul => obtain ⟨rfl, h2⟩ := inK_ok h hc; rw [binOp_mul, h2]
  | quo =>
    obtain ⟨c', v', hi⟩ : ∃ c' v', inK ki a = some (c', v') := by cases ki <;> exact ⟨_, _, rfl⟩
    simp only [arO, hi, Option.some.injEq, Prod.mk.injEq] at h
    obtain ⟨rfl, rfl⟩ := h
    obtain ⟨h0, h1, h2⟩ := hc
    have hb : b ≠ 0 := by omega
    have h4 : 0 ≤ a / b := Int.ediv_nonneg h1 (by omega)
    have h5 : a / b ≤ a := Int.ediv_le_self _ h1
    have h3 : ki.wrap (a / b) = a / b := by
      generalize a / b = q at h4 h5
      cases ki <;> (simp only [inK, Option.some.injEq, Prod.mk.injEq] at hi; obtain ⟨rfl, rfl⟩ := hi; simp [IntKind.wrap, IntKind.bits, IntKind.signed]; omega)
    simp [binOp, Op.intDiv, hb, Int.tdiv_eq_ediv_of_nonneg h1, h3]
  | rem =>
    simp only [arO, Option.some.injEq, Prod.mk.injEq] at h
    obtain ⟨rfl, rfl⟩ := h
    obtain ⟨h1, h2⟩ := hc
    have hb : b ≠ 0 := by omega
    simp [binOp, Op.intDiv, hb, Int.tmod_eq_emod_of_nonneg h1]
  | _ => simp [arO] at h
/-- What an operation yields that asks nothing of memory or of types, and on what condition. -/
def evO (st : List (Nat × Value)) (o : Op) : Option (Prop × Value) :=
  match o with
  | .move x => match evS st x with
    | some v => some (True, v)
    | none => none
  | .assign x => match evS st x with
    | some v => some (True, v)
    | none => none
  | .pick c x y => match evS st c with
    | some (.bool b) => match b with
      | true => match evS st x with
        | some v => some (True, v)
        | none => none
      | false => match evS st y with
        | some v => some (True, v)
        | none => none
    | _ => none
  | .unOp .not _ x => match evS st x with
    | some (.bool b) => match b with
      | true => some (True, .bool false)
      | false => some (True, .bool true)
    | _ => none
  | .unOp .neg _ x => match evS st x with
    | some (.int .i64 a) => inK .i64 (-a)
    | _ => none
  | .extract x i => match evS st x with
    | some (.tuple vs) => match vs.toList[i]? with
      | some v => some (True, v)
      | none => none
    | _ => none
  | .binOp bop _ x y _ => match evS st x with
    | some (.int k a) => match evS st y with
      | some (.int k' b) => match decide (k' = k) with
        | true => arO bop k a b
        | false => none
      | _ => none
    | _ => none
  | _ => none
theorem evO_ok {c : Prop} {v : Value} (h : evO st opn = some (c, v)) (hc : c) : OpV C st M opn ty v ∧ noDef opn = true := by
  unfold evO at h
  split at h
  · split at h
    · rename_i hx; cases h; exact ⟨OpV.move hx, rfl⟩
    · cases h
  · split at h
    · rename_i hx; cases h; exact ⟨OpV.assign hx, rfl⟩
    · cases h
  · split at h
    · rename_i b hb
      cases b with
      | true =>
        simp only at h
        split at h
        · rename_i hx; cases h; exact ⟨OpV.pickT hb hx, rfl⟩
        · cases h
      | false =>
        simp only at h
        split at h
        · rename_i hx; cases h; exact ⟨OpV.pickF hb hx, rfl⟩
        · cases h
    · cases h
  · split at h
    · rename_i b hb
      cases b with
      | true => cases h; exact ⟨OpV.not hb, rfl⟩
      | false => cases h; exact ⟨OpV.not hb, rfl⟩
    · cases h
  · split at h
    · rename_i a ha
      simp only [inK, Option.some.injEq, Prod.mk.injEq] at h
      obtain ⟨rfl, rfl⟩ := h
      exact ⟨OpV.neg ha hc.1 hc.2, rfl⟩
    · cases h
  · split at h
    · rename_i vs hx
      split at h
      · rename_i hv; cases h; exact ⟨OpV.extract hx (by simpa using hv), rfl⟩
      · cases h
    · cases h
  · split at h
    · rename_i k a hx
      split at h
      · rename_i k' b hy
        split at h
        · rename_i hk
          have e : k' = k := of_decide_eq_true hk
          subst e
          exact ⟨OpV.bin hx hy fun w => arO_ok h hc w, rfl⟩
        · cases h
      · cases h
    · cases h
  · cases h
theorem G.pu {c : Prop} {v : Value} (h : evO st opn = some (c, v)) (hs : sideB all st gd d C.N q.calm = some q') (hc : c) (hh : G q' C all ((d, v) :: st) M rest k) :
    G q C all st M ({ dst := some d, op := opn, type := ty, pos, after, guard := gd } :: rest) k :=
  let ⟨h1, h2, h3⟩ := sideB_ok hs
  let ⟨h4, h5⟩ := evO_ok (C := C) (M := q.cls M) (ty := ty) h hc
  G.op h4 h1 h5 h2 h3 hh
/-- A comparison of numbers: when it holds, and when not. -/
def cmR (bop : BinOp) (a b : Int) : Option (Prop × Prop) :=
  match bop with
  | .lss => some (a < b, b ≤ a)
  | .leq => some (a ≤ b, b < a)
  | .gtr => some (b < a, a ≤ b)
  | .geq => some (b ≤ a, a < b)
  | .eql => some (a = b, a ≠ b)
  | .neq => some (a ≠ b, a = b)
  | _ => none
def cmO (st : List (Nat × Value)) (o : Op) : Option (Prop × Prop) :=
  match o with
  | .binOp bop _ x y _ => match evS st x with
    | some (.int k a) => match evS st y with
      | some (.int k' b) => match decide (k' = k) with
        | true => cmR bop a b
        | false => none
      | _ => none
    | _ => none
  | _ => none
theorem cmO_ok {p n : Prop} (h : cmO st opn = some (p, n)) : ∃ b : Bool, OpV C st M opn ty (.bool b) ∧ (b = true → p) ∧ (b = false → n) ∧ noDef opn = true := by
  unfold cmO at h
  split at h
  · split at h
    · rename_i k a hx
      split at h
      · rename_i k' b hy
        split at h
        · rename_i hk
          have e : k' = k := of_decide_eq_true hk
          subst e
          unfold cmR at h
          split at h
          · cases h; exact ⟨_, OpV.lss hx hy, fun h => of_decide_eq_true h, fun h => by have := of_decide_eq_false h; omega, rfl⟩
          · cases h; exact ⟨_, OpV.leq hx hy, fun h => of_decide_eq_true h, fun h => by have := of_decide_eq_false h; omega, rfl⟩
          · cases h; exact ⟨_, OpV.gtr hx hy, fun h => of_decide_eq_true h, fun h => by have := of_decide_eq_false h; omega, rfl⟩
          · cases h; exact ⟨_, OpV.geq hx hy, fun h => of_decide_eq_true h, fun h => by have := of_decide_eq_false h; omega, rfl⟩
          · cases h; exact ⟨_, OpV.eql hx hy, fun h => of_decide_eq_true h, fun h => of_decide_eq_false h, rfl⟩
          · cases h; exact ⟨_, OpV.neq hx hy, fun h => of_decide_eq_true h, fun h => by have := of_decide_eq_false h; omega, rfl⟩
          · cases h
        · cases h
      · cases h
    · cases h
  · cases h
theorem G.cm {p n : Prop} (h : cmO st opn = some (p, n)) (hs : sideB all st gd d C.N q.calm = some q') (h1 : p → G q' C all ((d, .bool true) :: st) M rest k) (h2 : n → G q' C all ((d, .bool false) :: st) M rest k) :
    G q C all st M ({ dst := some d, op := opn, type := ty, pos, after, guard := gd } :: rest) k :=
  let ⟨g1, g2, g3⟩ := sideB_ok hs
  let ⟨_, h4, h5, h6, h7⟩ := cmO_ok (C := C) (M := q.cls M) (ty := ty) h
  G.opBool h4 g1 h7 g2 g3 (fun e => h1 (h5 e)) (fun e => h2 (h6 e))
/-! ### short forms -/
theorem G.fa {T f off : Nat} {x : Operand} {b o : Nat} (hx : evS st x = some (.pointer (some ⟨b, o, none⟩))) [hT : TField C.P T f off] (hs : sideB all st gd d C.N q.calm = some q') (h : G q' C all ((d, .pointer (some ⟨b, addO o off, none⟩)) :: st) M rest k) :
    G q C all st M ({ dst := some d, op := .fieldAddr T x f, type := ty, pos, after, guard := gd } :: rest) k :=
  let ⟨g1, g2, g3⟩ := sideB_ok hs
  G.fieldAddr hx g1 g2 g3 h
theorem G.ix {T E sz : Nat} {x y : Operand} {b o n c : Nat} {ki : IntKind} {i : Nat} {e : Int} (hx : evS st x = some (.slice (some ⟨b, o, none⟩) n c)) (hy : evS st y = some (.int ki e)) (he : e = (i : Int)) (hi : i < n) [hT : TSlice C.P T E sz] (hs : sideB all st gd d C.N q.calm = some q') (h : G q' C all ((d, .pointer (some ⟨b, o + i * sz, none⟩)) :: st) M rest k) :
    G q C all st M ({ dst := some d, op := .indexAddr T x y, type := ty, pos, after, guard := gd } :: rest) k :=
  let ⟨g1, g2, g3⟩ := sideB_ok hs
  G.indexAddr hx hy he hi g1 g2 g3 h
theorem G.ld {T : TypeId} {x : Operand} {p : Addr} {v : Value} (hx : evS st x = some (.pointer (some p))) (hl : LdV C (q.cls M) T p v) (hs : sideB all st gd d C.N q.calm = some q') (h : G q' C all ((d, v) :: st) M rest k) :
    G q C all st M ({ dst := some d, op := .load T x, type := ty, pos, after, guard := gd } :: rest) k :=
  let ⟨g1, g2, g3⟩ := sideB_ok hs
  G.load hx hl g1 g2 g3 h
theorem G.ls {T E sz : TypeId} {x : Operand} {a : Option Addr} {n c : Nat} (hx : evS st x = some (.slice a n c)) [hT : TSlice C.P T E sz] (hs : sideB all st gd d C.N q.calm = some q') (h : G q' C all ((d, .int .i64 n) :: st) M rest k) :
    G q C all st M ({ dst := some d, op := .call { callee := .builtin .len, args := #[x], argTypes := #[T] }, type := ty, pos, after, guard := gd } :: rest) k :=
  let ⟨g1, g2, g3⟩ := sideB_ok hs
  G.lenSlice hx g1 g2 g3 h
theorem G.lt {T : TypeId} {x : Operand} {l : List UInt8} (hx : evS st x = some (.string (bs l))) [hT : TString C.P T] (hs : sideB all st gd d C.N q.calm = some q') (h : G q' C all ((d, .int .i64 l.length) :: st) M rest k) :
    G q C all st M ({ dst := some d, op := .call { callee := .builtin .len, args := #[x], argTypes := #[T] }, type := ty, pos, after, guard := gd } :: rest) k :=
  let ⟨g1, g2, g3⟩ := sideB_ok hs
  G.lenStr hx g1 g2 g3 h
theorem G.bu {T : TypeId} {zero : List Value} {place : List (Nat × Nat)} {parts : List (Nat × Operand)} {vs : List (Nat × Value)} {out : List Value} (hp : Sl.evP st parts = some vs) [hT : TBuild C.P T zero place] (ho : fillL place zero vs = some out) (hs : sideB all st gd d C.N q.calm = some q') (h : G q' C all ((d, .agg out.toArray) :: st) M rest k) :
    G q C all st M ({ dst := some d, op := .build T parts.toArray, type := ty, pos, after, guard := gd } :: rest) k :=
  let ⟨g1, g2, g3⟩ := sideB_ok hs
  G.build hp ho g1 g2 g3 h
theorem G.mx {ts : Array TypeId} {x y : Operand} {ki : IntKind} {a b : Int} (hx : evS st x = some (.int ki a)) (hy : evS st y = some (.int ki b)) (hs : sideB all st gd d C.N q.calm = some q') (h : G q' C all ((d, .int ki (Max.max a b)) :: st) M rest k) :
    G q C all st M ({ dst := some d, op := .call { callee := .builtin .max, args := #[x, y], argTypes := ts }, type := ty, pos, after, guard := gd } :: rest) k :=
  let ⟨g1, g2, g3⟩ := sideB_ok hs
  G.max2 hx hy g1 g2 g3 h
theorem G.mn {ts : Array TypeId} {x y : Operand} {ki : IntKind} {a b : Int} (hx : evS st x = some (.int ki a)) (hy : evS st y = some (.int ki b)) (hs : sideB all st gd d C.N q.calm = some q') (h : G q' C all ((d, .int ki (Min.min a b)) :: st) M rest k) :
    G q C all st M ({ dst := some d, op := .call { callee := .builtin .min, args := #[x, y], argTypes := ts }, type := ty, pos, after, guard := gd } :: rest) k :=
  let ⟨g1, g2, g3⟩ := sideB_ok hs
  G.min2 hx hy g1 g2 g3 h
theorem G.bx {T : TypeId} {x : Operand} {v : Value} {cs : List Value} (hs : sideB all st gd d C.N q.ext = some q') (hx : evS st x = some v) (hcs : v.cells = cs.toArray)
    (h : ∀ B, G q' C all ((d, .pointer (some ⟨B, 0, none⟩)) :: st) (.blk B T cs cs.length :: M) rest k) :
    G q C all st M ({ dst := some d, op := .box T x, type := ty, pos, after, guard := gd } :: rest) k :=
  let ⟨g1, g2, g3⟩ := sideB_ok hs
  G.box g1 g2 g3 hx hcs h
theorem G.al {T : TypeId} {cs : List Value} [hz : TZero C.P T cs] (hs : sideB all st gd d C.N q.ext = some q')
    (h : ∀ B, G q' C all ((d, .pointer (some ⟨B, 0, none⟩)) :: st) (.blk B T cs cs.length :: M) rest k) :
    G q C all st M ({ dst := some d, op := .alloc T, type := ty, pos, after, guard := gd } :: rest) k :=
  let ⟨g1, g2, g3⟩ := sideB_ok hs
  G.alloc g1 g2 g3 h
theorem G.cv {S T : TypeId} {x : Operand} {k1 k2 : IntKind} {n : Int} {c : Prop} {v : Value} (hx : evS st x = some (.int k1 n)) [hS : TIntK C.P S k1] [hT : TIntK C.P T k2] (hi : inK k2 n = some (c, v)) (hs : sideB all st gd d C.N q.calm = some q') (hc : c) (h : G q' C all ((d, v) :: st) M rest k) :
    G q C all st M ({ dst := some d, op := .convert S T x, type := ty, pos, after, guard := gd } :: rest) k := by
  obtain ⟨g1, g2, g3⟩ := sideB_ok hs
  obtain ⟨rfl, h2⟩ := inK_ok hi hc
  exact G.convK hx h2 g1 g2 g3 h
def skB (all : List Oper) (st : List (Nat × Value)) (gd : Option (Nat × Bool)) (d N : Nat) (q : Option Md) : Option Md :=
  match gd with
  | some (j, want) => match (all.toArray[j]?).bind (·.dst) with
    | some t => match getT st t with
      | some v => match skipV v want with
        | true => match Nat.blt d N with
          | true => q
          | false => none
        | false => none
      | none => none
    | none => none
  | none => none
theorem G.sk (hs : skB all st gd d C.N q.calm = some q') (h : G q' C all ((d, undef) :: st) M rest k) :
    G q C all st M ({ dst := some d, op := opn, type := ty, pos, after, guard := gd } :: rest) k := by
  unfold skB at hs
  split at hs
  · split at hs
    · rename_i h1
      split at hs
      · rename_i h2
        split at hs
        · rename_i h3
          split at hs
          · rename_i h4; exact G.skip h1 h2 h3 h4 hs h
          · cases hs
        · cases hs
      · cases hs
    · cases hs
  · cases hs
/-- The row at a place, and the list with another one there. -/
inductive RAt (r : Row) : List Row → (Row → List Row) → Prop
  | head {M : List Row} : RAt r (r :: M) (fun r' => r' :: M)
  | tail {s : Row} {M : List Row} {F : Row → List Row} (h : RAt r M F) : RAt r (s :: M) (fun r' => s :: F r')
theorem RAt.idx {r : Row} {M : List Row} {F : Row → List Row} (h : RAt r M F) : ∃ i, M[i]? = some r ∧ ∀ r', M.set i r' = F r' := by
  induction h with
  | head => exact ⟨0, rfl, fun _ => rfl⟩
  | tail h ih => obtain ⟨i, h1, h2⟩ := ih; exact ⟨i + 1, by simpa using h1, fun r' => by simp [h2]⟩
def wqB (all : List Oper) (st : List (Nat × Value)) (gd : Option (Nat × Bool)) (q : Option Md) : Option Md :=
  match wnB all st gd with
  | true => q
  | false => none
theorem wqB_ok {qo : Option Md} (h : wqB all st gd qo = some q') : wnB all st gd = true ∧ qo = some q' := by
  unfold wqB at h
  split at h
  · rename_i h1; exact ⟨h1, h⟩
  · cases h
/-- A store of one cell's or more values over what lies there. -/
def stB (v : Value) (j n : Nat) (cs : List Value) : Option (List Value) :=
  match v.cells.toList with
  | vs => match (vs.all (·.oneCell') && Nat.ble (j + vs.length) cs.length && Nat.beq vs.length n) with
    | true => some (setL cs j vs)
    | false => none
theorem stB_ok {v : Value} {j n : Nat} {cs out : List Value} (h : stB v j n cs = some out) : ∃ vs : List Value, v.cells = vs.toArray ∧ vs.all (·.oneCell') = true ∧ Nat.ble (j + vs.length) cs.length = true ∧ vs.length = n ∧ setL cs j vs = out := by
  unfold stB at h
  simp only at h
  split at h
  · rename_i h1
    simp only [Bool.and_eq_true] at h1
    refine ⟨v.cells.toList, by simp, h1.1.1, h1.1.2, Nat.eq_of_beq_eq_true h1.2, by simpa using h⟩
  · cases h
theorem G.so {T n : TypeId} {x y : Operand} {v : Value} {b j tot : Nat} {e : TypeId} {cs out : List Value} {F : Row → List Row} (hs : wqB all st gd q.res = some q')
    (hx : evS st x = some (.pointer (some ⟨b, j, none⟩))) (hm : RAt (.blk b e cs tot) M F) (hy : evS st y = some v) [hT : TSize C.P T n] (ho : stB v j n cs = some out)
    (h : G q' C all st (F (.blk b e out tot)) rest k) :
    G q C all st M ({ dst := none, op := .store T x y, type := ty, pos, after, guard := gd } :: rest) k := by
  obtain ⟨g1, g2⟩ := wqB_ok hs
  obtain ⟨vs, h1, h2, h3, h4, rfl⟩ := stB_ok ho
  obtain ⟨i, h5, h6⟩ := hm.idx
  rw [← h6] at h
  exact G.store g1 g2 hx h5 hy h1 h2 h3 h4 h
theorem G.ss {T n : TypeId} {x y : Operand} {v : Value} {b j tot : Nat} {e : TypeId} {cs : List Value} {F : Row → List Row} (hs : wqB all st gd q.ext = some q')
    (hx : evS st x = some (.pointer (some ⟨b, j, none⟩))) (hm : RAt (.blk b e cs tot) M F) (hy : evS st y = some v) [hT : TSize C.P T n] (ho : stB v j n cs = some cs)
    (h : G q' C all st M rest k) :
    G q C all st M ({ dst := none, op := .store T x y, type := ty, pos, after, guard := gd } :: rest) k := by
  obtain ⟨g1, g2⟩ := wqB_ok hs
  obtain ⟨vs, h1, h2, h3, h4, h6⟩ := stB_ok ho
  obtain ⟨i, h5, -⟩ := hm.idx
  exact G.storeSame g1 g2 hx h5 hy h1 h2 h3 h6 h4 h
/-! ### control -/
theorem stepR_scope {P : Program} {b : Frame} {a : Act} {k : List Item} {cs : List Frame} {w : World} {c : Code} : step P (lone (b.atR a (.code (.scope c) :: k)) cs w) = .next (lone (b.atR a (.code c :: .inScope c :: k)) cs w) :=
  step_lone_go (by simp [stepG, stepG.exec, Frame.atR])
theorem stepR_inScope {P : Program} {b : Frame} {a : Act} {k : List Item} {cs : List Frame} {w : World} {c : Code} : step P (lone (b.atR a (.inScope c :: k)) cs w) = .next (lone (b.atR a k) cs w) :=
  step_lone_go (by simp [stepG, stepG.exec, Frame.atR])
theorem J.scope {c : Code} (h : J C st M (.code c :: .inScope c :: k)) : J C st M (.code (.scope c) :: k) := .mk fun a w hf hd hw => (h.go a w hf hd hw).step fun _ => stepR_scope
theorem J.inScope {c : Code} (h : J C st M k) : J C st M (.inScope c :: k) := .mk fun a w hf hd hw => (h.go a w hf hd hw).step fun _ => stepR_inScope
theorem J.goto {l : Nat} {k' : List Item} (hk : gotoIn l k = some k') (h : J C st M k') : J C st M (.code (.goto l) :: k) := .mk fun a w hf hd hw => (h.go a w hf hd hw).step fun _ => stepR_goto hk
def ctl (st : List (Nat × Value)) : List Item → Option (List Item)
  | .code .skip :: k => some k
  | .code (.label _) :: k => some k
  | .code (.seq x y) :: k => some (.code x :: .code y :: k)
  | .code (.block id c) :: k => some (.code c :: .inBlock id :: k)
  | .inBlock _ :: k => some k
  | .code (.scope c) :: k => some (.code c :: .inScope c :: k)
  | .inScope _ :: k => some k
  | .code (.goto l) :: k => gotoIn l k
  | .code (.exit id) :: k => exitTo id k
  | .code (.cond c x y) :: k => match evS st c with
    | some (.bool b) => match b with
      | true => some (.code x :: k)
      | false => some (.code y :: k)
    | _ => none
  | _ => none
theorem ctl_ok {l l' : List Item} (h : ctl st l = some l') (hh : J C st M l') : J C st M l := by
  unfold ctl at h
  split at h
  · cases h; exact J.skip hh
  · cases h; exact J.label hh
  · cases h; exact J.seq hh
  · cases h; exact J.block hh
  · cases h; exact J.inBlock hh
  · cases h; exact J.scope hh
  · cases h; exact J.inScope hh
  · exact J.goto h hh
  · exact J.exit h hh
  · split at h
    · rename_i b hb
      cases b with
      | true => cases h; exact J.condT hb hh
      | false => cases h; exact J.condF hb hh
    · cases h
  · cases h
def ctls : Nat → List (Nat × Value) → List Item → Option (List Item)
  | 0, _, _ => none
  | n + 1, st, l => match ctl st l with
    | some l' => match ctls n st l' with
      | some l2 => some l2
      | none => some l'
    | none => none
theorem ctls_ok : ∀ {n : Nat} {l l' : List Item}, ctls n st l = some l' → J C st M l' → J C st M l
  | 0, _, _, h, _ => by cases h
  | n + 1, l, l', h, hh => by
    unfold ctls at h
    split at h
    · rename_i l1 h1
      split at h
      · rename_i l2 h2; cases h; exact ctl_ok h1 (ctls_ok h2 hh)
      · cases h; exact ctl_ok h1 hh
    · cases h
theorem J.ct {l l' : List Item} (h : ctls 40 st l = some l') (hh : J C st M l') : J C st M l := ctls_ok h hh
/-! ### calls -/
theorem G.cV {g : FuncId} {args : List Operand} {vs : List Value} {at_ : Array TypeId} {v : Value} (ha : evL st args = some vs) (hs : sideB all st gd d C.N q.calm = some q') [hF : Fun C.P g]
    (hc : ∀ w, Sat C.w0 (q.cls M) w → Calls C.P g vs.toArray w fun e w' => e = .returned v ∧ Below w.heap.size w w') (h : G q' C all ((d, v) :: st) M rest k) :
    G q C all st M ({ dst := some d, op := .call { callee := .value (.func g), args := args.toArray, argTypes := at_ }, type := ty, pos, after, guard := gd } :: rest) k :=
  let ⟨g1, g2, g3⟩ := sideB_ok hs
  G.callV ha g1 g2 g3 hc h
theorem G.cB {g : FuncId} {args : List Operand} {vs : List Value} {at_ : Array TypeId} {b : Bool} (ha : evL st args = some vs) (hs : sideB all st gd d C.N q.calm = some q') [hF : Fun C.P g]
    (hc : ∀ w, Sat C.w0 (q.cls M) w → Calls C.P g vs.toArray w fun e w' => e = .returned (.bool b) ∧ Below w.heap.size w w') (h1 : b = true → G q' C all ((d, .bool true) :: st) M rest k) (h2 : b = false → G q' C all ((d, .bool false) :: st) M rest k) :
    G q C all st M ({ dst := some d, op := .call { callee := .value (.func g), args := args.toArray, argTypes := at_ }, type := ty, pos, after, guard := gd } :: rest) k :=
  let ⟨g1, g2, g3⟩ := sideB_ok hs
  G.callB ha g1 g2 g3 hc h1 h2
end Go.Sl
/-
  Short forms: appends, stores at a place, calls that change rows or hand back a slice of the call's own, clear and copy, parts of slices.
-/
namespace Go.Sl
open Go.RowKit
variable {C : Ctx} {st : List (Nat × Value)} {M : List Row} {k : List Item} {q q' : Md} {all rest : List Oper} {d : Nat} {opn : Op} {ty : TypeId} {pos : String} {after : Array Edge} {gd : Option (Nat × Bool)}
theorem enterM {P : Program} {F : FuncId} {fn : Func} {c : Code} {args : Array Value} {w w0 : World} {M : List Row} {R : Ending → World → Prop} {N : Nat} (st : List (Nat × Value)) (hw : Sat w0 M w) (hf : P.funcs[F]? = some fn) (hb : fn.body = some c) (hN : fn.ntmps = N) (ha : (args.size ≤ N) = True)
    (hst : ArgsOk args st) (h : J (fctx P F N R w0) st M [.code c]) : Calls P F args w R := by
  intro cs
  have ha' : args.size ≤ N := of_eq_true ha
  have henter : Frame.enter P F args .normal = (fctx P F N R w0).b.atR { tmps := args ++ Array.replicate (N - args.size) undef, defers := [] } [.code c] := by
    simp [Frame.enter, Frame.atR, hf, hb, hN, fctx]
    rfl
  obtain ⟨m, h1, v, w', fr, h2, rfl, h3, h4⟩ := h.go { tmps := args ++ Array.replicate (N - args.size) undef, defers := [] } w
    ⟨by simp; omega, fun t v hv => by
      have := hst.get t v hv
      have ht := (Array.getElem?_eq_some_iff.1 this).1
      rw [Array.getElem?_append_left ht]; exact this⟩ rfl hw cs
  rw [← henter] at h1
  exact ⟨.returned v, w', fr, h2, h1, h3, h4⟩
/-! ### cells of one value each -/
theorem flat1 {A : Type} (f : A → List Value) (l : List A) (x : A) : flat f l ++ f x = flat f (l ++ [x]) := by
  rw [flat_append, flat_cons]; simp [flat]
theorem flat_get1 {A : Type} {f : A → List Value} (hf : ∀ x, (f x).length = 1) {l : List A} {i : Nat} (h : i < l.length) {v : Value} (hv : f l[i] = [v]) : (flat f l)[0 + i * 1]? = some v := by
  rw [Nat.zero_add]
  have := flat_at hf h (j := 0) (by decide)
  rw [Nat.add_zero, hv] at this
  exact this
theorem flat_set1 {A : Type} {f : A → List Value} (hf : ∀ x, (f x).length = 1) {l : List A} {i : Nat} (h : i < l.length) {v : Value} {y : A} (hv : f y = [v]) : setL (flat f l) (0 + i * 1) [v] = flat f (l.set i y) := by
  rw [Nat.zero_add, ← hv]; exact flat_set hf h y
/-- An append to a slice of the call's own. -/
theorem G.ap {T ty' E bytes size n m c base : Nat} {z v : Value} {x y : Operand} {a : Option Addr} {xs news cs : List Value} {F : Row → List Row} (hs : sideB all st gd d C.N q.res = some q')
    (hx : evS st x = some v) (hy : evS st y = some (.slice a m c)) (hm : RAt (.own base v E size n xs) M F) [hT : TElem C.P T E z size bytes] (hsrc : SrcV C M a m size news) (hcs : xs ++ news = cs) (hb : (n + m) * bytes ≤ 140737488355328) (hnm : n + m ≤ 9223372036854775807)
    (h : ∀ v', G q' C all ((d, v') :: st) (F (.own 0 v' E size (n + m) cs)) rest k) :
    G q C all st M ({ dst := some d, op := .call { callee := .builtin .append, args := #[x, y], argTypes := #[T, T] }, type := ty', pos, after, guard := gd } :: rest) k := by
  obtain ⟨g1, g2, g3⟩ := sideB_ok hs
  subst hcs
  obtain ⟨i, h1, h2⟩ := hm.idx
  exact G.append g1 g2 g3 hx h1 hy hsrc hb hnm fun v' => by rw [h2]; exact h v'
/-- A store of one value at a place of a block. -/
theorem G.s1 {T : TypeId} {x y : Operand} {v : Value} {b j tot : Nat} {e : TypeId} {cs out : List Value} {F : Row → List Row} (hs : wqB all st gd q.res = some q')
    (hx : evS st x = some (.pointer (some ⟨b, j, none⟩))) (hy : evS st y = some v) (hm : RAt (.blk b e cs tot) M F) [hT : TSize C.P T 1] (h1 : v.cells = #[v] ∧ v.oneCell' = true) (hj : j < cs.length) (ho : setL cs j [v] = out)
    (h : G q' C all st (F (.blk b e out tot)) rest k) :
    G q C all st M ({ dst := none, op := .store T x y, type := ty, pos, after, guard := gd } :: rest) k := by
  obtain ⟨g1, g2⟩ := wqB_ok hs
  obtain ⟨i, h5, h6⟩ := hm.idx
  subst ho
  rw [← h6] at h
  exact G.storeI (vs := [v]) g1 g2 hx h5 hy h1.1 (by simp [h1.2]) (by simp; omega) rfl h
/-- The same where the row 0 is set apart. -/
theorem G.s1w {T : TypeId} {x y : Operand} {v : Value} {b j tot : Nat} {e : TypeId} {cs out : List Value} {M0 : List Row} (hs : wqB all st gd (q.st 0) = some q')
    (hx : evS st x = some (.pointer (some ⟨b, j, none⟩))) (hy : evS st y = some v) [hT : TSize C.P T 1] (h1 : v.cells = #[v] ∧ v.oneCell' = true) (hj : j < cs.length) (ho : setL cs j [v] = out)
    (h : G q' C all st (.blk b e out tot :: M0) rest k) :
    G q C all st (.blk b e cs tot :: M0) ({ dst := none, op := .store T x y, type := ty, pos, after, guard := gd } :: rest) k := by
  obtain ⟨g1, g2⟩ := wqB_ok hs
  subst ho
  exact G.storeW (i := 0) (vs := [v]) g1 g2 hx rfl hy h1.1 (by simp [h1.2]) (by simp; omega) rfl h
/-! ### calls -/
theorem G.cN {g : FuncId} {args : List Operand} {vs : List Value} {at_ : Array TypeId} {sz : Nat} (v : Option Addr → Nat → Value) (L : List (List Value)) (ha : evL st args = some vs) (hs : sideB all st gd d C.N q.ext = some q') [hF : Fun C.P g]
    (hc : ∀ w, Sat C.w0 M w → Calls C.P g vs.toArray w fun e w' => ∃ a' c', e = .returned (v a' c') ∧ SlAt w' a' sz L ∧ (∀ p, a' = some p → w.heap.size ≤ p.block) ∧ Below w.heap.size w w')
    (h : ∀ a' c', (0 < L.length → ∃ b off, a' = some ⟨b, off, none⟩) → (∀ p, a' = some p → C.w0.heap.size ≤ p.block) → G q' C all ((d, v a' c') :: st) (slRow C.w0.heap.size a' sz L :: M) rest k) :
    G q C all st M ({ dst := some d, op := .call { callee := .value (.func g), args := args.toArray, argTypes := at_ }, type := ty, pos, after, guard := gd } :: rest) k :=
  let ⟨g1, g2, g3⟩ := sideB_ok hs
  G.callN v L ha g1 g2 g3 hc h
theorem G.cM {X : Type} {g : FuncId} {args : List Operand} {vs : List Value} {at_ : Array TypeId} (v : X → Value) (Mn : X → List Row) (hs : sideB all st gd d C.N q.res = some q')
    (ha : evL st args = some vs) [hF : Fun C.P g]
    (hc : ∀ w, Sat C.w0 M w → Calls C.P g vs.toArray w fun e w' => ∃ x, e = .returned (v x) ∧ Sat C.w0 (Mn x) w')
    (h : ∀ x, G q' C all ((d, v x) :: st) (Mn x) rest k) :
    G q C all st M ({ dst := some d, op := .call { callee := .value (.func g), args := args.toArray, argTypes := at_ }, type := ty, pos, after, guard := gd } :: rest) k :=
  let ⟨g1, g2, g3⟩ := sideB_ok hs
  G.callM v Mn g1 g2 g3 ha hc h
/-- A slice that lay in nobody's memory before, and is the caller's own. -/
def RetO (P : Program) (w : World) (E size n : Nat) (xs : List Value) (v : Value → Value) (e : Ending) (w' : World) : Prop :=
  ∃ u, e = .returned (v u) ∧ w'.ownsRow w.heap.size E size u n xs ∧ Below w.heap.size w w'
theorem ownsRow_mono {w : World} {base b' : Nat} {e : TypeId} {size : Nat} {v : Value} {n : Nat} {xs : List Value} (h : w.ownsRow base e size v n xs) (hb : b' ≤ base) : w.ownsRow b' e size v n xs := by
  obtain ⟨h1, h2⟩ := h
  refine ⟨h1, ?_⟩
  rcases h2 with h2 | ⟨g, cap, cur, hv, hg, r⟩
  · exact .inl h2
  · exact .inr ⟨g, cap, cur, hv, Nat.le_trans hb hg, r⟩
theorem G.cO {g : FuncId} {args : List Operand} {vs : List Value} {at_ : Array TypeId} {E size n : Nat} {xs : List Value} (v : Value → Value) (ha : evL st args = some vs) (hs : sideB all st gd d C.N q.ext = some q') [hF : Fun C.P g]
    (hc : ∀ w, Sat C.w0 M w → Calls C.P g vs.toArray w (RetO C.P w E size n xs v))
    (h : ∀ u, G q' C all ((d, v u) :: st) (.own 0 u E size n xs :: M) rest k) :
    G q C all st M ({ dst := some d, op := .call { callee := .value (.func g), args := args.toArray, argTypes := at_ }, type := ty, pos, after, guard := gd } :: rest) k := by
  obtain ⟨g1, g2, g3⟩ := sideB_ok hs
  refine G.call0 (X := Value) (v := v) (Mn := fun u => [.own 0 u E size n xs]) g1 g2 g3 ha (fun w hw => (hc w hw).mono fun e w' he => ?_) h
  obtain ⟨u, rfl, h1, h2⟩ := he
  refine ⟨u, rfl, hw.new h2 (r := .own 0 u E size n xs) (ownsRow_mono h1 (Nat.zero_le _)) (Nat.zero_le _) fun b hb => ?_⟩
  have hlt := (ownsRow_mono h1 (Nat.le_refl _)).lt b hb
  exact hlt
/-- What a call hands back of its own. -/
theorem Sat.retO {w0 w : World} {i E size n base : Nat} {u : Value} {xs : List Value} {P : Program} (hw : Sat w0 M w) (hm : M[i]? = some (.own base u E size n xs)) (v : Value → Value) : RetO P w0 E size n xs v (.returned (v u)) w := by
  have hmem := List.mem_of_getElem? hm
  refine ⟨u, rfl, ownsRow_base (hw.hold _ hmem : w.ownsRow base E size u n xs) fun b hb => ((hw.old _ hmem).2 b hb).1, hw.below⟩
/-! ### parts of a slice -/
/-- Of a block's row the part from o on. -/
theorem SlAt.part {A : Type} {f : A → List Value} {l : List A} {w0 w : World} {b o n : Nat} {e : TypeId} {tot : Nat} (hf : ∀ x, (f x).length = 1) (hw : Sat w0 M w) (hm : Row.blk b e (flat f l) tot ∈ M) (ho : o + n ≤ l.length) : SlAt w (some ⟨b, o, none⟩) 1 (((l.drop o).take n).map f) := fun _ => by
  refine ⟨b, o, rfl, fun i cs hi => ⟨((hw.old _ hm).2 b rfl).2, fun j v hv => ?_⟩⟩
  rw [List.getElem?_map] at hi
  obtain ⟨y, hy, rfl⟩ := Option.map_eq_some_iff.1 hi
  rw [List.getElem?_take] at hy
  split at hy
  · rw [List.getElem?_drop] at hy
    have hj : j < 1 := by rw [← hf y]; exact (List.getElem?_eq_some_iff.1 hv).1
    have hj0 : j = 0 := by omega
    subst hj0
    obtain ⟨hlt, rfl⟩ := List.getElem?_eq_some_iff.1 hy
    refine hw.cellBlk hm ?_
    have := flat_at hf hlt (j := 0) (by decide)
    rw [Nat.mul_one, Nat.add_zero] at this
    rw [Nat.mul_one, Nat.add_zero, this]; exact hv
  · cases hy
/-- x == nil -/
theorem G.isNil {T E sz : Nat} {x y : Operand} {yt : TypeId} {a : Option Addr} {n c n' c' : Nat} (hx : evS st x = some (.slice a n c)) (hy : evS st y = some (.slice none n' c')) [hT : TSlice C.P T E sz] (hs : sideB all st gd d C.N q.calm = some q')
    (h1 : a = none → G q' C all ((d, .bool true) :: st) M rest k) (h2 : a ≠ none → G q' C all ((d, .bool false) :: st) M rest k) :
    G q C all st M ({ dst := some d, op := .binOp .eql T x y yt, type := ty, pos, after, guard := gd } :: rest) k := by
  obtain ⟨g1, g2, g3⟩ := sideB_ok hs
  refine G.opBool (b := a.isNone) (OpV.of fun ac w hf _ dst pos after guard => ?_) g1 rfl g2 g3 (fun e => h1 (by simpa using e)) (fun e => h2 fun h => by subst h; simp at e)
  have hg : (eqGuard .eql T x y (.slice a n c) (.slice none n' c')).run C.P w = .ok () w := by rfl
  have hr : (binOp .eql T (.slice a n c) (.slice none n' c')).run C.P w = .ok (.bool a.isNone) w := by
    simp only [binOp]
    simp [Op.equal, Op.maxDepth, Lib.run_equalIn_slice_nil w 9999 T E a n c n' c' hT.h1]
  simp only [execOp, hf.eval hx, hf.eval hy, Sem.run_bind, hg, hr, Result.andThen_ok]; rfl
/-- x[lo:hi] of a slice that lies at a known place, lo below the room. -/
theorem G.slp {T E sz : Nat} {x lo hi : Operand} {b o n c off len : Nat} {k1 k2 : IntKind} {l h : Nat} {e1 e2 : Int} (hx : evS st x = some (.slice (some ⟨b, o, none⟩) n c)) (hlo : evS st lo = some (.int k1 e1)) (hhi : evS st hi = some (.int k2 e2)) (he1 : e1 = (l : Int)) (he2 : e2 = (h : Int)) (h1 : l ≤ h) (h2 : h ≤ c) (h3 : l < c) [hT : TSlice C.P T E sz] (hoff : o + l * sz = off) (hlen : h - l = len) (hs : sideB all st gd d C.N q.calm = some q') (hh : G q' C all ((d, .slice (some ⟨b, off, none⟩) len (c - l)) :: st) M rest k) :
    G q C all st M ({ dst := some d, op := .slice T x (some lo) (some hi) none, type := ty, pos, after, guard := gd } :: rest) k := by
  obtain ⟨g1, g2, g3⟩ := sideB_ok hs
  refine G.slice hx hlo hhi he1 he2 h1 h2 g1 g2 g3 ?_
  subst hoff; subst hlen
  rw [subA, if_neg (by omega), Option.map_some, addr_add, addO_eq]
  exact hh
/-- clear of a part of a block. -/
theorem zeroCells_one {z : Value} (n : Nat) : (Builtin.zeroCells #[z] n).toList = List.replicate n z := by
  apply List.ext_getElem
  · simp [Builtin.zeroCells]
  · intro i h1 h2
    simp [Builtin.zeroCells, Nat.mod_one]
theorem Eff.valN {o : Op} {Post : List (Nat × Value) → List Row → Prop}
    (hx : ∀ a w, Fits C.N st a → Sat C.w0 M w → ∃ v w' M', (execOp a.eval ⟨none, o, ty, pos, after, gd⟩).run C.P w = .ok (.value v) w' ∧ Sat C.w0 M' w' ∧ Post st M') : Eff C st M ⟨none, o, ty, pos, after, gd⟩ Post := by
  intro a w hf hw K hK
  obtain ⟨v, w', M', h1, h2, h3⟩ := hx a w hf hw
  rw [h1]
  exact hK _ _ _ _ h3 hf rfl h2
theorem G.clr {T E n c bytes b o tot : Nat} {z : Value} {x : Operand} {e : TypeId} {cs : List Value} {F : Row → List Row} (hs : wqB all st gd q.res = some q') (hx : evS st x = some (.slice (some ⟨b, o, none⟩) n c)) (hm : RAt (.blk b e cs tot) M F) [hT : TElem C.P T E z 1 bytes] (hz : z.cells = #[z] ∧ z.oneCell' = true) (hzr : ∀ w, (zeroValue E).run C.P w = .ok z w) (ho : o + n ≤ cs.length)
    (h : G q' C all st (F (.blk b e (setL cs o (List.replicate n z)) tot)) rest k) :
    G q C all st M ({ dst := none, op := .call { callee := .builtin .clear, args := #[x], argTypes := #[T] }, type := ty, pos, after, guard := gd } :: rest) k := by
  obtain ⟨g1, g3⟩ := wqB_ok hs
  obtain ⟨i, h5, h6⟩ := hm.idx
  rw [← h6] at h
  refine G.res g1 rfl g3 (Eff.valN fun a w hf hw => ?_)
  obtain ⟨w', h7, h8⟩ := hw.setRow h5 (j := o) (vs := List.replicate n z) (by simpa using ho) (fun v hv => by rw [List.eq_of_mem_replicate hv]; exact hz.2) C.P
  refine ⟨.tuple #[], w', _, ?_, h8, h⟩
  have hu : ∀ w, (underlying T).run C.P w = .ok (.slice E) w := fun w => by simp [underlying, hT.h1]
  cases n with
  | zero =>
    have : w' = w := by
      have h9 := h7
      simp only [List.replicate, storeCells] at h9
      cases h9; rfl
    subst this
    simp [execOp, resolve, hf.eval hx, invoke, builtin, Builtin.clear_, hu]
  | succ n =>
    simp [execOp, resolve, hf.eval hx, invoke, builtin, Builtin.clear_, hu, hzr, hz.1, zeroCells_one, h7]
/-- copy of a whole slice into a part of a block. -/
theorem G.cpy {T T2 E n c m c2 bytes b o tot : Nat} {z : Value} {x y : Operand} {a : Option Addr} {e : TypeId} {cs news : List Value} {F : Row → List Row} (hs : sideB all st gd d C.N q.res = some q') (hx : evS st x = some (.slice (some ⟨b, o, none⟩) n c)) (hy : evS st y = some (.slice a m c2)) (hm : RAt (.blk b e cs tot) M F) [hT : TElem C.P T E z 1 bytes] (hsrc : SrcV C M a m 1 news) (hmn : m ≤ n) (ho : o + n ≤ cs.length)
    (h : G q' C all ((d, .int .i64 m) :: st) (F (.blk b e (setL cs o news) tot)) rest k) :
    G q C all st M ({ dst := some d, op := .call { callee := .builtin .copy, args := #[x, y], argTypes := #[T, T2] }, type := ty, pos, after, guard := gd } :: rest) k := by
  obtain ⟨g1, g2, g3⟩ := sideB_ok hs
  obtain ⟨i, h5, h6⟩ := hm.idx
  rw [← h6] at h
  have hlen : news.length = m := by rw [hsrc.len, Nat.mul_one]
  refine G.res g1 rfl g3 (Eff.val g2 fun ac w hf hw => ?_)
  obtain ⟨w', h7, h8⟩ := hw.setRow h5 (j := o) (vs := news) (by omega) (fun v hv => List.all_eq_true.1 hsrc.one v hv) C.P
  refine ⟨_, w', _, ?_, h8, h⟩
  have hu : ∀ w, (underlying T).run C.P w = .ok (.slice E) w := fun w => by simp [underlying, hT.h1]
  obtain ⟨inf, hi, hzz, hsize, hby⟩ := info_parts hT.h2
  have hmin : Nat.min m n = m := Nat.min_eq_left hmn
  cases a with
  | none =>
    have h0 := hsrc.nil rfl
    subst h0
    have hn0 : news = [] := List.length_eq_zero_iff.1 hlen
    subst hn0
    have : w' = w := by
      simp only [storeCells] at h7
      cases h7; rfl
    subst this
    simp [execOp, resolve, hf.eval hx, hf.eval hy, invoke, builtin, Builtin.copy_, hu, sizeOf, typeInfo, hi, Builtin.lenOf, Builtin.firstCells, hmin, storeCells, goInt]
  | some ad =>
    have hl := run_loadCells_list (P := C.P) w ad news fun j v hv => hsrc.go ad rfl w hw j v hv
    rw [hlen] at hl
    simp [execOp, resolve, hf.eval hx, hf.eval hy, invoke, builtin, Builtin.copy_, hu, sizeOf, typeInfo, hi, hsize, Builtin.lenOf, Builtin.firstCells, hmin, hl, h7, goInt]
/-- An append to a slice of the call's own, which then lies open. -/
theorem G.apO {T ty' E bytes size n m c base : Nat} {z v : Value} {x y : Operand} {a : Option Addr} {xs news cs : List Value} {F : Row → List Row} (hs : sideB all st gd d C.N q.res = some q')
    (hx : evS st x = some v) (hy : evS st y = some (.slice a m c)) (hm : RAt (.own base v E size n xs) M F) [hT : TElem C.P T E z size bytes] (hsrc : SrcV C M a m size news) (hcs : xs ++ news = cs) (hb : (n + m) * bytes ≤ 140737488355328) (hnm : n + m ≤ 9223372036854775807) (h0 : 0 < n + m)
    (h : ∀ g cap, n + m ≤ cap → G q' C all ((d, .slice (some ⟨g, 0, none⟩) (n + m) cap) :: st) (F (.blk g E cs (cap * size))) rest k) :
    G q C all st M ({ dst := some d, op := .call { callee := .builtin .append, args := #[x, y], argTypes := #[T, T] }, type := ty', pos, after, guard := gd } :: rest) k := by
  obtain ⟨g1, g2, g3⟩ := sideB_ok hs
  subst hcs
  obtain ⟨i, h1, h2⟩ := hm.idx
  exact G.appendO g1 g2 g3 hx h1 hy hsrc hb hnm h0 fun g cap hc => by rw [h2]; exact h g cap hc
theorem G.mnE {ts : Array TypeId} {x y : Operand} {ki : IntKind} {a b m : Int} (hx : evS st x = some (.int ki a)) (hy : evS st y = some (.int ki b)) (hm : Min.min a b = m) (hs : sideB all st gd d C.N q.calm = some q') (h : G q' C all ((d, .int ki m) :: st) M rest k) :
    G q C all st M ({ dst := some d, op := .call { callee := .builtin .min, args := #[x, y], argTypes := ts }, type := ty, pos, after, guard := gd } :: rest) k := by
  subst hm; exact G.mn hx hy hs h
theorem G.mxE {ts : Array TypeId} {x y : Operand} {ki : IntKind} {a b m : Int} (hx : evS st x = some (.int ki a)) (hy : evS st y = some (.int ki b)) (hm : Max.max a b = m) (hs : sideB all st gd d C.N q.calm = some q') (h : G q' C all ((d, .int ki m) :: st) M rest k) :
    G q C all st M ({ dst := some d, op := .call { callee := .builtin .max, args := #[x, y], argTypes := ts }, type := ty, pos, after, guard := gd } :: rest) k := by
  subst hm; exact G.mx hx hy hs h
/-- A call that hands back a slice that is now the caller's own, not empty, laid open. -/
theorem G.cOo {g : FuncId} {args : List Operand} {vs : List Value} {at_ : Array TypeId} {E size n : Nat} {xs : List Value} (ha : evL st args = some vs) (hs : sideB all st gd d C.N q.ext = some q') [hF : Fun C.P g]
    (hc : ∀ w, Sat C.w0 M w → Calls C.P g vs.toArray w (RetO C.P w E size n xs id)) (h0 : 0 < n)
    (h : ∀ b cap, n ≤ cap → G q' C all ((d, .slice (some ⟨b, 0, none⟩) n cap) :: st) (.blk b E xs (cap * size) :: M) rest k) :
    G q C all st M ({ dst := some d, op := .call { callee := .value (.func g), args := args.toArray, argTypes := at_ }, type := ty, pos, after, guard := gd } :: rest) k := by
  obtain ⟨g1, g2, g3⟩ := sideB_ok hs
  refine G.call0 (X := { x : Nat × Nat // n ≤ x.2 }) (v := fun x => .slice (some ⟨x.1.1, 0, none⟩) n x.1.2) (Mn := fun x => [.blk x.1.1 E xs (x.1.2 * size)]) g1 g2 g3 ha (fun w hw => (hc w hw).mono fun e w' he => ?_) fun x => h x.1.1 x.1.2 x.2
  obtain ⟨u, rfl, h1, h2⟩ := he
  have h3 : Sat C.w0 (.own 0 u E size n xs :: M) w' := hw.new h2 (r := .own 0 u E size n xs) (ownsRow_mono h1 (Nat.zero_le _)) (Nat.zero_le _) fun b hb => (ownsRow_mono h1 (Nat.le_refl _)).lt b hb
  obtain ⟨b, cap, h4, rfl, h5⟩ := h3.opn (i := 0) rfl h0
  exact ⟨⟨(b, cap), h4⟩, rfl, h5⟩
theorem SrcV.sl {A : Type} {f : A → List Value} {sz N : Nat} {l : List A} {a : Option Addr} (hf : ∀ x, (f x).length = sz) (h1 : ∀ x, (f x).all (·.oneCell') = true) (h0 : 0 < (l.map f).length → ∃ b off, a = some ⟨b, off, none⟩) (hm : slRow N a sz (l.map f) ∈ M) : SrcV C M a l.length sz (flat f l) where
  len := flat_len hf l
  one := by
    refine List.all_eq_true.2 fun v hv => ?_
    obtain ⟨cs, hcs, hv⟩ := List.mem_flatten.1 hv
    obtain ⟨x, _, rfl⟩ := List.mem_map.1 hcs
    exact List.all_eq_true.1 (h1 x) v hv
  nil := fun e => by
    rcases Nat.eq_zero_or_pos l.length with h | h
    · exact h
    · obtain ⟨b, off, h2⟩ := h0 (by simpa using h)
      rw [h2] at e; cases e
  go := fun ad ha w hw j u hj => by
    subst ha
    obtain ⟨h3, h4, h5⟩ := flat_back hf hj
    obtain ⟨b, off, h6, h7⟩ := (hw.sl hm) (by rw [List.length_map]; exact Nat.lt_of_le_of_lt (Nat.zero_le _) h4)
    cases h6
    have := (h7 (j / sz) _ (by rw [List.getElem?_map, List.getElem?_eq_getElem h4]; rfl)).2 (j % sz) u h5
    rw [addr_add, addO_eq, ← this]
    congr 2
    have := Nat.div_add_mod j sz
    rw [Nat.mul_comm] at this
    omega
/-- A call of a known function value that hands back a slice of old memory, or of a row, or a new one. -/
theorem G.cQf {g : FuncId} {f : Operand} {cap : Array Value} {args : List Operand} {vs : List Value} {at_ : Array TypeId} {sz : Nat} (Q : Option Addr → Prop) (v : Option Addr → Nat → Value) (L : List (List Value)) (hf : evS st f = some (.func (.func g) #[] cap)) (ha : evL st args = some vs) (hs : sideB all st gd d C.N q.ext = some q') [hF : Fun C.P g]
    (hc : ∀ w, Sat C.w0 M w → Calls C.P g (vs.toArray ++ cap) w fun e w' => ∃ a' c', e = .returned (v a' c') ∧ SlAt w' a' sz L ∧ (∀ p, a' = some p → 0 < L.length → Free C M w p.block) ∧ Q a' ∧ Below w.heap.size w w')
    (h : ∀ a' c', (0 < L.length → ∃ b off, a' = some ⟨b, off, none⟩) → Q a' → G q' C all ((d, v a' c') :: st) (slRow C.w0.heap.size a' sz L :: M) rest k) :
    G q C all st M ({ dst := some d, op := .call { callee := .value f, args := args.toArray, argTypes := at_ }, type := ty, pos, after, guard := gd } :: rest) k := by
  obtain ⟨g1, g2, g3⟩ := sideB_ok hs
  refine G.call (X := { x : Option Addr × Nat // (0 < L.length → ∃ b off, x.1 = some ⟨b, off, none⟩) ∧ Q x.1 }) (v := fun x => v x.1.1 x.1.2) (Mn := fun x => [slRow C.w0.heap.size x.1.1 sz L]) g1 g2 g3 hf ha (fun w hw => (hc w hw).mono fun e w' he => ?_) fun x => h x.1.1 x.1.2 x.2.1 x.2.2
  obtain ⟨a', c', rfl, h1, h2, hQ, h3⟩ := he
  refine ⟨⟨(a', c'), fun h0 => let ⟨b, off, e, _⟩ := h1 h0; ⟨b, off, e⟩, hQ⟩, rfl, (hw.ext h3).addFact (Nat.le_refl _) h1 fun b hb => ?_⟩
  obtain ⟨h0, p, h5, h6, h7⟩ := hb
  dsimp only at h5
  obtain ⟨b', off, h8, hr⟩ := h1 h0
  have hlt := (hr 0 _ (List.getElem?_eq_getElem h0)).1
  have := h2 p h5 h0
  rw [h5] at h8; cases h8
  simp only at h6 this
  subst h6
  exact ⟨h7, hlt, hw.free this h7⟩
theorem Sat.addSl {w0 w : World} {a : Option Addr} {sz : Nat} {L : List (List Value)} (hw : Sat w0 M w) (h1 : SlAt w a sz L) (h2 : ∀ p, a = some p → ∀ r ∈ M, ¬ r.lock p.block) : Sat w0 (slRow w0.heap.size a sz L :: M) w := by
  refine hw.addFact (Nat.le_refl _) h1 fun b hb => ?_
  obtain ⟨h0, p, h5, h6, h7⟩ := hb
  obtain ⟨b', off, h8, hr⟩ := h1 h0
  have hlt := (hr 0 _ (List.getElem?_eq_getElem h0)).1
  have h9 := h2 p h5
  rw [h5] at h8; cases h8
  simp only at h6 h9
  subst h6
  exact ⟨h7, hlt, h9⟩
/-- A call that hands back a value with two new slices in it. -/
theorem G.cN2 {g : FuncId} {args : List Operand} {vs : List Value} {at_ : Array TypeId} {s1 s2 : Nat} (v : Option Addr → Nat → Option Addr → Nat → Value) (L1 L2 : List (List Value)) (ha : evL st args = some vs) (hs : sideB all st gd d C.N q.ext = some q') [hF : Fun C.P g]
    (hc : ∀ w, Sat C.w0 M w → Calls C.P g vs.toArray w fun e w' => ∃ a1 c1 a2 c2, e = .returned (v a1 c1 a2 c2) ∧ SlAt w' a1 s1 L1 ∧ SlAt w' a2 s2 L2 ∧ (∀ p, a1 = some p → w.heap.size ≤ p.block) ∧ (∀ p, a2 = some p → w.heap.size ≤ p.block) ∧ Below w.heap.size w w')
    (h : ∀ a1 c1 a2 c2, (0 < L1.length → ∃ b off, a1 = some ⟨b, off, none⟩) → (0 < L2.length → ∃ b off, a2 = some ⟨b, off, none⟩) → (∀ p, a1 = some p → C.w0.heap.size ≤ p.block) → (∀ p, a2 = some p → C.w0.heap.size ≤ p.block) → G q' C all ((d, v a1 c1 a2 c2) :: st) (slRow C.w0.heap.size a1 s1 L1 :: slRow C.w0.heap.size a2 s2 L2 :: M) rest k) :
    G q C all st M ({ dst := some d, op := .call { callee := .value (.func g), args := args.toArray, argTypes := at_ }, type := ty, pos, after, guard := gd } :: rest) k := by
  obtain ⟨g1, g2, g3⟩ := sideB_ok hs
  refine G.call0 (X := { x : (Option Addr × Nat) × (Option Addr × Nat) // (0 < L1.length → ∃ b off, x.1.1 = some ⟨b, off, none⟩) ∧ (0 < L2.length → ∃ b off, x.2.1 = some ⟨b, off, none⟩) ∧ (∀ p, x.1.1 = some p → C.w0.heap.size ≤ p.block) ∧ (∀ p, x.2.1 = some p → C.w0.heap.size ≤ p.block) }) (v := fun x => v x.1.1.1 x.1.1.2 x.1.2.1 x.1.2.2) (Mn := fun x => [slRow C.w0.heap.size x.1.1.1 s1 L1, slRow C.w0.heap.size x.1.2.1 s2 L2]) g1 g2 g3 ha (fun w hw => (hc w hw).mono fun e w' he => ?_) fun x => h x.1.1.1 x.1.1.2 x.1.2.1 x.1.2.2 x.2.1 x.2.2.1 x.2.2.2.1 x.2.2.2.2
  obtain ⟨a1, c1, a2, c2, rfl, h1, h2, f1, f2, h3⟩ := he
  have nl : ∀ {a : Option Addr}, (∀ p, a = some p → w.heap.size ≤ p.block) → ∀ p, a = some p → ∀ r ∈ M, ¬ r.lock p.block := fun hf p hp r hr hl => by
    have := ((hw.old r hr).2 p.block (Row.lock_sup hl)).2
    have := hf p hp
    omega
  have k1 := (hw.ext h3).addSl h2 (nl f2)
  refine ⟨⟨((a1, c1), (a2, c2)), fun h0 => (let ⟨b, off, e, _⟩ := h1 h0; ⟨b, off, e⟩), fun h0 => (let ⟨b, off, e, _⟩ := h2 h0; ⟨b, off, e⟩), fun p hp => Nat.le_trans hw.size (f1 p hp), fun p hp => Nat.le_trans hw.size (f2 p hp)⟩, rfl, k1.addSl h1 fun p hp r hr => ?_⟩
  rcases List.mem_cons.1 hr with rfl | hr
  · exact fun hl => hl
  · exact nl f1 p hp r hr
/-- A call with a plain value, in a place of the plan where only it may come. -/
theorem G.cE {g : FuncId} {args : List Operand} {vs : List Value} {at_ : Array TypeId} {v : Value} (ha : evL st args = some vs) (hs : sideB all st gd d C.N q.ext = some q') [hF : Fun C.P g]
    (hc : ∀ w, Sat C.w0 M w → Calls C.P g vs.toArray w fun e w' => e = .returned v ∧ Below w.heap.size w w') (h : G q' C all ((d, v) :: st) M rest k) :
    G q C all st M ({ dst := some d, op := .call { callee := .value (.func g), args := args.toArray, argTypes := at_ }, type := ty, pos, after, guard := gd } :: rest) k :=
  let ⟨g1, g2, g3⟩ := sideB_ok hs
  G.call0 (X := Unit) (v := fun _ => v) (Mn := fun _ => []) g1 g2 g3 ha (fun w hw => (hc w hw).mono fun e w' he => ⟨(), he.1, hw.ext he.2⟩) fun _ => h
theorem G.mf {f : Fn} {caps : List Operand} {vs : List Value} (ha : evL st caps = some vs) (hs : sideB all st gd d C.N q.calm = some q') (h : G q' C all ((d, .func f #[] vs.toArray) :: st) M rest k) :
    G q C all st M ({ dst := some d, op := .makeFunc f #[] caps.toArray, type := ty, pos, after, guard := gd } :: rest) k :=
  let ⟨g1, g2, g3⟩ := sideB_ok hs
  G.makeFunc ha g1 g2 g3 h
/-- A byte of a string. -/
theorem G.sx {T : TypeId} {x y : Operand} {l : List UInt8} {ki : IntKind} {e : Int} {i : Nat} {v : UInt8} (hx : evS st x = some (.string (bs l))) (hy : evS st y = some (.int ki e)) (he : e = (i : Int)) (hv : l[i]? = some v) [hT : TString C.P T] (hs : sideB all st gd d C.N q.calm = some q') (h : G q' C all ((d, .int .u8 (v.toNat : Int)) :: st) M rest k) :
    G q C all st M ({ dst := some d, op := .index T x y, type := ty, pos, after, guard := gd } :: rest) k := by
  obtain ⟨g1, g2, g3⟩ := sideB_ok hs
  obtain ⟨hi, hv2⟩ := List.getElem?_eq_some_iff.1 hv
  subst hv2
  exact G.idxStr hx hy he hi g1 g2 g3 h
theorem or32 {a b : Nat} (hb : b < 4294967296) (ha : a < 4294967296) : IntKind.u64.wrap ((BitVec.ofInt 64 ((a * 4294967296 : Nat) : Int) ||| BitVec.ofInt 64 (b : Int)).toNat : Int) = ((a * 4294967296 + b : Nat) : Int) := by
  have h1 : (BitVec.ofInt 64 ((a * 4294967296 : Nat) : Int) ||| BitVec.ofInt 64 (b : Int)).toNat = a * 4294967296 + b := by
    rw [BitVec.toNat_or, BitVec.ofInt_natCast, BitVec.ofInt_natCast, BitVec.toNat_ofNat, BitVec.toNat_ofNat, Nat.mod_eq_of_lt (by omega), Nat.mod_eq_of_lt (by omega)]
    have := Nat.two_pow_add_eq_or_of_lt (i := 32) (b := b) (by simpa using hb) a
    rw [Nat.mul_comm a]
    simpa using this.symm
  rw [h1, wrap_u64]
  omega
end Go.Sl
/-
  The types and functions of this seat, as the small logic of memory takes them.
-/
namespace Go.Proofs
open Go.Sl
instance : TPlain Tryz.prog 1 := ⟨Tryz.isAgg1⟩
instance : TSize Tryz.prog 1 1 := ⟨Tryz.sizeOf1⟩
instance : TZero Tryz.prog 1 [.nilFunc] := ⟨fun w => ⟨_, Tryz.zeroValue1 w, rfl⟩⟩
instance : TPlain Tryz.prog 2 := ⟨Tryz.isAgg2⟩
instance : TSize Tryz.prog 2 1 := ⟨Tryz.sizeOf2⟩
instance : TZero Tryz.prog 2 [.int .i64 0] := ⟨fun w => ⟨_, Tryz.zeroValue2 w, rfl⟩⟩
instance : TIntK Tryz.prog 2 .i64 := ⟨Tryz.underlying2⟩
instance : TPlain Tryz.prog 3 := ⟨Tryz.isAgg3⟩
instance : TSize Tryz.prog 3 1 := ⟨Tryz.sizeOf3⟩
instance : TZero Tryz.prog 3 [.int .i64 0] := ⟨fun w => ⟨_, Tryz.zeroValue3 w, rfl⟩⟩
instance : TIntK Tryz.prog 3 .i64 := ⟨Tryz.underlying3⟩
instance : TPlain Tryz.prog 4 := ⟨Tryz.isAgg4⟩
instance : TSize Tryz.prog 4 1 := ⟨Tryz.sizeOf4⟩
instance : TZero Tryz.prog 4 [.bool false] := ⟨fun w => ⟨_, Tryz.zeroValue4 w, rfl⟩⟩
instance : TBool Tryz.prog 4 := ⟨Tryz.underlying4⟩
instance : TPlain Tryz.prog 5 := ⟨Tryz.isAgg5⟩
instance : TSize Tryz.prog 5 1 := ⟨Tryz.sizeOf5⟩
instance : TZero Tryz.prog 5 [.int .u8 0] := ⟨fun w => ⟨_, Tryz.zeroValue5 w, rfl⟩⟩
instance : TIntK Tryz.prog 5 .u8 := ⟨Tryz.underlying5⟩
instance : TPlain Tryz.prog 9 := ⟨Tryz.isAgg9⟩
instance : TSize Tryz.prog 9 1 := ⟨Tryz.sizeOf9⟩
instance : TString Tryz.prog 9 := ⟨Tryz.underlying9⟩
instance : TZero Tryz.prog 9 [.string ⟨#[]⟩] := ⟨fun w => ⟨_, Tryz.zeroValue9 w, rfl⟩⟩
instance : TPlain Tryz.prog 12 := ⟨Tryz.isAgg12⟩
instance : TSize Tryz.prog 12 1 := ⟨Tryz.sizeOf12⟩
instance : TZero Tryz.prog 12 [.int .u64 0] := ⟨fun w => ⟨_, Tryz.zeroValue12 w, rfl⟩⟩
instance : TIntK Tryz.prog 12 .u64 := ⟨Tryz.underlying12⟩
instance : TAgg Tryz.prog 13 2 := ⟨Tryz.isAgg13, Tryz.sizeOf13⟩
instance : TSize Tryz.prog 13 2 := ⟨Tryz.sizeOf13⟩
instance : TZero Tryz.prog 13 [.string ⟨#[]⟩, .int .u64 0] := ⟨fun w => ⟨_, Tryz.zeroValue13 w, rfl⟩⟩
instance : TField Tryz.prog 13 0 0 := field_mk (n := 1) Tryz.runUnderlying13 rfl Tryz.sizeOf9 (by decide) rfl
instance : TField Tryz.prog 13 1 1 := field_mk (n := 1) Tryz.runUnderlying13 rfl Tryz.sizeOf12 (by decide) rfl
instance : TBuild Tryz.prog 13 [.string ⟨#[]⟩, .int .u64 0] [(0, 1), (1, 1)] := ⟨fun parts out w h => by simp [Instr.build, Tryz.zeroValue13, Tryz.runUnderlying13, Tryz.sizeOf12, Tryz.sizeOf9, Value.cells, h]⟩
instance : TPlain Tryz.prog 20 := ⟨Tryz.isAgg20⟩
instance : TSize Tryz.prog 20 1 := ⟨Tryz.sizeOf20⟩
instance : TZero Tryz.prog 20 [.nilIface] := ⟨fun w => ⟨_, Tryz.zeroValue20 w, rfl⟩⟩
instance : TPlain Tryz.prog 21 := ⟨Tryz.isAgg21⟩
instance : TSize Tryz.prog 21 1 := ⟨Tryz.sizeOf21⟩
instance : TZero Tryz.prog 21 [.int .i32 0] := ⟨fun w => ⟨_, Tryz.zeroValue21 w, rfl⟩⟩
instance : TIntK Tryz.prog 21 .i32 := ⟨Tryz.underlying21⟩
instance : TPlain Tryz.prog 22 := ⟨Tryz.isAgg22⟩
instance : TSize Tryz.prog 22 1 := ⟨Tryz.sizeOf22⟩
instance : TSlice Tryz.prog 22 3 1 := ⟨Tryz.underlying22, Tryz.sizeOf3⟩
instance : TZero Tryz.prog 22 [.slice none 0 0] := ⟨fun w => ⟨_, Tryz.zeroValue22 w, rfl⟩⟩
instance : TElem Tryz.prog 22 3 (.int .i64 0) 1 8 := ⟨Tryz.underlying22, by kernel_rfl, rfl, by decide⟩
instance : TAgg Tryz.prog 23 2 := ⟨Tryz.isAgg23, Tryz.sizeOf23⟩
instance : TSize Tryz.prog 23 2 := ⟨Tryz.sizeOf23⟩
instance : TZero Tryz.prog 23 [.int .i64 0, .slice none 0 0] := ⟨fun w => ⟨_, Tryz.zeroValue23 w, rfl⟩⟩
instance : TField Tryz.prog 23 0 0 := field_mk (n := 1) Tryz.runUnderlying23 rfl Tryz.sizeOf3 (by decide) rfl
instance : TField Tryz.prog 23 1 1 := field_mk (n := 1) Tryz.runUnderlying23 rfl Tryz.sizeOf22 (by decide) rfl
instance : TBuild Tryz.prog 23 [.int .i64 0, .slice none 0 0] [(0, 1), (1, 1)] := ⟨fun parts out w h => by simp [Instr.build, Tryz.zeroValue23, Tryz.runUnderlying23, Tryz.sizeOf22, Tryz.sizeOf3, Value.cells, h]⟩
instance : TAgg Tryz.prog 24 2 := ⟨Tryz.isAgg24, Tryz.sizeOf24⟩
instance : TSize Tryz.prog 24 2 := ⟨Tryz.sizeOf24⟩
instance : TZero Tryz.prog 24 [.int .i64 0, .slice none 0 0] := ⟨fun w => ⟨_, Tryz.zeroValue24 w, rfl⟩⟩
instance : TField Tryz.prog 24 0 0 := field_mk (n := 1) Tryz.runUnderlying24 rfl Tryz.sizeOf3 (by decide) rfl
instance : TField Tryz.prog 24 1 1 := field_mk (n := 1) Tryz.runUnderlying24 rfl Tryz.sizeOf22 (by decide) rfl
instance : TBuild Tryz.prog 24 [.int .i64 0, .slice none 0 0] [(0, 1), (1, 1)] := ⟨fun parts out w h => by simp [Instr.build, Tryz.zeroValue24, Tryz.runUnderlying24, Tryz.sizeOf22, Tryz.sizeOf3, Value.cells, h]⟩
instance : TPlain Tryz.prog 25 := ⟨Tryz.isAgg25⟩
instance : TSize Tryz.prog 25 1 := ⟨Tryz.sizeOf25⟩
instance : TSlice Tryz.prog 25 59 7 := ⟨Tryz.underlying25, Tryz.sizeOf59⟩
instance : TZero Tryz.prog 25 [.slice none 0 0] := ⟨fun w => ⟨_, Tryz.zeroValue25 w, rfl⟩⟩
instance : TElem Tryz.prog 25 59 (.agg #[.int .i64 0, .int .i64 0, .bool false, .string ⟨#[]⟩, .string ⟨#[]⟩, .int .i64 0, .slice none 0 0]) 7 88 := ⟨Tryz.underlying25, by kernel_rfl, rfl, by decide⟩
instance : TPlain Tryz.prog 26 := ⟨Tryz.isAgg26⟩
instance : TSize Tryz.prog 26 1 := ⟨Tryz.sizeOf26⟩
instance : TSlice Tryz.prog 26 88 2 := ⟨Tryz.underlying26, Tryz.sizeOf88⟩
instance : TZero Tryz.prog 26 [.slice none 0 0] := ⟨fun w => ⟨_, Tryz.zeroValue26 w, rfl⟩⟩
instance : TElem Tryz.prog 26 88 (.agg #[.int .i64 0, .int .i64 0]) 2 16 := ⟨Tryz.underlying26, by kernel_rfl, rfl, by decide⟩
instance : TAgg Tryz.prog 27 5 := ⟨Tryz.isAgg27, Tryz.sizeOf27⟩
instance : TSize Tryz.prog 27 5 := ⟨Tryz.sizeOf27⟩
instance : TZero Tryz.prog 27 [.int .i64 0, .int .i64 0, .slice none 0 0, .int .i64 0, .int .i64 0] := ⟨fun w => ⟨_, Tryz.zeroValue27 w, rfl⟩⟩
instance : TField Tryz.prog 27 0 0 := field_mk (n := 1) Tryz.runUnderlying27 rfl Tryz.sizeOf3 (by decide) rfl
instance : TField Tryz.prog 27 1 1 := field_mk (n := 1) Tryz.runUnderlying27 rfl Tryz.sizeOf3 (by decide) rfl
instance : TField Tryz.prog 27 2 2 := field_mk (n := 1) Tryz.runUnderlying27 rfl Tryz.sizeOf26 (by decide) rfl
instance : TField Tryz.prog 27 3 3 := field_mk (n := 1) Tryz.runUnderlying27 rfl Tryz.sizeOf3 (by decide) rfl
instance : TField Tryz.prog 27 4 4 := field_mk (n := 1) Tryz.runUnderlying27 rfl Tryz.sizeOf3 (by decide) rfl
instance : TBuild Tryz.prog 27 [.int .i64 0, .int .i64 0, .slice none 0 0, .int .i64 0, .int .i64 0] [(0, 1), (1, 1), (2, 1), (3, 1), (4, 1)] := ⟨fun parts out w h => by simp [Instr.build, Tryz.zeroValue27, Tryz.runUnderlying27, Tryz.sizeOf26, Tryz.sizeOf3, Value.cells, h]⟩
instance : TAgg Tryz.prog 28 5 := ⟨Tryz.isAgg28, Tryz.sizeOf28⟩
instance : TSize Tryz.prog 28 5 := ⟨Tryz.sizeOf28⟩
instance : TZero Tryz.prog 28 [.int .i64 0, .int .i64 0, .slice none 0 0, .int .i64 0, .int .i64 0] := ⟨fun w => ⟨_, Tryz.zeroValue28 w, rfl⟩⟩
instance : TField Tryz.prog 28 0 0 := field_mk (n := 1) Tryz.runUnderlying28 rfl Tryz.sizeOf3 (by decide) rfl
instance : TField Tryz.prog 28 1 1 := field_mk (n := 1) Tryz.runUnderlying28 rfl Tryz.sizeOf3 (by decide) rfl
instance : TField Tryz.prog 28 2 2 := field_mk (n := 1) Tryz.runUnderlying28 rfl Tryz.sizeOf26 (by decide) rfl
instance : TField Tryz.prog 28 3 3 := field_mk (n := 1) Tryz.runUnderlying28 rfl Tryz.sizeOf3 (by decide) rfl
instance : TField Tryz.prog 28 4 4 := field_mk (n := 1) Tryz.runUnderlying28 rfl Tryz.sizeOf3 (by decide) rfl
instance : TBuild Tryz.prog 28 [.int .i64 0, .int .i64 0, .slice none 0 0, .int .i64 0, .int .i64 0] [(0, 1), (1, 1), (2, 1), (3, 1), (4, 1)] := ⟨fun parts out w h => by simp [Instr.build, Tryz.zeroValue28, Tryz.runUnderlying28, Tryz.sizeOf26, Tryz.sizeOf3, Value.cells, h]⟩
instance : TAgg Tryz.prog 29 2 := ⟨Tryz.isAgg29, Tryz.sizeOf29⟩
instance : TSize Tryz.prog 29 2 := ⟨Tryz.sizeOf29⟩
instance : TZero Tryz.prog 29 [.int .i64 0, .int .i64 0] := ⟨fun w => ⟨_, Tryz.zeroValue29 w, rfl⟩⟩
instance : TField Tryz.prog 29 0 0 := field_mk (n := 1) Tryz.runUnderlying29 rfl Tryz.sizeOf3 (by decide) rfl
instance : TField Tryz.prog 29 1 1 := field_mk (n := 1) Tryz.runUnderlying29 rfl Tryz.sizeOf3 (by decide) rfl
instance : TBuild Tryz.prog 29 [.int .i64 0, .int .i64 0] [(0, 1), (1, 1)] := ⟨fun parts out w h => by simp [Instr.build, Tryz.zeroValue29, Tryz.runUnderlying29, Tryz.sizeOf3, Value.cells, h]⟩
instance : TEq2 Tryz.prog 29 := ⟨fun a b c d w => by simp [go_sem, Op.equal, Op.maxDepth]; by_cases h1 : a = c <;> by_cases h2 : b = d <;> simp [h1, h2], by kernel_rfl⟩
instance : TAgg Tryz.prog 30 2 := ⟨Tryz.isAgg30, Tryz.sizeOf30⟩
instance : TSize Tryz.prog 30 2 := ⟨Tryz.sizeOf30⟩
instance : TZero Tryz.prog 30 [.int .i64 0, .int .i64 0] := ⟨fun w => ⟨_, Tryz.zeroValue30 w, rfl⟩⟩
instance : TField Tryz.prog 30 0 0 := field_mk (n := 1) Tryz.runUnderlying30 rfl Tryz.sizeOf3 (by decide) rfl
instance : TField Tryz.prog 30 1 1 := field_mk (n := 1) Tryz.runUnderlying30 rfl Tryz.sizeOf3 (by decide) rfl
instance : TBuild Tryz.prog 30 [.int .i64 0, .int .i64 0] [(0, 1), (1, 1)] := ⟨fun parts out w h => by simp [Instr.build, Tryz.zeroValue30, Tryz.runUnderlying30, Tryz.sizeOf3, Value.cells, h]⟩
instance : TEq2 Tryz.prog 30 := ⟨fun a b c d w => by simp [go_sem, Op.equal, Op.maxDepth]; by_cases h1 : a = c <;> by_cases h2 : b = d <;> simp [h1, h2], by kernel_rfl⟩
instance : TAgg Tryz.prog 31 3 := ⟨Tryz.isAgg31, Tryz.sizeOf31⟩
instance : TSize Tryz.prog 31 3 := ⟨Tryz.sizeOf31⟩
instance : TZero Tryz.prog 31 [.bool false, .string ⟨#[]⟩, .string ⟨#[]⟩] := ⟨fun w => ⟨_, Tryz.zeroValue31 w, rfl⟩⟩
instance : TField Tryz.prog 31 0 0 := field_mk (n := 1) Tryz.runUnderlying31 rfl Tryz.sizeOf4 (by decide) rfl
instance : TField Tryz.prog 31 1 1 := field_mk (n := 1) Tryz.runUnderlying31 rfl Tryz.sizeOf9 (by decide) rfl
instance : TField Tryz.prog 31 2 2 := field_mk (n := 1) Tryz.runUnderlying31 rfl Tryz.sizeOf9 (by decide) rfl
instance : TBuild Tryz.prog 31 [.bool false, .string ⟨#[]⟩, .string ⟨#[]⟩] [(0, 1), (1, 1), (2, 1)] := ⟨fun parts out w h => by simp [Instr.build, Tryz.zeroValue31, Tryz.runUnderlying31, Tryz.sizeOf4, Tryz.sizeOf9, Value.cells, h]⟩
instance : TAgg Tryz.prog 32 3 := ⟨Tryz.isAgg32, Tryz.sizeOf32⟩
instance : TSize Tryz.prog 32 3 := ⟨Tryz.sizeOf32⟩
instance : TZero Tryz.prog 32 [.bool false, .string ⟨#[]⟩, .string ⟨#[]⟩] := ⟨fun w => ⟨_, Tryz.zeroValue32 w, rfl⟩⟩
instance : TField Tryz.prog 32 0 0 := field_mk (n := 1) Tryz.runUnderlying32 rfl Tryz.sizeOf4 (by decide) rfl
instance : TField Tryz.prog 32 1 1 := field_mk (n := 1) Tryz.runUnderlying32 rfl Tryz.sizeOf9 (by decide) rfl
instance : TField Tryz.prog 32 2 2 := field_mk (n := 1) Tryz.runUnderlying32 rfl Tryz.sizeOf9 (by decide) rfl
instance : TBuild Tryz.prog 32 [.bool false, .string ⟨#[]⟩, .string ⟨#[]⟩] [(0, 1), (1, 1), (2, 1)] := ⟨fun parts out w h => by simp [Instr.build, Tryz.zeroValue32, Tryz.runUnderlying32, Tryz.sizeOf4, Tryz.sizeOf9, Value.cells, h]⟩
instance : TAgg Tryz.prog 33 11 := ⟨Tryz.isAgg33, Tryz.sizeOf33⟩
instance : TSize Tryz.prog 33 11 := ⟨Tryz.sizeOf33⟩
instance : TZero Tryz.prog 33 [.int .i64 0, .int .i64 0, .slice none 0 0, .int .i64 0, .int .i64 0, .int .i64 0, .int .i64 0, .int .i64 0, .bool false, .string ⟨#[]⟩, .string ⟨#[]⟩] := ⟨fun w => ⟨_, Tryz.zeroValue33 w, rfl⟩⟩
instance : TField Tryz.prog 33 0 0 := field_mk (n := 5) Tryz.runUnderlying33 rfl Tryz.sizeOf28 (by decide) rfl
instance : TField Tryz.prog 33 1 5 := field_mk (n := 1) Tryz.runUnderlying33 rfl Tryz.sizeOf3 (by decide) rfl
instance : TField Tryz.prog 33 2 6 := field_mk (n := 2) Tryz.runUnderlying33 rfl Tryz.sizeOf30 (by decide) rfl
instance : TField Tryz.prog 33 3 8 := field_mk (n := 3) Tryz.runUnderlying33 rfl Tryz.sizeOf32 (by decide) rfl
instance : TBuild Tryz.prog 33 [.int .i64 0, .int .i64 0, .slice none 0 0, .int .i64 0, .int .i64 0, .int .i64 0, .int .i64 0, .int .i64 0, .bool false, .string ⟨#[]⟩, .string ⟨#[]⟩] [(0, 5), (5, 1), (6, 2), (8, 3)] := ⟨fun parts out w h => by simp [Instr.build, Tryz.zeroValue33, Tryz.runUnderlying33, Tryz.sizeOf28, Tryz.sizeOf3, Tryz.sizeOf30, Tryz.sizeOf32, Value.cells, h]⟩
instance : TAgg Tryz.prog 34 11 := ⟨Tryz.isAgg34, Tryz.sizeOf34⟩
instance : TSize Tryz.prog 34 11 := ⟨Tryz.sizeOf34⟩
instance : TZero Tryz.prog 34 [.int .i64 0, .int .i64 0, .slice none 0 0, .int .i64 0, .int .i64 0, .int .i64 0, .int .i64 0, .int .i64 0, .bool false, .string ⟨#[]⟩, .string ⟨#[]⟩] := ⟨fun w => ⟨_, Tryz.zeroValue34 w, rfl⟩⟩
instance : TField Tryz.prog 34 0 0 := field_mk (n := 5) Tryz.runUnderlying34 rfl Tryz.sizeOf28 (by decide) rfl
instance : TField Tryz.prog 34 1 5 := field_mk (n := 1) Tryz.runUnderlying34 rfl Tryz.sizeOf3 (by decide) rfl
instance : TField Tryz.prog 34 2 6 := field_mk (n := 2) Tryz.runUnderlying34 rfl Tryz.sizeOf30 (by decide) rfl
instance : TField Tryz.prog 34 3 8 := field_mk (n := 3) Tryz.runUnderlying34 rfl Tryz.sizeOf32 (by decide) rfl
instance : TBuild Tryz.prog 34 [.int .i64 0, .int .i64 0, .slice none 0 0, .int .i64 0, .int .i64 0, .int .i64 0, .int .i64 0, .int .i64 0, .bool false, .string ⟨#[]⟩, .string ⟨#[]⟩] [(0, 5), (5, 1), (6, 2), (8, 3)] := ⟨fun parts out w h => by simp [Instr.build, Tryz.zeroValue34, Tryz.runUnderlying34, Tryz.sizeOf28, Tryz.sizeOf3, Tryz.sizeOf30, Tryz.sizeOf32, Value.cells, h]⟩
instance : TPlain Tryz.prog 35 := ⟨Tryz.isAgg35⟩
instance : TSize Tryz.prog 35 1 := ⟨Tryz.sizeOf35⟩
instance : TZero Tryz.prog 35 [.nilFunc] := ⟨fun w => ⟨_, Tryz.zeroValue35 w, rfl⟩⟩
instance : TPlain Tryz.prog 36 := ⟨Tryz.isAgg36⟩
instance : TSize Tryz.prog 36 1 := ⟨Tryz.sizeOf36⟩
instance : TZero Tryz.prog 36 [.nilFunc] := ⟨fun w => ⟨_, Tryz.zeroValue36 w, rfl⟩⟩
instance : TPlain Tryz.prog 37 := ⟨Tryz.isAgg37⟩
instance : TSize Tryz.prog 37 1 := ⟨Tryz.sizeOf37⟩
instance : TSlice Tryz.prog 37 28 5 := ⟨Tryz.underlying37, Tryz.sizeOf28⟩
instance : TZero Tryz.prog 37 [.slice none 0 0] := ⟨fun w => ⟨_, Tryz.zeroValue37 w, rfl⟩⟩
instance : TElem Tryz.prog 37 28 (.agg #[.int .i64 0, .int .i64 0, .slice none 0 0, .int .i64 0, .int .i64 0]) 5 56 := ⟨Tryz.underlying37, by kernel_rfl, rfl, by decide⟩
instance : TPlain Tryz.prog 38 := ⟨Tryz.isAgg38⟩
instance : TSize Tryz.prog 38 1 := ⟨Tryz.sizeOf38⟩
instance : TZero Tryz.prog 38 [.nilFunc] := ⟨fun w => ⟨_, Tryz.zeroValue38 w, rfl⟩⟩
instance : TPlain Tryz.prog 39 := ⟨Tryz.isAgg39⟩
instance : TSize Tryz.prog 39 1 := ⟨Tryz.sizeOf39⟩
instance : TZero Tryz.prog 39 [.int .i64 0] := ⟨fun w => ⟨_, Tryz.zeroValue39 w, rfl⟩⟩
instance : TIntK Tryz.prog 39 .i64 := ⟨Tryz.underlying39⟩
instance : TPlain Tryz.prog 41 := ⟨Tryz.isAgg41⟩
instance : TSize Tryz.prog 41 1 := ⟨Tryz.sizeOf41⟩
instance : TZero Tryz.prog 41 [.nilFunc] := ⟨fun w => ⟨_, Tryz.zeroValue41 w, rfl⟩⟩
instance : TAgg Tryz.prog 42 4 := ⟨Tryz.isAgg42, Tryz.sizeOf42⟩
instance : TSize Tryz.prog 42 4 := ⟨Tryz.sizeOf42⟩
instance : TZero Tryz.prog 42 [.bool false, .string ⟨#[]⟩, .string ⟨#[]⟩, .int .i64 0] := ⟨fun w => ⟨_, Tryz.zeroValue42 w, rfl⟩⟩
instance : TField Tryz.prog 42 0 0 := field_mk (n := 3) Tryz.runUnderlying42 rfl Tryz.sizeOf32 (by decide) rfl
instance : TField Tryz.prog 42 1 3 := field_mk (n := 1) Tryz.runUnderlying42 rfl Tryz.sizeOf39 (by decide) rfl
instance : TBuild Tryz.prog 42 [.bool false, .string ⟨#[]⟩, .string ⟨#[]⟩, .int .i64 0] [(0, 3), (3, 1)] := ⟨fun parts out w h => by simp [Instr.build, Tryz.zeroValue42, Tryz.runUnderlying42, Tryz.sizeOf32, Tryz.sizeOf39, Value.cells, h]⟩
instance : TAgg Tryz.prog 43 4 := ⟨Tryz.isAgg43, Tryz.sizeOf43⟩
instance : TSize Tryz.prog 43 4 := ⟨Tryz.sizeOf43⟩
instance : TZero Tryz.prog 43 [.bool false, .string ⟨#[]⟩, .string ⟨#[]⟩, .int .i64 0] := ⟨fun w => ⟨_, Tryz.zeroValue43 w, rfl⟩⟩
instance : TField Tryz.prog 43 0 0 := field_mk (n := 3) Tryz.runUnderlying43 rfl Tryz.sizeOf32 (by decide) rfl
instance : TField Tryz.prog 43 1 3 := field_mk (n := 1) Tryz.runUnderlying43 rfl Tryz.sizeOf39 (by decide) rfl
instance : TBuild Tryz.prog 43 [.bool false, .string ⟨#[]⟩, .string ⟨#[]⟩, .int .i64 0] [(0, 3), (3, 1)] := ⟨fun parts out w h => by simp [Instr.build, Tryz.zeroValue43, Tryz.runUnderlying43, Tryz.sizeOf32, Tryz.sizeOf39, Value.cells, h]⟩
instance : TPlain Tryz.prog 44 := ⟨Tryz.isAgg44⟩
instance : TSize Tryz.prog 44 1 := ⟨Tryz.sizeOf44⟩
instance : TZero Tryz.prog 44 [.nilFunc] := ⟨fun w => ⟨_, Tryz.zeroValue44 w, rfl⟩⟩
instance : TPlain Tryz.prog 46 := ⟨Tryz.isAgg46⟩
instance : TSize Tryz.prog 46 1 := ⟨Tryz.sizeOf46⟩
instance : TZero Tryz.prog 46 [.nilFunc] := ⟨fun w => ⟨_, Tryz.zeroValue46 w, rfl⟩⟩
instance : TAgg Tryz.prog 47 2 := ⟨Tryz.isAgg47, Tryz.sizeOf47⟩
instance : TSize Tryz.prog 47 2 := ⟨Tryz.sizeOf47⟩
instance : TZero Tryz.prog 47 [.slice none 0 0, .int .i64 0] := ⟨fun w => ⟨_, Tryz.zeroValue47 w, rfl⟩⟩
instance : TField Tryz.prog 47 0 0 := field_mk (n := 1) Tryz.runUnderlying47 rfl Tryz.sizeOf25 (by decide) rfl
instance : TField Tryz.prog 47 1 1 := field_mk (n := 1) Tryz.runUnderlying47 rfl Tryz.sizeOf39 (by decide) rfl
instance : TBuild Tryz.prog 47 [.slice none 0 0, .int .i64 0] [(0, 1), (1, 1)] := ⟨fun parts out w h => by simp [Instr.build, Tryz.zeroValue47, Tryz.runUnderlying47, Tryz.sizeOf25, Tryz.sizeOf39, Value.cells, h]⟩
instance : TAgg Tryz.prog 48 2 := ⟨Tryz.isAgg48, Tryz.sizeOf48⟩
instance : TSize Tryz.prog 48 2 := ⟨Tryz.sizeOf48⟩
instance : TZero Tryz.prog 48 [.slice none 0 0, .int .i64 0] := ⟨fun w => ⟨_, Tryz.zeroValue48 w, rfl⟩⟩
instance : TField Tryz.prog 48 0 0 := field_mk (n := 1) Tryz.runUnderlying48 rfl Tryz.sizeOf25 (by decide) rfl
instance : TField Tryz.prog 48 1 1 := field_mk (n := 1) Tryz.runUnderlying48 rfl Tryz.sizeOf39 (by decide) rfl
instance : TBuild Tryz.prog 48 [.slice none 0 0, .int .i64 0] [(0, 1), (1, 1)] := ⟨fun parts out w h => by simp [Instr.build, Tryz.zeroValue48, Tryz.runUnderlying48, Tryz.sizeOf25, Tryz.sizeOf39, Value.cells, h]⟩
instance : TPlain Tryz.prog 49 := ⟨Tryz.isAgg49⟩
instance : TSize Tryz.prog 49 1 := ⟨Tryz.sizeOf49⟩
instance : TZero Tryz.prog 49 [.nilFunc] := ⟨fun w => ⟨_, Tryz.zeroValue49 w, rfl⟩⟩
instance : TPlain Tryz.prog 50 := ⟨Tryz.isAgg50⟩
instance : TSize Tryz.prog 50 1 := ⟨Tryz.sizeOf50⟩
instance : TZero Tryz.prog 50 [.nilFunc] := ⟨fun w => ⟨_, Tryz.zeroValue50 w, rfl⟩⟩
instance : TPlain Tryz.prog 51 := ⟨Tryz.isAgg51⟩
instance : TSize Tryz.prog 51 1 := ⟨Tryz.sizeOf51⟩
instance : TZero Tryz.prog 51 [.nilFunc] := ⟨fun w => ⟨_, Tryz.zeroValue51 w, rfl⟩⟩
instance : TPlain Tryz.prog 52 := ⟨Tryz.isAgg52⟩
instance : TSize Tryz.prog 52 1 := ⟨Tryz.sizeOf52⟩
instance : TZero Tryz.prog 52 [.nilFunc] := ⟨fun w => ⟨_, Tryz.zeroValue52 w, rfl⟩⟩
instance : TPlain Tryz.prog 53 := ⟨Tryz.isAgg53⟩
instance : TSize Tryz.prog 53 1 := ⟨Tryz.sizeOf53⟩
instance : TZero Tryz.prog 53 [.nilFunc] := ⟨fun w => ⟨_, Tryz.zeroValue53 w, rfl⟩⟩
instance : TPlain Tryz.prog 54 := ⟨Tryz.isAgg54⟩
instance : TSize Tryz.prog 54 1 := ⟨Tryz.sizeOf54⟩
instance : TZero Tryz.prog 54 [.nilFunc] := ⟨fun w => ⟨_, Tryz.zeroValue54 w, rfl⟩⟩
instance : TPlain Tryz.prog 55 := ⟨Tryz.isAgg55⟩
instance : TSize Tryz.prog 55 1 := ⟨Tryz.sizeOf55⟩
instance : TSlice Tryz.prog 55 126 4 := ⟨Tryz.underlying55, Tryz.sizeOf126⟩
instance : TZero Tryz.prog 55 [.slice none 0 0] := ⟨fun w => ⟨_, Tryz.zeroValue55 w, rfl⟩⟩
instance : TElem Tryz.prog 55 126 (.agg #[.int .i64 0, .bool false, .string ⟨#[]⟩, .string ⟨#[]⟩]) 4 48 := ⟨Tryz.underlying55, by kernel_rfl, rfl, by decide⟩
instance : TAgg Tryz.prog 56 1 := ⟨Tryz.isAgg56, Tryz.sizeOf56⟩
instance : TSize Tryz.prog 56 1 := ⟨Tryz.sizeOf56⟩
instance : TZero Tryz.prog 56 [.slice none 0 0] := ⟨fun w => ⟨_, Tryz.zeroValue56 w, rfl⟩⟩
instance : TField Tryz.prog 56 0 0 := field_mk (n := 1) Tryz.runUnderlying56 rfl Tryz.sizeOf55 (by decide) rfl
instance : TBuild Tryz.prog 56 [.slice none 0 0] [(0, 1)] := ⟨fun parts out w h => by simp [Instr.build, Tryz.zeroValue56, Tryz.runUnderlying56, Tryz.sizeOf55, Value.cells, h]⟩
instance : TAgg Tryz.prog 57 1 := ⟨Tryz.isAgg57, Tryz.sizeOf57⟩
instance : TSize Tryz.prog 57 1 := ⟨Tryz.sizeOf57⟩
instance : TZero Tryz.prog 57 [.slice none 0 0] := ⟨fun w => ⟨_, Tryz.zeroValue57 w, rfl⟩⟩
instance : TField Tryz.prog 57 0 0 := field_mk (n := 1) Tryz.runUnderlying57 rfl Tryz.sizeOf55 (by decide) rfl
instance : TBuild Tryz.prog 57 [.slice none 0 0] [(0, 1)] := ⟨fun parts out w h => by simp [Instr.build, Tryz.zeroValue57, Tryz.runUnderlying57, Tryz.sizeOf55, Value.cells, h]⟩
instance : TAgg Tryz.prog 58 7 := ⟨Tryz.isAgg58, Tryz.sizeOf58⟩
instance : TSize Tryz.prog 58 7 := ⟨Tryz.sizeOf58⟩
instance : TZero Tryz.prog 58 [.int .i64 0, .int .i64 0, .bool false, .string ⟨#[]⟩, .string ⟨#[]⟩, .int .i64 0, .slice none 0 0] := ⟨fun w => ⟨_, Tryz.zeroValue58 w, rfl⟩⟩
instance : TField Tryz.prog 58 0 0 := field_mk (n := 1) Tryz.runUnderlying58 rfl Tryz.sizeOf3 (by decide) rfl
instance : TField Tryz.prog 58 1 1 := field_mk (n := 1) Tryz.runUnderlying58 rfl Tryz.sizeOf3 (by decide) rfl
instance : TField Tryz.prog 58 2 2 := field_mk (n := 3) Tryz.runUnderlying58 rfl Tryz.sizeOf32 (by decide) rfl
instance : TField Tryz.prog 58 3 5 := field_mk (n := 1) Tryz.runUnderlying58 rfl Tryz.sizeOf3 (by decide) rfl
instance : TField Tryz.prog 58 4 6 := field_mk (n := 1) Tryz.runUnderlying58 rfl Tryz.sizeOf57 (by decide) rfl
instance : TBuild Tryz.prog 58 [.int .i64 0, .int .i64 0, .bool false, .string ⟨#[]⟩, .string ⟨#[]⟩, .int .i64 0, .slice none 0 0] [(0, 1), (1, 1), (2, 3), (5, 1), (6, 1)] := ⟨fun parts out w h => by simp [Instr.build, Tryz.zeroValue58, Tryz.runUnderlying58, Tryz.sizeOf3, Tryz.sizeOf32, Tryz.sizeOf57, Value.cells, h]⟩
instance : TAgg Tryz.prog 59 7 := ⟨Tryz.isAgg59, Tryz.sizeOf59⟩
instance : TSize Tryz.prog 59 7 := ⟨Tryz.sizeOf59⟩
instance : TZero Tryz.prog 59 [.int .i64 0, .int .i64 0, .bool false, .string ⟨#[]⟩, .string ⟨#[]⟩, .int .i64 0, .slice none 0 0] := ⟨fun w => ⟨_, Tryz.zeroValue59 w, rfl⟩⟩
instance : TField Tryz.prog 59 0 0 := field_mk (n := 1) Tryz.runUnderlying59 rfl Tryz.sizeOf3 (by decide) rfl
instance : TField Tryz.prog 59 1 1 := field_mk (n := 1) Tryz.runUnderlying59 rfl Tryz.sizeOf3 (by decide) rfl
instance : TField Tryz.prog 59 2 2 := field_mk (n := 3) Tryz.runUnderlying59 rfl Tryz.sizeOf32 (by decide) rfl
instance : TField Tryz.prog 59 3 5 := field_mk (n := 1) Tryz.runUnderlying59 rfl Tryz.sizeOf3 (by decide) rfl
instance : TField Tryz.prog 59 4 6 := field_mk (n := 1) Tryz.runUnderlying59 rfl Tryz.sizeOf57 (by decide) rfl
instance : TBuild Tryz.prog 59 [.int .i64 0, .int .i64 0, .bool false, .string ⟨#[]⟩, .string ⟨#[]⟩, .int .i64 0, .slice none 0 0] [(0, 1), (1, 1), (2, 3), (5, 1), (6, 1)] := ⟨fun parts out w h => by simp [Instr.build, Tryz.zeroValue59, Tryz.runUnderlying59, Tryz.sizeOf3, Tryz.sizeOf32, Tryz.sizeOf57, Value.cells, h]⟩
instance : TPlain Tryz.prog 60 := ⟨Tryz.isAgg60⟩
instance : TSize Tryz.prog 60 1 := ⟨Tryz.sizeOf60⟩
instance : TZero Tryz.prog 60 [.nilFunc] := ⟨fun w => ⟨_, Tryz.zeroValue60 w, rfl⟩⟩
instance : TPlain Tryz.prog 61 := ⟨Tryz.isAgg61⟩
instance : TSize Tryz.prog 61 1 := ⟨Tryz.sizeOf61⟩
instance : TZero Tryz.prog 61 [.nilFunc] := ⟨fun w => ⟨_, Tryz.zeroValue61 w, rfl⟩⟩
instance : TPlain Tryz.prog 62 := ⟨Tryz.isAgg62⟩
instance : TSize Tryz.prog 62 1 := ⟨Tryz.sizeOf62⟩
instance : TZero Tryz.prog 62 [.nilFunc] := ⟨fun w => ⟨_, Tryz.zeroValue62 w, rfl⟩⟩
instance : TPlain Tryz.prog 63 := ⟨Tryz.isAgg63⟩
instance : TSize Tryz.prog 63 1 := ⟨Tryz.sizeOf63⟩
instance : TZero Tryz.prog 63 [.nilFunc] := ⟨fun w => ⟨_, Tryz.zeroValue63 w, rfl⟩⟩
instance : TPlain Tryz.prog 64 := ⟨Tryz.isAgg64⟩
instance : TSize Tryz.prog 64 1 := ⟨Tryz.sizeOf64⟩
instance : TZero Tryz.prog 64 [.nilFunc] := ⟨fun w => ⟨_, Tryz.zeroValue64 w, rfl⟩⟩
instance : TPlain Tryz.prog 65 := ⟨Tryz.isAgg65⟩
instance : TSize Tryz.prog 65 1 := ⟨Tryz.sizeOf65⟩
instance : TZero Tryz.prog 65 [.nilFunc] := ⟨fun w => ⟨_, Tryz.zeroValue65 w, rfl⟩⟩
instance : TPlain Tryz.prog 66 := ⟨Tryz.isAgg66⟩
instance : TSize Tryz.prog 66 1 := ⟨Tryz.sizeOf66⟩
instance : TZero Tryz.prog 66 [.nilFunc] := ⟨fun w => ⟨_, Tryz.zeroValue66 w, rfl⟩⟩
instance : TPlain Tryz.prog 67 := ⟨Tryz.isAgg67⟩
instance : TSize Tryz.prog 67 1 := ⟨Tryz.sizeOf67⟩
instance : TZero Tryz.prog 67 [.nilFunc] := ⟨fun w => ⟨_, Tryz.zeroValue67 w, rfl⟩⟩
instance : TPlain Tryz.prog 68 := ⟨Tryz.isAgg68⟩
instance : TSize Tryz.prog 68 1 := ⟨Tryz.sizeOf68⟩
instance : TZero Tryz.prog 68 [.nilFunc] := ⟨fun w => ⟨_, Tryz.zeroValue68 w, rfl⟩⟩
instance : TPlain Tryz.prog 70 := ⟨Tryz.isAgg70⟩
instance : TSize Tryz.prog 70 1 := ⟨Tryz.sizeOf70⟩
instance : TZero Tryz.prog 70 [.nilFunc] := ⟨fun w => ⟨_, Tryz.zeroValue70 w, rfl⟩⟩
instance : TPlain Tryz.prog 71 := ⟨Tryz.isAgg71⟩
instance : TSize Tryz.prog 71 1 := ⟨Tryz.sizeOf71⟩
instance : TZero Tryz.prog 71 [.nilFunc] := ⟨fun w => ⟨_, Tryz.zeroValue71 w, rfl⟩⟩
instance : TPlain Tryz.prog 72 := ⟨Tryz.isAgg72⟩
instance : TSize Tryz.prog 72 1 := ⟨Tryz.sizeOf72⟩
instance : TSlice Tryz.prog 72 74 8 := ⟨Tryz.underlying72, Tryz.sizeOf74⟩
instance : TZero Tryz.prog 72 [.slice none 0 0] := ⟨fun w => ⟨_, Tryz.zeroValue72 w, rfl⟩⟩
instance : TElem Tryz.prog 72 74 (.agg #[.int .u8 0, .int .i64 0, .int .i64 0, .bool false, .string ⟨#[]⟩, .string ⟨#[]⟩, .int .i64 0, .slice none 0 0]) 8 96 := ⟨Tryz.underlying72, by kernel_rfl, rfl, by decide⟩
instance : TAgg Tryz.prog 73 8 := ⟨Tryz.isAgg73, Tryz.sizeOf73⟩
instance : TSize Tryz.prog 73 8 := ⟨Tryz.sizeOf73⟩
instance : TZero Tryz.prog 73 [.int .u8 0, .int .i64 0, .int .i64 0, .bool false, .string ⟨#[]⟩, .string ⟨#[]⟩, .int .i64 0, .slice none 0 0] := ⟨fun w => ⟨_, Tryz.zeroValue73 w, rfl⟩⟩
instance : TField Tryz.prog 73 0 0 := field_mk (n := 1) Tryz.runUnderlying73 rfl Tryz.sizeOf5 (by decide) rfl
instance : TField Tryz.prog 73 1 1 := field_mk (n := 7) Tryz.runUnderlying73 rfl Tryz.sizeOf59 (by decide) rfl
instance : TBuild Tryz.prog 73 [.int .u8 0, .int .i64 0, .int .i64 0, .bool false, .string ⟨#[]⟩, .string ⟨#[]⟩, .int .i64 0, .slice none 0 0] [(0, 1), (1, 7)] := ⟨fun parts out w h => by simp [Instr.build, Tryz.zeroValue73, Tryz.runUnderlying73, Tryz.sizeOf5, Tryz.sizeOf59, Value.cells, h]⟩
instance : TAgg Tryz.prog 74 8 := ⟨Tryz.isAgg74, Tryz.sizeOf74⟩
instance : TSize Tryz.prog 74 8 := ⟨Tryz.sizeOf74⟩
instance : TZero Tryz.prog 74 [.int .u8 0, .int .i64 0, .int .i64 0, .bool false, .string ⟨#[]⟩, .string ⟨#[]⟩, .int .i64 0, .slice none 0 0] := ⟨fun w => ⟨_, Tryz.zeroValue74 w, rfl⟩⟩
instance : TField Tryz.prog 74 0 0 := field_mk (n := 1) Tryz.runUnderlying74 rfl Tryz.sizeOf5 (by decide) rfl
instance : TField Tryz.prog 74 1 1 := field_mk (n := 7) Tryz.runUnderlying74 rfl Tryz.sizeOf59 (by decide) rfl
instance : TBuild Tryz.prog 74 [.int .u8 0, .int .i64 0, .int .i64 0, .bool false, .string ⟨#[]⟩, .string ⟨#[]⟩, .int .i64 0, .slice none 0 0] [(0, 1), (1, 7)] := ⟨fun parts out w h => by simp [Instr.build, Tryz.zeroValue74, Tryz.runUnderlying74, Tryz.sizeOf5, Tryz.sizeOf59, Value.cells, h]⟩
instance : TPlain Tryz.prog 75 := ⟨Tryz.isAgg75⟩
instance : TSize Tryz.prog 75 1 := ⟨Tryz.sizeOf75⟩
instance : TZero Tryz.prog 75 [.nilFunc] := ⟨fun w => ⟨_, Tryz.zeroValue75 w, rfl⟩⟩
instance : TPlain Tryz.prog 76 := ⟨Tryz.isAgg76⟩
instance : TSize Tryz.prog 76 1 := ⟨Tryz.sizeOf76⟩
instance : TZero Tryz.prog 76 [.nilFunc] := ⟨fun w => ⟨_, Tryz.zeroValue76 w, rfl⟩⟩
instance : TPlain Tryz.prog 77 := ⟨Tryz.isAgg77⟩
instance : TSize Tryz.prog 77 1 := ⟨Tryz.sizeOf77⟩
instance : TZero Tryz.prog 77 [.nilFunc] := ⟨fun w => ⟨_, Tryz.zeroValue77 w, rfl⟩⟩
instance : TPlain Tryz.prog 78 := ⟨Tryz.isAgg78⟩
instance : TSize Tryz.prog 78 1 := ⟨Tryz.sizeOf78⟩
instance : TZero Tryz.prog 78 [.nilFunc] := ⟨fun w => ⟨_, Tryz.zeroValue78 w, rfl⟩⟩
instance : TPlain Tryz.prog 79 := ⟨Tryz.isAgg79⟩
instance : TSize Tryz.prog 79 1 := ⟨Tryz.sizeOf79⟩
instance : TSlice Tryz.prog 79 5 1 := ⟨Tryz.underlying79, Tryz.sizeOf5⟩
instance : TZero Tryz.prog 79 [.slice none 0 0] := ⟨fun w => ⟨_, Tryz.zeroValue79 w, rfl⟩⟩
instance : TText Tryz.prog 79 5 := ⟨Tryz.underlying79, Tryz.underlying5⟩
instance : TElem Tryz.prog 79 5 (.int .u8 0) 1 1 := ⟨Tryz.underlying79, by kernel_rfl, rfl, by decide⟩
instance : TPlain Tryz.prog 80 := ⟨Tryz.isAgg80⟩
instance : TSize Tryz.prog 80 1 := ⟨Tryz.sizeOf80⟩
instance : TZero Tryz.prog 80 [.nilFunc] := ⟨fun w => ⟨_, Tryz.zeroValue80 w, rfl⟩⟩
instance : TPlain Tryz.prog 82 := ⟨Tryz.isAgg82⟩
instance : TSize Tryz.prog 82 1 := ⟨Tryz.sizeOf82⟩
instance : TZero Tryz.prog 82 [.nilFunc] := ⟨fun w => ⟨_, Tryz.zeroValue82 w, rfl⟩⟩
instance : TPlain Tryz.prog 83 := ⟨Tryz.isAgg83⟩
instance : TSize Tryz.prog 83 1 := ⟨Tryz.sizeOf83⟩
instance : TZero Tryz.prog 83 [.nilFunc] := ⟨fun w => ⟨_, Tryz.zeroValue83 w, rfl⟩⟩
instance : TPlain Tryz.prog 84 := ⟨Tryz.isAgg84⟩
instance : TSize Tryz.prog 84 1 := ⟨Tryz.sizeOf84⟩
instance : TZero Tryz.prog 84 [.nilFunc] := ⟨fun w => ⟨_, Tryz.zeroValue84 w, rfl⟩⟩
instance : TPlain Tryz.prog 85 := ⟨Tryz.isAgg85⟩
instance : TSize Tryz.prog 85 1 := ⟨Tryz.sizeOf85⟩
instance : TZero Tryz.prog 85 [.nilFunc] := ⟨fun w => ⟨_, Tryz.zeroValue85 w, rfl⟩⟩
instance : TPlain Tryz.prog 86 := ⟨Tryz.isAgg86⟩
instance : TSize Tryz.prog 86 1 := ⟨Tryz.sizeOf86⟩
instance : TZero Tryz.prog 86 [.nilFunc] := ⟨fun w => ⟨_, Tryz.zeroValue86 w, rfl⟩⟩
instance : TAgg Tryz.prog 87 2 := ⟨Tryz.isAgg87, Tryz.sizeOf87⟩
instance : TSize Tryz.prog 87 2 := ⟨Tryz.sizeOf87⟩
instance : TZero Tryz.prog 87 [.int .i64 0, .int .i64 0] := ⟨fun w => ⟨_, Tryz.zeroValue87 w, rfl⟩⟩
instance : TField Tryz.prog 87 0 0 := field_mk (n := 1) Tryz.runUnderlying87 rfl Tryz.sizeOf3 (by decide) rfl
instance : TField Tryz.prog 87 1 1 := field_mk (n := 1) Tryz.runUnderlying87 rfl Tryz.sizeOf3 (by decide) rfl
instance : TBuild Tryz.prog 87 [.int .i64 0, .int .i64 0] [(0, 1), (1, 1)] := ⟨fun parts out w h => by simp [Instr.build, Tryz.zeroValue87, Tryz.runUnderlying87, Tryz.sizeOf3, Value.cells, h]⟩
instance : TEq2 Tryz.prog 87 := ⟨fun a b c d w => by simp [go_sem, Op.equal, Op.maxDepth]; by_cases h1 : a = c <;> by_cases h2 : b = d <;> simp [h1, h2], by kernel_rfl⟩
instance : TAgg Tryz.prog 88 2 := ⟨Tryz.isAgg88, Tryz.sizeOf88⟩
instance : TSize Tryz.prog 88 2 := ⟨Tryz.sizeOf88⟩
instance : TZero Tryz.prog 88 [.int .i64 0, .int .i64 0] := ⟨fun w => ⟨_, Tryz.zeroValue88 w, rfl⟩⟩
instance : TField Tryz.prog 88 0 0 := field_mk (n := 1) Tryz.runUnderlying88 rfl Tryz.sizeOf3 (by decide) rfl
instance : TField Tryz.prog 88 1 1 := field_mk (n := 1) Tryz.runUnderlying88 rfl Tryz.sizeOf3 (by decide) rfl
instance : TBuild Tryz.prog 88 [.int .i64 0, .int .i64 0] [(0, 1), (1, 1)] := ⟨fun parts out w h => by simp [Instr.build, Tryz.zeroValue88, Tryz.runUnderlying88, Tryz.sizeOf3, Value.cells, h]⟩
instance : TEq2 Tryz.prog 88 := ⟨fun a b c d w => by simp [go_sem, Op.equal, Op.maxDepth]; by_cases h1 : a = c <;> by_cases h2 : b = d <;> simp [h1, h2], by kernel_rfl⟩
instance : TPlain Tryz.prog 89 := ⟨Tryz.isAgg89⟩
instance : TSize Tryz.prog 89 1 := ⟨Tryz.sizeOf89⟩
instance : TZero Tryz.prog 89 [.nilFunc] := ⟨fun w => ⟨_, Tryz.zeroValue89 w, rfl⟩⟩
instance : TPlain Tryz.prog 90 := ⟨Tryz.isAgg90⟩
instance : TSize Tryz.prog 90 1 := ⟨Tryz.sizeOf90⟩
instance : TZero Tryz.prog 90 [.nilFunc] := ⟨fun w => ⟨_, Tryz.zeroValue90 w, rfl⟩⟩
instance : TPlain Tryz.prog 91 := ⟨Tryz.isAgg91⟩
instance : TSize Tryz.prog 91 1 := ⟨Tryz.sizeOf91⟩
instance : TZero Tryz.prog 91 [.pointer none] := ⟨fun w => ⟨_, Tryz.zeroValue91 w, rfl⟩⟩
instance : TPlain Tryz.prog 92 := ⟨Tryz.isAgg92⟩
instance : TSize Tryz.prog 92 1 := ⟨Tryz.sizeOf92⟩
instance : TZero Tryz.prog 92 [.nilFunc] := ⟨fun w => ⟨_, Tryz.zeroValue92 w, rfl⟩⟩
instance : TPlain Tryz.prog 93 := ⟨Tryz.isAgg93⟩
instance : TSize Tryz.prog 93 1 := ⟨Tryz.sizeOf93⟩
instance : TZero Tryz.prog 93 [.map none] := ⟨fun w => ⟨_, Tryz.zeroValue93 w, rfl⟩⟩
instance : TPlain Tryz.prog 94 := ⟨Tryz.isAgg94⟩
instance : TSize Tryz.prog 94 1 := ⟨Tryz.sizeOf94⟩
instance : TZero Tryz.prog 94 [.nilFunc] := ⟨fun w => ⟨_, Tryz.zeroValue94 w, rfl⟩⟩
instance : TPlain Tryz.prog 95 := ⟨Tryz.isAgg95⟩
instance : TSize Tryz.prog 95 1 := ⟨Tryz.sizeOf95⟩
instance : TZero Tryz.prog 95 [.map none] := ⟨fun w => ⟨_, Tryz.zeroValue95 w, rfl⟩⟩
instance : TAgg Tryz.prog 96 5 := ⟨Tryz.isAgg96, Tryz.sizeOf96⟩
instance : TSize Tryz.prog 96 5 := ⟨Tryz.sizeOf96⟩
instance : TZero Tryz.prog 96 [.slice none 0 0, .map none, .bool false, .string ⟨#[]⟩, .string ⟨#[]⟩] := ⟨fun w => ⟨_, Tryz.zeroValue96 w, rfl⟩⟩
instance : TField Tryz.prog 96 0 0 := field_mk (n := 1) Tryz.runUnderlying96 rfl Tryz.sizeOf25 (by decide) rfl
instance : TField Tryz.prog 96 1 1 := field_mk (n := 1) Tryz.runUnderlying96 rfl Tryz.sizeOf95 (by decide) rfl
instance : TField Tryz.prog 96 2 2 := field_mk (n := 3) Tryz.runUnderlying96 rfl Tryz.sizeOf32 (by decide) rfl
instance : TBuild Tryz.prog 96 [.slice none 0 0, .map none, .bool false, .string ⟨#[]⟩, .string ⟨#[]⟩] [(0, 1), (1, 1), (2, 3)] := ⟨fun parts out w h => by simp [Instr.build, Tryz.zeroValue96, Tryz.runUnderlying96, Tryz.sizeOf25, Tryz.sizeOf32, Tryz.sizeOf95, Value.cells, h]⟩
instance : TAgg Tryz.prog 97 5 := ⟨Tryz.isAgg97, Tryz.sizeOf97⟩
instance : TSize Tryz.prog 97 5 := ⟨Tryz.sizeOf97⟩
instance : TZero Tryz.prog 97 [.slice none 0 0, .map none, .bool false, .string ⟨#[]⟩, .string ⟨#[]⟩] := ⟨fun w => ⟨_, Tryz.zeroValue97 w, rfl⟩⟩
instance : TField Tryz.prog 97 0 0 := field_mk (n := 1) Tryz.runUnderlying97 rfl Tryz.sizeOf25 (by decide) rfl
instance : TField Tryz.prog 97 1 1 := field_mk (n := 1) Tryz.runUnderlying97 rfl Tryz.sizeOf95 (by decide) rfl
instance : TField Tryz.prog 97 2 2 := field_mk (n := 3) Tryz.runUnderlying97 rfl Tryz.sizeOf32 (by decide) rfl
instance : TBuild Tryz.prog 97 [.slice none 0 0, .map none, .bool false, .string ⟨#[]⟩, .string ⟨#[]⟩] [(0, 1), (1, 1), (2, 3)] := ⟨fun parts out w h => by simp [Instr.build, Tryz.zeroValue97, Tryz.runUnderlying97, Tryz.sizeOf25, Tryz.sizeOf32, Tryz.sizeOf95, Value.cells, h]⟩
instance : TPlain Tryz.prog 98 := ⟨Tryz.isAgg98⟩
instance : TSize Tryz.prog 98 1 := ⟨Tryz.sizeOf98⟩
instance : TZero Tryz.prog 98 [.nilFunc] := ⟨fun w => ⟨_, Tryz.zeroValue98 w, rfl⟩⟩
instance : TPlain Tryz.prog 99 := ⟨Tryz.isAgg99⟩
instance : TSize Tryz.prog 99 1 := ⟨Tryz.sizeOf99⟩
instance : TZero Tryz.prog 99 [.nilFunc] := ⟨fun w => ⟨_, Tryz.zeroValue99 w, rfl⟩⟩
instance : TPlain Tryz.prog 100 := ⟨Tryz.isAgg100⟩
instance : TSize Tryz.prog 100 1 := ⟨Tryz.sizeOf100⟩
instance : TZero Tryz.prog 100 [.nilFunc] := ⟨fun w => ⟨_, Tryz.zeroValue100 w, rfl⟩⟩
instance : TPlain Tryz.prog 101 := ⟨Tryz.isAgg101⟩
instance : TSize Tryz.prog 101 1 := ⟨Tryz.sizeOf101⟩
instance : TZero Tryz.prog 101 [.nilFunc] := ⟨fun w => ⟨_, Tryz.zeroValue101 w, rfl⟩⟩
instance : TPlain Tryz.prog 102 := ⟨Tryz.isAgg102⟩
instance : TSize Tryz.prog 102 1 := ⟨Tryz.sizeOf102⟩
instance : TZero Tryz.prog 102 [.nilFunc] := ⟨fun w => ⟨_, Tryz.zeroValue102 w, rfl⟩⟩
instance : TPlain Tryz.prog 103 := ⟨Tryz.isAgg103⟩
instance : TSize Tryz.prog 103 1 := ⟨Tryz.sizeOf103⟩
instance : TZero Tryz.prog 103 [.nilFunc] := ⟨fun w => ⟨_, Tryz.zeroValue103 w, rfl⟩⟩
instance : TPlain Tryz.prog 104 := ⟨Tryz.isAgg104⟩
instance : TSize Tryz.prog 104 1 := ⟨Tryz.sizeOf104⟩
instance : TZero Tryz.prog 104 [.nilFunc] := ⟨fun w => ⟨_, Tryz.zeroValue104 w, rfl⟩⟩
instance : TAgg Tryz.prog 105 3 := ⟨Tryz.isAgg105, Tryz.sizeOf105⟩
instance : TSize Tryz.prog 105 3 := ⟨Tryz.sizeOf105⟩
instance : TZero Tryz.prog 105 [.int .i64 0, .slice none 0 0, .int .i64 0] := ⟨fun w => ⟨_, Tryz.zeroValue105 w, rfl⟩⟩
instance : TField Tryz.prog 105 0 0 := field_mk (n := 2) Tryz.runUnderlying105 rfl Tryz.sizeOf24 (by decide) rfl
instance : TField Tryz.prog 105 1 2 := field_mk (n := 1) Tryz.runUnderlying105 rfl Tryz.sizeOf39 (by decide) rfl
instance : TBuild Tryz.prog 105 [.int .i64 0, .slice none 0 0, .int .i64 0] [(0, 2), (2, 1)] := ⟨fun parts out w h => by simp [Instr.build, Tryz.zeroValue105, Tryz.runUnderlying105, Tryz.sizeOf24, Tryz.sizeOf39, Value.cells, h]⟩
instance : TAgg Tryz.prog 106 3 := ⟨Tryz.isAgg106, Tryz.sizeOf106⟩
instance : TSize Tryz.prog 106 3 := ⟨Tryz.sizeOf106⟩
instance : TZero Tryz.prog 106 [.int .i64 0, .slice none 0 0, .int .i64 0] := ⟨fun w => ⟨_, Tryz.zeroValue106 w, rfl⟩⟩
instance : TField Tryz.prog 106 0 0 := field_mk (n := 2) Tryz.runUnderlying106 rfl Tryz.sizeOf24 (by decide) rfl
instance : TField Tryz.prog 106 1 2 := field_mk (n := 1) Tryz.runUnderlying106 rfl Tryz.sizeOf39 (by decide) rfl
instance : TBuild Tryz.prog 106 [.int .i64 0, .slice none 0 0, .int .i64 0] [(0, 2), (2, 1)] := ⟨fun parts out w h => by simp [Instr.build, Tryz.zeroValue106, Tryz.runUnderlying106, Tryz.sizeOf24, Tryz.sizeOf39, Value.cells, h]⟩
instance : TPlain Tryz.prog 107 := ⟨Tryz.isAgg107⟩
instance : TSize Tryz.prog 107 1 := ⟨Tryz.sizeOf107⟩
instance : TZero Tryz.prog 107 [.nilFunc] := ⟨fun w => ⟨_, Tryz.zeroValue107 w, rfl⟩⟩
instance : TPlain Tryz.prog 108 := ⟨Tryz.isAgg108⟩
instance : TSize Tryz.prog 108 1 := ⟨Tryz.sizeOf108⟩
instance : TZero Tryz.prog 108 [.nilFunc] := ⟨fun w => ⟨_, Tryz.zeroValue108 w, rfl⟩⟩
instance : TPlain Tryz.prog 109 := ⟨Tryz.isAgg109⟩
instance : TSize Tryz.prog 109 1 := ⟨Tryz.sizeOf109⟩
instance : TZero Tryz.prog 109 [.nilFunc] := ⟨fun w => ⟨_, Tryz.zeroValue109 w, rfl⟩⟩
instance : TPlain Tryz.prog 110 := ⟨Tryz.isAgg110⟩
instance : TSize Tryz.prog 110 1 := ⟨Tryz.sizeOf110⟩
instance : TZero Tryz.prog 110 [.nilFunc] := ⟨fun w => ⟨_, Tryz.zeroValue110 w, rfl⟩⟩
instance : TPlain Tryz.prog 111 := ⟨Tryz.isAgg111⟩
instance : TSize Tryz.prog 111 1 := ⟨Tryz.sizeOf111⟩
instance : TZero Tryz.prog 111 [.nilFunc] := ⟨fun w => ⟨_, Tryz.zeroValue111 w, rfl⟩⟩
instance : TPlain Tryz.prog 113 := ⟨Tryz.isAgg113⟩
instance : TSize Tryz.prog 113 1 := ⟨Tryz.sizeOf113⟩
instance : TZero Tryz.prog 113 [.nilFunc] := ⟨fun w => ⟨_, Tryz.zeroValue113 w, rfl⟩⟩
instance : TPlain Tryz.prog 114 := ⟨Tryz.isAgg114⟩
instance : TSize Tryz.prog 114 1 := ⟨Tryz.sizeOf114⟩
instance : TZero Tryz.prog 114 [.nilFunc] := ⟨fun w => ⟨_, Tryz.zeroValue114 w, rfl⟩⟩
instance : TPlain Tryz.prog 115 := ⟨Tryz.isAgg115⟩
instance : TSize Tryz.prog 115 1 := ⟨Tryz.sizeOf115⟩
instance : TZero Tryz.prog 115 [.nilFunc] := ⟨fun w => ⟨_, Tryz.zeroValue115 w, rfl⟩⟩
instance : TAgg Tryz.prog 116 3 := ⟨Tryz.isAgg116, Tryz.sizeOf116⟩
instance : TSize Tryz.prog 116 3 := ⟨Tryz.sizeOf116⟩
instance : TZero Tryz.prog 116 [.bool false, .string ⟨#[]⟩, .string ⟨#[]⟩] := ⟨fun w => ⟨_, Tryz.zeroValue116 w, rfl⟩⟩
instance : TField Tryz.prog 116 0 0 := field_mk (n := 1) Tryz.runUnderlying116 rfl Tryz.sizeOf4 (by decide) rfl
instance : TField Tryz.prog 116 1 1 := field_mk (n := 1) Tryz.runUnderlying116 rfl Tryz.sizeOf9 (by decide) rfl
instance : TField Tryz.prog 116 2 2 := field_mk (n := 1) Tryz.runUnderlying116 rfl Tryz.sizeOf9 (by decide) rfl
instance : TBuild Tryz.prog 116 [.bool false, .string ⟨#[]⟩, .string ⟨#[]⟩] [(0, 1), (1, 1), (2, 1)] := ⟨fun parts out w h => by simp [Instr.build, Tryz.zeroValue116, Tryz.runUnderlying116, Tryz.sizeOf4, Tryz.sizeOf9, Value.cells, h]⟩
instance : TAgg Tryz.prog 117 3 := ⟨Tryz.isAgg117, Tryz.sizeOf117⟩
instance : TSize Tryz.prog 117 3 := ⟨Tryz.sizeOf117⟩
instance : TZero Tryz.prog 117 [.bool false, .string ⟨#[]⟩, .string ⟨#[]⟩] := ⟨fun w => ⟨_, Tryz.zeroValue117 w, rfl⟩⟩
instance : TField Tryz.prog 117 0 0 := field_mk (n := 1) Tryz.runUnderlying117 rfl Tryz.sizeOf4 (by decide) rfl
instance : TField Tryz.prog 117 1 1 := field_mk (n := 1) Tryz.runUnderlying117 rfl Tryz.sizeOf9 (by decide) rfl
instance : TField Tryz.prog 117 2 2 := field_mk (n := 1) Tryz.runUnderlying117 rfl Tryz.sizeOf9 (by decide) rfl
instance : TBuild Tryz.prog 117 [.bool false, .string ⟨#[]⟩, .string ⟨#[]⟩] [(0, 1), (1, 1), (2, 1)] := ⟨fun parts out w h => by simp [Instr.build, Tryz.zeroValue117, Tryz.runUnderlying117, Tryz.sizeOf4, Tryz.sizeOf9, Value.cells, h]⟩
instance : TPlain Tryz.prog 118 := ⟨Tryz.isAgg118⟩
instance : TSize Tryz.prog 118 1 := ⟨Tryz.sizeOf118⟩
instance : TZero Tryz.prog 118 [.nilFunc] := ⟨fun w => ⟨_, Tryz.zeroValue118 w, rfl⟩⟩
instance : TPlain Tryz.prog 119 := ⟨Tryz.isAgg119⟩
instance : TSize Tryz.prog 119 1 := ⟨Tryz.sizeOf119⟩
instance : TZero Tryz.prog 119 [.nilFunc] := ⟨fun w => ⟨_, Tryz.zeroValue119 w, rfl⟩⟩
instance : TAgg Tryz.prog 120 1001 := ⟨Tryz.isAgg120, Tryz.sizeOf120⟩
instance : TSize Tryz.prog 120 1001 := ⟨Tryz.sizeOf120⟩
instance : TArr Tryz.prog 120 1001 3 1 := ⟨Tryz.underlying120, Tryz.sizeOf3⟩
instance : TPlain Tryz.prog 121 := ⟨Tryz.isAgg121⟩
instance : TSize Tryz.prog 121 1 := ⟨Tryz.sizeOf121⟩
instance : TZero Tryz.prog 121 [.nilFunc] := ⟨fun w => ⟨_, Tryz.zeroValue121 w, rfl⟩⟩
instance : TPlain Tryz.prog 123 := ⟨Tryz.isAgg123⟩
instance : TSize Tryz.prog 123 1 := ⟨Tryz.sizeOf123⟩
instance : TZero Tryz.prog 123 [.nilFunc] := ⟨fun w => ⟨_, Tryz.zeroValue123 w, rfl⟩⟩
instance : TPlain Tryz.prog 124 := ⟨Tryz.isAgg124⟩
instance : TSize Tryz.prog 124 1 := ⟨Tryz.sizeOf124⟩
instance : TZero Tryz.prog 124 [.nilFunc] := ⟨fun w => ⟨_, Tryz.zeroValue124 w, rfl⟩⟩
instance : TAgg Tryz.prog 125 4 := ⟨Tryz.isAgg125, Tryz.sizeOf125⟩
instance : TSize Tryz.prog 125 4 := ⟨Tryz.sizeOf125⟩
instance : TZero Tryz.prog 125 [.int .i64 0, .bool false, .string ⟨#[]⟩, .string ⟨#[]⟩] := ⟨fun w => ⟨_, Tryz.zeroValue125 w, rfl⟩⟩
instance : TField Tryz.prog 125 0 0 := field_mk (n := 1) Tryz.runUnderlying125 rfl Tryz.sizeOf3 (by decide) rfl
instance : TField Tryz.prog 125 1 1 := field_mk (n := 3) Tryz.runUnderlying125 rfl Tryz.sizeOf32 (by decide) rfl
instance : TBuild Tryz.prog 125 [.int .i64 0, .bool false, .string ⟨#[]⟩, .string ⟨#[]⟩] [(0, 1), (1, 3)] := ⟨fun parts out w h => by simp [Instr.build, Tryz.zeroValue125, Tryz.runUnderlying125, Tryz.sizeOf3, Tryz.sizeOf32, Value.cells, h]⟩
instance : TAgg Tryz.prog 126 4 := ⟨Tryz.isAgg126, Tryz.sizeOf126⟩
instance : TSize Tryz.prog 126 4 := ⟨Tryz.sizeOf126⟩
instance : TZero Tryz.prog 126 [.int .i64 0, .bool false, .string ⟨#[]⟩, .string ⟨#[]⟩] := ⟨fun w => ⟨_, Tryz.zeroValue126 w, rfl⟩⟩
instance : TField Tryz.prog 126 0 0 := field_mk (n := 1) Tryz.runUnderlying126 rfl Tryz.sizeOf3 (by decide) rfl
instance : TField Tryz.prog 126 1 1 := field_mk (n := 3) Tryz.runUnderlying126 rfl Tryz.sizeOf32 (by decide) rfl
instance : TBuild Tryz.prog 126 [.int .i64 0, .bool false, .string ⟨#[]⟩, .string ⟨#[]⟩] [(0, 1), (1, 3)] := ⟨fun parts out w h => by simp [Instr.build, Tryz.zeroValue126, Tryz.runUnderlying126, Tryz.sizeOf3, Tryz.sizeOf32, Value.cells, h]⟩
instance : TPlain Tryz.prog 127 := ⟨Tryz.isAgg127⟩
instance : TSize Tryz.prog 127 1 := ⟨Tryz.sizeOf127⟩
instance : TZero Tryz.prog 127 [.nilFunc] := ⟨fun w => ⟨_, Tryz.zeroValue127 w, rfl⟩⟩
instance : TPlain Tryz.prog 128 := ⟨Tryz.isAgg128⟩
instance : TSize Tryz.prog 128 1 := ⟨Tryz.sizeOf128⟩
instance : TZero Tryz.prog 128 [.nilFunc] := ⟨fun w => ⟨_, Tryz.zeroValue128 w, rfl⟩⟩
instance : TPlain Tryz.prog 129 := ⟨Tryz.isAgg129⟩
instance : TSize Tryz.prog 129 1 := ⟨Tryz.sizeOf129⟩
instance : TZero Tryz.prog 129 [.nilFunc] := ⟨fun w => ⟨_, Tryz.zeroValue129 w, rfl⟩⟩
instance : TPlain Tryz.prog 130 := ⟨Tryz.isAgg130⟩
instance : TSize Tryz.prog 130 1 := ⟨Tryz.sizeOf130⟩
instance : TZero Tryz.prog 130 [.nilFunc] := ⟨fun w => ⟨_, Tryz.zeroValue130 w, rfl⟩⟩
instance : TPlain Tryz.prog 131 := ⟨Tryz.isAgg131⟩
instance : TSize Tryz.prog 131 1 := ⟨Tryz.sizeOf131⟩
instance : TZero Tryz.prog 131 [.nilFunc] := ⟨fun w => ⟨_, Tryz.zeroValue131 w, rfl⟩⟩
instance : TPlain Tryz.prog 133 := ⟨Tryz.isAgg133⟩
instance : TSize Tryz.prog 133 1 := ⟨Tryz.sizeOf133⟩
instance : TZero Tryz.prog 133 [.nilFunc] := ⟨fun w => ⟨_, Tryz.zeroValue133 w, rfl⟩⟩
instance : TPlain Tryz.prog 134 := ⟨Tryz.isAgg134⟩
instance : TSize Tryz.prog 134 1 := ⟨Tryz.sizeOf134⟩
instance : TZero Tryz.prog 134 [.nilFunc] := ⟨fun w => ⟨_, Tryz.zeroValue134 w, rfl⟩⟩
instance : TPlain Tryz.prog 135 := ⟨Tryz.isAgg135⟩
instance : TSize Tryz.prog 135 1 := ⟨Tryz.sizeOf135⟩
instance : TZero Tryz.prog 135 [.nilFunc] := ⟨fun w => ⟨_, Tryz.zeroValue135 w, rfl⟩⟩
instance : TAgg Tryz.prog 136 2 := ⟨Tryz.isAgg136, Tryz.sizeOf136⟩
instance : TSize Tryz.prog 136 2 := ⟨Tryz.sizeOf136⟩
instance : TZero Tryz.prog 136 [.string ⟨#[]⟩, .int .i64 0] := ⟨fun w => ⟨_, Tryz.zeroValue136 w, rfl⟩⟩
instance : TField Tryz.prog 136 0 0 := field_mk (n := 1) Tryz.runUnderlying136 rfl Tryz.sizeOf9 (by decide) rfl
instance : TField Tryz.prog 136 1 1 := field_mk (n := 1) Tryz.runUnderlying136 rfl Tryz.sizeOf39 (by decide) rfl
instance : TBuild Tryz.prog 136 [.string ⟨#[]⟩, .int .i64 0] [(0, 1), (1, 1)] := ⟨fun parts out w h => by simp [Instr.build, Tryz.zeroValue136, Tryz.runUnderlying136, Tryz.sizeOf39, Tryz.sizeOf9, Value.cells, h]⟩
instance : TAgg Tryz.prog 137 2 := ⟨Tryz.isAgg137, Tryz.sizeOf137⟩
instance : TSize Tryz.prog 137 2 := ⟨Tryz.sizeOf137⟩
instance : TZero Tryz.prog 137 [.string ⟨#[]⟩, .int .i64 0] := ⟨fun w => ⟨_, Tryz.zeroValue137 w, rfl⟩⟩
instance : TField Tryz.prog 137 0 0 := field_mk (n := 1) Tryz.runUnderlying137 rfl Tryz.sizeOf9 (by decide) rfl
instance : TField Tryz.prog 137 1 1 := field_mk (n := 1) Tryz.runUnderlying137 rfl Tryz.sizeOf39 (by decide) rfl
instance : TBuild Tryz.prog 137 [.string ⟨#[]⟩, .int .i64 0] [(0, 1), (1, 1)] := ⟨fun parts out w h => by simp [Instr.build, Tryz.zeroValue137, Tryz.runUnderlying137, Tryz.sizeOf39, Tryz.sizeOf9, Value.cells, h]⟩
instance : TPlain Tryz.prog 138 := ⟨Tryz.isAgg138⟩
instance : TSize Tryz.prog 138 1 := ⟨Tryz.sizeOf138⟩
instance : TZero Tryz.prog 138 [.nilFunc] := ⟨fun w => ⟨_, Tryz.zeroValue138 w, rfl⟩⟩
instance : TPlain Tryz.prog 139 := ⟨Tryz.isAgg139⟩
instance : TSize Tryz.prog 139 1 := ⟨Tryz.sizeOf139⟩
instance : TZero Tryz.prog 139 [.nilFunc] := ⟨fun w => ⟨_, Tryz.zeroValue139 w, rfl⟩⟩
instance : TPlain Tryz.prog 140 := ⟨Tryz.isAgg140⟩
instance : TSize Tryz.prog 140 1 := ⟨Tryz.sizeOf140⟩
instance : TZero Tryz.prog 140 [.nilFunc] := ⟨fun w => ⟨_, Tryz.zeroValue140 w, rfl⟩⟩
instance : TPlain Tryz.prog 141 := ⟨Tryz.isAgg141⟩
instance : TSize Tryz.prog 141 1 := ⟨Tryz.sizeOf141⟩
instance : TZero Tryz.prog 141 [.nilFunc] := ⟨fun w => ⟨_, Tryz.zeroValue141 w, rfl⟩⟩
instance : TAgg Tryz.prog 142 2 := ⟨Tryz.isAgg142, Tryz.sizeOf142⟩
instance : TSize Tryz.prog 142 2 := ⟨Tryz.sizeOf142⟩
instance : TZero Tryz.prog 142 [.int .i64 0, .int .i64 0] := ⟨fun w => ⟨_, Tryz.zeroValue142 w, rfl⟩⟩
instance : TEq2 Tryz.prog 142 := ⟨fun a b c d w => by
  show (Op.equalIn (9999 + 1) 142 (.agg #[.int .i64 a, .int .i64 b]) (.agg #[.int .i64 c, .int .i64 d])).run Tryz.prog w = _
  rw [Op.equalIn]
  have e3 : ∀ x y : Int, ∀ w, (Op.equalIn 9999 3 (.int .i64 x) (.int .i64 y)).run Tryz.prog w = .ok (x == y) w := fun x y w => run_equalIn_int w 9998 3 .i64 .i64 x y Tryz.underlying3
  simp [Tryz.runUnderlying142, Tryz.sizeOf3, part, Tryz.isAgg3, e3, List.range', Std.Legacy.Range.forIn_eq_forIn_range', Std.Legacy.Range.size]
  by_cases h1 : a = c <;> by_cases h2 : b = d <;> simp [h1, h2], by kernel_rfl⟩
instance : TArr Tryz.prog 142 2 3 1 := ⟨Tryz.underlying142, Tryz.sizeOf3⟩
instance : TBuild Tryz.prog 142 [.int .i64 0, .int .i64 0] [(0, 1), (1, 1)] := build_arr Tryz.zeroValue142 Tryz.runUnderlying142 Tryz.sizeOf3 rfl (by decide)
instance : TPlain Tryz.prog 144 := ⟨Tryz.isAgg144⟩
instance : TSize Tryz.prog 144 1 := ⟨Tryz.sizeOf144⟩
instance : TZero Tryz.prog 144 [.nilFunc] := ⟨fun w => ⟨_, Tryz.zeroValue144 w, rfl⟩⟩
instance : TPlain Tryz.prog 145 := ⟨Tryz.isAgg145⟩
instance : TSize Tryz.prog 145 1 := ⟨Tryz.sizeOf145⟩
instance : TZero Tryz.prog 145 [.nilFunc] := ⟨fun w => ⟨_, Tryz.zeroValue145 w, rfl⟩⟩
instance : TPlain Tryz.prog 146 := ⟨Tryz.isAgg146⟩
instance : TSize Tryz.prog 146 1 := ⟨Tryz.sizeOf146⟩
instance : TZero Tryz.prog 146 [.nilFunc] := ⟨fun w => ⟨_, Tryz.zeroValue146 w, rfl⟩⟩
instance : TPlain Tryz.prog 147 := ⟨Tryz.isAgg147⟩
instance : TSize Tryz.prog 147 1 := ⟨Tryz.sizeOf147⟩
instance : TZero Tryz.prog 147 [.nilFunc] := ⟨fun w => ⟨_, Tryz.zeroValue147 w, rfl⟩⟩
instance : TPlain Tryz.prog 148 := ⟨Tryz.isAgg148⟩
instance : TSize Tryz.prog 148 1 := ⟨Tryz.sizeOf148⟩
instance : TSlice Tryz.prog 148 173 1 := ⟨Tryz.underlying148, Tryz.sizeOf173⟩
instance : TZero Tryz.prog 148 [.slice none 0 0] := ⟨fun w => ⟨_, Tryz.zeroValue148 w, rfl⟩⟩
instance : TElem Tryz.prog 148 173 (.int .u32 0) 1 4 := ⟨Tryz.underlying148, by kernel_rfl, rfl, by decide⟩
instance : TPlain Tryz.prog 149 := ⟨Tryz.isAgg149⟩
instance : TSize Tryz.prog 149 1 := ⟨Tryz.sizeOf149⟩
instance : TSlice Tryz.prog 149 173 1 := ⟨Tryz.underlying149, Tryz.sizeOf173⟩
instance : TZero Tryz.prog 149 [.slice none 0 0] := ⟨fun w => ⟨_, Tryz.zeroValue149 w, rfl⟩⟩
instance : TElem Tryz.prog 149 173 (.int .u32 0) 1 4 := ⟨Tryz.underlying149, by kernel_rfl, rfl, by decide⟩
instance : TPlain Tryz.prog 151 := ⟨Tryz.isAgg151⟩
instance : TSize Tryz.prog 151 1 := ⟨Tryz.sizeOf151⟩
instance : TZero Tryz.prog 151 [.nilFunc] := ⟨fun w => ⟨_, Tryz.zeroValue151 w, rfl⟩⟩
instance : TPlain Tryz.prog 152 := ⟨Tryz.isAgg152⟩
instance : TSize Tryz.prog 152 1 := ⟨Tryz.sizeOf152⟩
instance : TZero Tryz.prog 152 [.nilFunc] := ⟨fun w => ⟨_, Tryz.zeroValue152 w, rfl⟩⟩
instance : TPlain Tryz.prog 153 := ⟨Tryz.isAgg153⟩
instance : TSize Tryz.prog 153 1 := ⟨Tryz.sizeOf153⟩
instance : TZero Tryz.prog 153 [.nilFunc] := ⟨fun w => ⟨_, Tryz.zeroValue153 w, rfl⟩⟩
instance : TPlain Tryz.prog 154 := ⟨Tryz.isAgg154⟩
instance : TSize Tryz.prog 154 1 := ⟨Tryz.sizeOf154⟩
instance : TZero Tryz.prog 154 [.nilFunc] := ⟨fun w => ⟨_, Tryz.zeroValue154 w, rfl⟩⟩
instance : TPlain Tryz.prog 156 := ⟨Tryz.isAgg156⟩
instance : TSize Tryz.prog 156 1 := ⟨Tryz.sizeOf156⟩
instance : TZero Tryz.prog 156 [.nilFunc] := ⟨fun w => ⟨_, Tryz.zeroValue156 w, rfl⟩⟩
instance : TPlain Tryz.prog 157 := ⟨Tryz.isAgg157⟩
instance : TSize Tryz.prog 157 1 := ⟨Tryz.sizeOf157⟩
instance : TZero Tryz.prog 157 [.nilFunc] := ⟨fun w => ⟨_, Tryz.zeroValue157 w, rfl⟩⟩
instance : TPlain Tryz.prog 158 := ⟨Tryz.isAgg158⟩
instance : TSize Tryz.prog 158 1 := ⟨Tryz.sizeOf158⟩
instance : TZero Tryz.prog 158 [.nilFunc] := ⟨fun w => ⟨_, Tryz.zeroValue158 w, rfl⟩⟩
instance : TPlain Tryz.prog 159 := ⟨Tryz.isAgg159⟩
instance : TSize Tryz.prog 159 1 := ⟨Tryz.sizeOf159⟩
instance : TZero Tryz.prog 159 [.nilFunc] := ⟨fun w => ⟨_, Tryz.zeroValue159 w, rfl⟩⟩
instance : TPlain Tryz.prog 160 := ⟨Tryz.isAgg160⟩
instance : TSize Tryz.prog 160 1 := ⟨Tryz.sizeOf160⟩
instance : TZero Tryz.prog 160 [.nilFunc] := ⟨fun w => ⟨_, Tryz.zeroValue160 w, rfl⟩⟩
instance : TPlain Tryz.prog 162 := ⟨Tryz.isAgg162⟩
instance : TSize Tryz.prog 162 1 := ⟨Tryz.sizeOf162⟩
instance : TZero Tryz.prog 162 [.nilFunc] := ⟨fun w => ⟨_, Tryz.zeroValue162 w, rfl⟩⟩
instance : TPlain Tryz.prog 163 := ⟨Tryz.isAgg163⟩
instance : TSize Tryz.prog 163 1 := ⟨Tryz.sizeOf163⟩
instance : TZero Tryz.prog 163 [.nilFunc] := ⟨fun w => ⟨_, Tryz.zeroValue163 w, rfl⟩⟩
instance : TPlain Tryz.prog 164 := ⟨Tryz.isAgg164⟩
instance : TSize Tryz.prog 164 1 := ⟨Tryz.sizeOf164⟩
instance : TZero Tryz.prog 164 [.nilFunc] := ⟨fun w => ⟨_, Tryz.zeroValue164 w, rfl⟩⟩
instance : TPlain Tryz.prog 165 := ⟨Tryz.isAgg165⟩
instance : TSize Tryz.prog 165 1 := ⟨Tryz.sizeOf165⟩
instance : TZero Tryz.prog 165 [.nilFunc] := ⟨fun w => ⟨_, Tryz.zeroValue165 w, rfl⟩⟩
instance : TAgg Tryz.prog 166 3 := ⟨Tryz.isAgg166, Tryz.sizeOf166⟩
instance : TSize Tryz.prog 166 3 := ⟨Tryz.sizeOf166⟩
instance : TZero Tryz.prog 166 [.string ⟨#[]⟩, .string ⟨#[]⟩, .int .i64 0] := ⟨fun w => ⟨_, Tryz.zeroValue166 w, rfl⟩⟩
instance : TField Tryz.prog 166 0 0 := field_mk (n := 1) Tryz.runUnderlying166 rfl Tryz.sizeOf9 (by decide) rfl
instance : TField Tryz.prog 166 1 1 := field_mk (n := 1) Tryz.runUnderlying166 rfl Tryz.sizeOf9 (by decide) rfl
instance : TField Tryz.prog 166 2 2 := field_mk (n := 1) Tryz.runUnderlying166 rfl Tryz.sizeOf39 (by decide) rfl
instance : TBuild Tryz.prog 166 [.string ⟨#[]⟩, .string ⟨#[]⟩, .int .i64 0] [(0, 1), (1, 1), (2, 1)] := ⟨fun parts out w h => by simp [Instr.build, Tryz.zeroValue166, Tryz.runUnderlying166, Tryz.sizeOf39, Tryz.sizeOf9, Value.cells, h]⟩
instance : TAgg Tryz.prog 167 3 := ⟨Tryz.isAgg167, Tryz.sizeOf167⟩
instance : TSize Tryz.prog 167 3 := ⟨Tryz.sizeOf167⟩
instance : TZero Tryz.prog 167 [.string ⟨#[]⟩, .string ⟨#[]⟩, .int .i64 0] := ⟨fun w => ⟨_, Tryz.zeroValue167 w, rfl⟩⟩
instance : TField Tryz.prog 167 0 0 := field_mk (n := 1) Tryz.runUnderlying167 rfl Tryz.sizeOf9 (by decide) rfl
instance : TField Tryz.prog 167 1 1 := field_mk (n := 1) Tryz.runUnderlying167 rfl Tryz.sizeOf9 (by decide) rfl
instance : TField Tryz.prog 167 2 2 := field_mk (n := 1) Tryz.runUnderlying167 rfl Tryz.sizeOf39 (by decide) rfl
instance : TBuild Tryz.prog 167 [.string ⟨#[]⟩, .string ⟨#[]⟩, .int .i64 0] [(0, 1), (1, 1), (2, 1)] := ⟨fun parts out w h => by simp [Instr.build, Tryz.zeroValue167, Tryz.runUnderlying167, Tryz.sizeOf39, Tryz.sizeOf9, Value.cells, h]⟩
instance : TPlain Tryz.prog 168 := ⟨Tryz.isAgg168⟩
instance : TSize Tryz.prog 168 1 := ⟨Tryz.sizeOf168⟩
instance : TZero Tryz.prog 168 [.nilFunc] := ⟨fun w => ⟨_, Tryz.zeroValue168 w, rfl⟩⟩
instance : TAgg Tryz.prog 169 4 := ⟨Tryz.isAgg169, Tryz.sizeOf169⟩
instance : TSize Tryz.prog 169 4 := ⟨Tryz.sizeOf169⟩
instance : TZero Tryz.prog 169 [.bool false, .string ⟨#[]⟩, .string ⟨#[]⟩, .int .i64 0] := ⟨fun w => ⟨_, Tryz.zeroValue169 w, rfl⟩⟩
instance : TField Tryz.prog 169 0 0 := field_mk (n := 3) Tryz.runUnderlying169 rfl Tryz.sizeOf32 (by decide) rfl
instance : TField Tryz.prog 169 1 3 := field_mk (n := 1) Tryz.runUnderlying169 rfl Tryz.sizeOf39 (by decide) rfl
instance : TBuild Tryz.prog 169 [.bool false, .string ⟨#[]⟩, .string ⟨#[]⟩, .int .i64 0] [(0, 3), (3, 1)] := ⟨fun parts out w h => by simp [Instr.build, Tryz.zeroValue169, Tryz.runUnderlying169, Tryz.sizeOf32, Tryz.sizeOf39, Value.cells, h]⟩
instance : TPlain Tryz.prog 170 := ⟨Tryz.isAgg170⟩
instance : TSize Tryz.prog 170 1 := ⟨Tryz.sizeOf170⟩
instance : TZero Tryz.prog 170 [.nilFunc] := ⟨fun w => ⟨_, Tryz.zeroValue170 w, rfl⟩⟩
instance : TPlain Tryz.prog 171 := ⟨Tryz.isAgg171⟩
instance : TSize Tryz.prog 171 1 := ⟨Tryz.sizeOf171⟩
instance : TZero Tryz.prog 171 [.nilFunc] := ⟨fun w => ⟨_, Tryz.zeroValue171 w, rfl⟩⟩
instance : TPlain Tryz.prog 172 := ⟨Tryz.isAgg172⟩
instance : TSize Tryz.prog 172 1 := ⟨Tryz.sizeOf172⟩
instance : TZero Tryz.prog 172 [.nilFunc] := ⟨fun w => ⟨_, Tryz.zeroValue172 w, rfl⟩⟩
instance : TPlain Tryz.prog 173 := ⟨Tryz.isAgg173⟩
instance : TSize Tryz.prog 173 1 := ⟨Tryz.sizeOf173⟩
instance : TZero Tryz.prog 173 [.int .u32 0] := ⟨fun w => ⟨_, Tryz.zeroValue173 w, rfl⟩⟩
instance : TIntK Tryz.prog 173 .u32 := ⟨Tryz.underlying173⟩
instance : TPlain Tryz.prog 175 := ⟨Tryz.isAgg175⟩
instance : TSize Tryz.prog 175 1 := ⟨Tryz.sizeOf175⟩
instance : TZero Tryz.prog 175 [.nilFunc] := ⟨fun w => ⟨_, Tryz.zeroValue175 w, rfl⟩⟩
instance : TPlain Tryz.prog 176 := ⟨Tryz.isAgg176⟩
instance : TSize Tryz.prog 176 1 := ⟨Tryz.sizeOf176⟩
instance : TZero Tryz.prog 176 [.nilFunc] := ⟨fun w => ⟨_, Tryz.zeroValue176 w, rfl⟩⟩
instance : TPlain Tryz.prog 177 := ⟨Tryz.isAgg177⟩
instance : TSize Tryz.prog 177 1 := ⟨Tryz.sizeOf177⟩
instance : TZero Tryz.prog 177 [.nilFunc] := ⟨fun w => ⟨_, Tryz.zeroValue177 w, rfl⟩⟩
instance : TPlain Tryz.prog 178 := ⟨Tryz.isAgg178⟩
instance : TSize Tryz.prog 178 1 := ⟨Tryz.sizeOf178⟩
instance : TZero Tryz.prog 178 [.nilFunc] := ⟨fun w => ⟨_, Tryz.zeroValue178 w, rfl⟩⟩
instance : TPlain Tryz.prog 179 := ⟨Tryz.isAgg179⟩
instance : TSize Tryz.prog 179 1 := ⟨Tryz.sizeOf179⟩
instance : TZero Tryz.prog 179 [.int .u64 0] := ⟨fun w => ⟨_, Tryz.zeroValue179 w, rfl⟩⟩
instance : TIntK Tryz.prog 179 .u64 := ⟨Tryz.underlying179⟩
instance : TPlain Tryz.prog 180 := ⟨Tryz.isAgg180⟩
instance : TSize Tryz.prog 180 1 := ⟨Tryz.sizeOf180⟩
instance : TZero Tryz.prog 180 [.int .u64 0] := ⟨fun w => ⟨_, Tryz.zeroValue180 w, rfl⟩⟩
instance : TIntK Tryz.prog 180 .u64 := ⟨Tryz.underlying180⟩
instance : TPlain Tryz.prog 181 := ⟨Tryz.isAgg181⟩
instance : TSize Tryz.prog 181 1 := ⟨Tryz.sizeOf181⟩
instance : TZero Tryz.prog 181 [.nilFunc] := ⟨fun w => ⟨_, Tryz.zeroValue181 w, rfl⟩⟩
instance : TPlain Tryz.prog 182 := ⟨Tryz.isAgg182⟩
instance : TSize Tryz.prog 182 1 := ⟨Tryz.sizeOf182⟩
instance : TZero Tryz.prog 182 [.nilFunc] := ⟨fun w => ⟨_, Tryz.zeroValue182 w, rfl⟩⟩
instance : TPlain Tryz.prog 184 := ⟨Tryz.isAgg184⟩
instance : TSize Tryz.prog 184 1 := ⟨Tryz.sizeOf184⟩
instance : TZero Tryz.prog 184 [.nilFunc] := ⟨fun w => ⟨_, Tryz.zeroValue184 w, rfl⟩⟩
instance : TPlain Tryz.prog 185 := ⟨Tryz.isAgg185⟩
instance : TSize Tryz.prog 185 1 := ⟨Tryz.sizeOf185⟩
instance : TZero Tryz.prog 185 [.nilFunc] := ⟨fun w => ⟨_, Tryz.zeroValue185 w, rfl⟩⟩
instance : TPlain Tryz.prog 186 := ⟨Tryz.isAgg186⟩
instance : TSize Tryz.prog 186 1 := ⟨Tryz.sizeOf186⟩
instance : TZero Tryz.prog 186 [.nilFunc] := ⟨fun w => ⟨_, Tryz.zeroValue186 w, rfl⟩⟩
instance : TPlain Tryz.prog 187 := ⟨Tryz.isAgg187⟩
instance : TSize Tryz.prog 187 1 := ⟨Tryz.sizeOf187⟩
instance : TZero Tryz.prog 187 [.nilFunc] := ⟨fun w => ⟨_, Tryz.zeroValue187 w, rfl⟩⟩
instance : TPlain Tryz.prog 188 := ⟨Tryz.isAgg188⟩
instance : TSize Tryz.prog 188 1 := ⟨Tryz.sizeOf188⟩
instance : TZero Tryz.prog 188 [.nilFunc] := ⟨fun w => ⟨_, Tryz.zeroValue188 w, rfl⟩⟩
instance : TPlain Tryz.prog 189 := ⟨Tryz.isAgg189⟩
instance : TSize Tryz.prog 189 1 := ⟨Tryz.sizeOf189⟩
instance : TZero Tryz.prog 189 [.nilFunc] := ⟨fun w => ⟨_, Tryz.zeroValue189 w, rfl⟩⟩
instance : TPlain Tryz.prog 191 := ⟨Tryz.isAgg191⟩
instance : TSize Tryz.prog 191 1 := ⟨Tryz.sizeOf191⟩
instance : TZero Tryz.prog 191 [.nilFunc] := ⟨fun w => ⟨_, Tryz.zeroValue191 w, rfl⟩⟩
instance : TPlain Tryz.prog 193 := ⟨Tryz.isAgg193⟩
instance : TSize Tryz.prog 193 1 := ⟨Tryz.sizeOf193⟩
instance : TZero Tryz.prog 193 [.nilFunc] := ⟨fun w => ⟨_, Tryz.zeroValue193 w, rfl⟩⟩
instance : TPlain Tryz.prog 194 := ⟨Tryz.isAgg194⟩
instance : TSize Tryz.prog 194 1 := ⟨Tryz.sizeOf194⟩
instance : TZero Tryz.prog 194 [.nilFunc] := ⟨fun w => ⟨_, Tryz.zeroValue194 w, rfl⟩⟩
instance : TPlain Tryz.prog 195 := ⟨Tryz.isAgg195⟩
instance : TSize Tryz.prog 195 1 := ⟨Tryz.sizeOf195⟩
instance : TZero Tryz.prog 195 [.nilFunc] := ⟨fun w => ⟨_, Tryz.zeroValue195 w, rfl⟩⟩
instance : TPlain Tryz.prog 196 := ⟨Tryz.isAgg196⟩
instance : TSize Tryz.prog 196 1 := ⟨Tryz.sizeOf196⟩
instance : TZero Tryz.prog 196 [.nilFunc] := ⟨fun w => ⟨_, Tryz.zeroValue196 w, rfl⟩⟩
instance : TAgg Tryz.prog 197 256 := ⟨Tryz.isAgg197, Tryz.sizeOf197⟩
instance : TSize Tryz.prog 197 256 := ⟨Tryz.sizeOf197⟩
instance : TArr Tryz.prog 197 256 4 1 := ⟨Tryz.underlying197, Tryz.sizeOf4⟩
instance : TAgg Tryz.prog 198 256 := ⟨Tryz.isAgg198, Tryz.sizeOf198⟩
instance : TSize Tryz.prog 198 256 := ⟨Tryz.sizeOf198⟩
instance : TArr Tryz.prog 198 256 4 1 := ⟨Tryz.underlying198, Tryz.sizeOf4⟩
instance : TPlain Tryz.prog 200 := ⟨Tryz.isAgg200⟩
instance : TSize Tryz.prog 200 1 := ⟨Tryz.sizeOf200⟩
instance : TZero Tryz.prog 200 [.nilFunc] := ⟨fun w => ⟨_, Tryz.zeroValue200 w, rfl⟩⟩
instance : TPlain Tryz.prog 201 := ⟨Tryz.isAgg201⟩
instance : TSize Tryz.prog 201 1 := ⟨Tryz.sizeOf201⟩
instance : TZero Tryz.prog 201 [.nilFunc] := ⟨fun w => ⟨_, Tryz.zeroValue201 w, rfl⟩⟩
instance : TPlain Tryz.prog 202 := ⟨Tryz.isAgg202⟩
instance : TSize Tryz.prog 202 1 := ⟨Tryz.sizeOf202⟩
instance : TZero Tryz.prog 202 [.pointer none] := ⟨fun w => ⟨_, Tryz.zeroValue202 w, rfl⟩⟩
instance : TPlain Tryz.prog 203 := ⟨Tryz.isAgg203⟩
instance : TSize Tryz.prog 203 1 := ⟨Tryz.sizeOf203⟩
instance : TZero Tryz.prog 203 [.nilFunc] := ⟨fun w => ⟨_, Tryz.zeroValue203 w, rfl⟩⟩
instance : TPlain Tryz.prog 205 := ⟨Tryz.isAgg205⟩
instance : TSize Tryz.prog 205 1 := ⟨Tryz.sizeOf205⟩
instance : TZero Tryz.prog 205 [.nilFunc] := ⟨fun w => ⟨_, Tryz.zeroValue205 w, rfl⟩⟩
instance : TPlain Tryz.prog 206 := ⟨Tryz.isAgg206⟩
instance : TSize Tryz.prog 206 1 := ⟨Tryz.sizeOf206⟩
instance : TZero Tryz.prog 206 [.nilFunc] := ⟨fun w => ⟨_, Tryz.zeroValue206 w, rfl⟩⟩
instance : TPlain Tryz.prog 207 := ⟨Tryz.isAgg207⟩
instance : TSize Tryz.prog 207 1 := ⟨Tryz.sizeOf207⟩
instance : TZero Tryz.prog 207 [.nilFunc] := ⟨fun w => ⟨_, Tryz.zeroValue207 w, rfl⟩⟩
instance : TAgg Tryz.prog 208 256 := ⟨Tryz.isAgg208, Tryz.sizeOf208⟩
instance : TSize Tryz.prog 208 256 := ⟨Tryz.sizeOf208⟩
instance : TArr Tryz.prog 208 256 5 1 := ⟨Tryz.underlying208, Tryz.sizeOf5⟩
instance : TAgg Tryz.prog 209 2 := ⟨Tryz.isAgg209, Tryz.sizeOf209⟩
instance : TSize Tryz.prog 209 2 := ⟨Tryz.sizeOf209⟩
instance : TZero Tryz.prog 209 [.int .u8 0, .int .u8 0] := ⟨fun w => ⟨_, Tryz.zeroValue209 w, rfl⟩⟩
instance : TField Tryz.prog 209 0 0 := field_mk (n := 1) Tryz.runUnderlying209 rfl Tryz.sizeOf5 (by decide) rfl
instance : TField Tryz.prog 209 1 1 := field_mk (n := 1) Tryz.runUnderlying209 rfl Tryz.sizeOf5 (by decide) rfl
instance : TBuild Tryz.prog 209 [.int .u8 0, .int .u8 0] [(0, 1), (1, 1)] := ⟨fun parts out w h => by simp [Instr.build, Tryz.zeroValue209, Tryz.runUnderlying209, Tryz.sizeOf5, Value.cells, h]⟩
instance : TAgg Tryz.prog 210 2 := ⟨Tryz.isAgg210, Tryz.sizeOf210⟩
instance : TSize Tryz.prog 210 2 := ⟨Tryz.sizeOf210⟩
instance : TZero Tryz.prog 210 [.int .u8 0, .int .u8 0] := ⟨fun w => ⟨_, Tryz.zeroValue210 w, rfl⟩⟩
instance : TField Tryz.prog 210 0 0 := field_mk (n := 1) Tryz.runUnderlying210 rfl Tryz.sizeOf5 (by decide) rfl
instance : TField Tryz.prog 210 1 1 := field_mk (n := 1) Tryz.runUnderlying210 rfl Tryz.sizeOf5 (by decide) rfl
instance : TBuild Tryz.prog 210 [.int .u8 0, .int .u8 0] [(0, 1), (1, 1)] := ⟨fun parts out w h => by simp [Instr.build, Tryz.zeroValue210, Tryz.runUnderlying210, Tryz.sizeOf5, Value.cells, h]⟩
instance : TAgg Tryz.prog 211 32 := ⟨Tryz.isAgg211, Tryz.sizeOf211⟩
instance : TSize Tryz.prog 211 32 := ⟨Tryz.sizeOf211⟩
instance : TZero Tryz.prog 211 [.int .u8 0, .int .u8 0, .int .u8 0, .int .u8 0, .int .u8 0, .int .u8 0, .int .u8 0, .int .u8 0, .int .u8 0, .int .u8 0, .int .u8 0, .int .u8 0, .int .u8 0, .int .u8 0, .int .u8 0, .int .u8 0, .int .u8 0, .int .u8 0, .int .u8 0, .int .u8 0, .int .u8 0, .int .u8 0, .int .u8 0, .int .u8 0, .int .u8 0, .int .u8 0, .int .u8 0, .int .u8 0, .int .u8 0, .int .u8 0, .int .u8 0, .int .u8 0] := ⟨fun w => ⟨_, Tryz.zeroValue211 w, rfl⟩⟩
instance : TArr Tryz.prog 211 16 210 2 := ⟨Tryz.underlying211, Tryz.sizeOf210⟩
instance : TBuild Tryz.prog 211 [.int .u8 0, .int .u8 0, .int .u8 0, .int .u8 0, .int .u8 0, .int .u8 0, .int .u8 0, .int .u8 0, .int .u8 0, .int .u8 0, .int .u8 0, .int .u8 0, .int .u8 0, .int .u8 0, .int .u8 0, .int .u8 0, .int .u8 0, .int .u8 0, .int .u8 0, .int .u8 0, .int .u8 0, .int .u8 0, .int .u8 0, .int .u8 0, .int .u8 0, .int .u8 0, .int .u8 0, .int .u8 0, .int .u8 0, .int .u8 0, .int .u8 0, .int .u8 0] [(0, 2), (2, 2), (4, 2), (6, 2), (8, 2), (10, 2), (12, 2), (14, 2), (16, 2), (18, 2), (20, 2), (22, 2), (24, 2), (26, 2), (28, 2), (30, 2)] := build_arr Tryz.zeroValue211 Tryz.runUnderlying211 Tryz.sizeOf210 rfl (by decide)
instance : TPlain Tryz.prog 212 := ⟨Tryz.isAgg212⟩
instance : TSize Tryz.prog 212 1 := ⟨Tryz.sizeOf212⟩
instance : TZero Tryz.prog 212 [.nilFunc] := ⟨fun w => ⟨_, Tryz.zeroValue212 w, rfl⟩⟩
instance : TPlain Tryz.prog 213 := ⟨Tryz.isAgg213⟩
instance : TSize Tryz.prog 213 1 := ⟨Tryz.sizeOf213⟩
instance : TZero Tryz.prog 213 [.nilFunc] := ⟨fun w => ⟨_, Tryz.zeroValue213 w, rfl⟩⟩
instance : TPlain Tryz.prog 214 := ⟨Tryz.isAgg214⟩
instance : TSize Tryz.prog 214 1 := ⟨Tryz.sizeOf214⟩
instance : TZero Tryz.prog 214 [.nilFunc] := ⟨fun w => ⟨_, Tryz.zeroValue214 w, rfl⟩⟩
instance : TPlain Tryz.prog 220 := ⟨Tryz.isAgg220⟩
instance : TSize Tryz.prog 220 1 := ⟨Tryz.sizeOf220⟩
instance : TZero Tryz.prog 220 [.nilFunc] := ⟨fun w => ⟨_, Tryz.zeroValue220 w, rfl⟩⟩
instance : TPlain Tryz.prog 223 := ⟨Tryz.isAgg223⟩
instance : TSize Tryz.prog 223 1 := ⟨Tryz.sizeOf223⟩
instance : TZero Tryz.prog 223 [.nilFunc] := ⟨fun w => ⟨_, Tryz.zeroValue223 w, rfl⟩⟩
instance : TPlain Tryz.prog 224 := ⟨Tryz.isAgg224⟩
instance : TSize Tryz.prog 224 1 := ⟨Tryz.sizeOf224⟩
instance : TZero Tryz.prog 224 [.pointer none] := ⟨fun w => ⟨_, Tryz.zeroValue224 w, rfl⟩⟩
instance : Fun Tryz.prog 3 := ⟨Tryz.call3⟩
instance : Fun Tryz.prog 4 := ⟨Tryz.call4⟩
instance : Fun Tryz.prog 5 := ⟨Tryz.call5⟩
instance : Fun Tryz.prog 6 := ⟨Tryz.call6⟩
instance : Fun Tryz.prog 7 := ⟨Tryz.call7⟩
instance : Fun Tryz.prog 8 := ⟨Tryz.call8⟩
instance : Fun Tryz.prog 9 := ⟨Tryz.call9⟩
instance : Fun Tryz.prog 10 := ⟨Tryz.call10⟩
instance : Fun Tryz.prog 11 := ⟨Tryz.call11⟩
instance : Fun Tryz.prog 12 := ⟨Tryz.call12⟩
instance : Fun Tryz.prog 13 := ⟨Tryz.call13⟩
instance : Fun Tryz.prog 14 := ⟨Tryz.call14⟩
instance : Fun Tryz.prog 15 := ⟨Tryz.call15⟩
instance : Fun Tryz.prog 16 := ⟨Tryz.call16⟩
instance : Fun Tryz.prog 17 := ⟨Tryz.call17⟩
instance : Fun Tryz.prog 18 := ⟨Tryz.call18⟩
instance : Fun Tryz.prog 19 := ⟨Tryz.call19⟩
instance : Fun Tryz.prog 20 := ⟨Tryz.call20⟩
instance : Fun Tryz.prog 21 := ⟨Tryz.call21⟩
instance : Fun Tryz.prog 22 := ⟨Tryz.call22⟩
instance : Fun Tryz.prog 23 := ⟨Tryz.call23⟩
instance : Fun Tryz.prog 24 := ⟨Tryz.call24⟩
instance : Fun Tryz.prog 25 := ⟨Tryz.call25⟩
instance : Fun Tryz.prog 26 := ⟨Tryz.call26⟩
instance : Fun Tryz.prog 27 := ⟨Tryz.call27⟩
instance : Fun Tryz.prog 28 := ⟨Tryz.call28⟩
instance : Fun Tryz.prog 29 := ⟨Tryz.call29⟩
instance : Fun Tryz.prog 30 := ⟨Tryz.call30⟩
instance : Fun Tryz.prog 31 := ⟨Tryz.call31⟩
instance : Fun Tryz.prog 32 := ⟨Tryz.call32⟩
instance : Fun Tryz.prog 33 := ⟨Tryz.call33⟩
instance : Fun Tryz.prog 34 := ⟨Tryz.call34⟩
instance : Fun Tryz.prog 35 := ⟨Tryz.call35⟩
instance : Fun Tryz.prog 36 := ⟨Tryz.call36⟩
instance : Fun Tryz.prog 37 := ⟨Tryz.call37⟩
instance : Fun Tryz.prog 38 := ⟨Tryz.call38⟩
instance : Fun Tryz.prog 39 := ⟨Tryz.call39⟩
instance : Fun Tryz.prog 40 := ⟨Tryz.call40⟩
instance : Fun Tryz.prog 41 := ⟨Tryz.call41⟩
instance : Fun Tryz.prog 42 := ⟨Tryz.call42⟩
instance : Fun Tryz.prog 43 := ⟨Tryz.call43⟩
instance : Fun Tryz.prog 44 := ⟨Tryz.call44⟩
instance : Fun Tryz.prog 45 := ⟨Tryz.call45⟩
instance : Fun Tryz.prog 46 := ⟨Tryz.call46⟩
instance : Fun Tryz.prog 47 := ⟨Tryz.call47⟩
instance : Fun Tryz.prog 48 := ⟨Tryz.call48⟩
instance : Fun Tryz.prog 49 := ⟨Tryz.call49⟩
instance : Fun Tryz.prog 50 := ⟨Tryz.call50⟩
instance : Fun Tryz.prog 51 := ⟨Tryz.call51⟩
instance : Fun Tryz.prog 52 := ⟨Tryz.call52⟩
instance : Fun Tryz.prog 53 := ⟨Tryz.call53⟩
instance : Fun Tryz.prog 54 := ⟨Tryz.call54⟩
instance : Fun Tryz.prog 55 := ⟨Tryz.call55⟩
instance : Fun Tryz.prog 56 := ⟨Tryz.call56⟩
instance : Fun Tryz.prog 57 := ⟨Tryz.call57⟩
instance : Fun Tryz.prog 58 := ⟨Tryz.call58⟩
instance : Fun Tryz.prog 59 := ⟨Tryz.call59⟩
instance : Fun Tryz.prog 60 := ⟨Tryz.call60⟩
instance : Fun Tryz.prog 61 := ⟨Tryz.call61⟩
instance : Fun Tryz.prog 62 := ⟨Tryz.call62⟩
instance : Fun Tryz.prog 63 := ⟨Tryz.call63⟩
instance : Fun Tryz.prog 64 := ⟨Tryz.call64⟩
instance : Fun Tryz.prog 65 := ⟨Tryz.call65⟩
instance : Fun Tryz.prog 66 := ⟨Tryz.call66⟩
instance : Fun Tryz.prog 67 := ⟨Tryz.call67⟩
instance : Fun Tryz.prog 68 := ⟨Tryz.call68⟩
instance : Fun Tryz.prog 69 := ⟨Tryz.call69⟩
instance : Fun Tryz.prog 70 := ⟨Tryz.call70⟩
instance : Fun Tryz.prog 71 := ⟨Tryz.call71⟩
instance : Fun Tryz.prog 72 := ⟨Tryz.call72⟩
instance : Fun Tryz.prog 73 := ⟨Tryz.call73⟩
instance : Fun Tryz.prog 74 := ⟨Tryz.call74⟩
instance : Fun Tryz.prog 75 := ⟨Tryz.call75⟩
instance : Fun Tryz.prog 76 := ⟨Tryz.call76⟩
instance : Fun Tryz.prog 77 := ⟨Tryz.call77⟩
instance : Fun Tryz.prog 78 := ⟨Tryz.call78⟩
instance : Fun Tryz.prog 79 := ⟨Tryz.call79⟩
instance : Fun Tryz.prog 80 := ⟨Tryz.call80⟩
instance : Fun Tryz.prog 81 := ⟨Tryz.call81⟩
instance : Fun Tryz.prog 82 := ⟨Tryz.call82⟩
instance : Fun Tryz.prog 83 := ⟨Tryz.call83⟩
instance : Fun Tryz.prog 84 := ⟨Tryz.call84⟩
instance : Fun Tryz.prog 85 := ⟨Tryz.call85⟩
instance : Fun Tryz.prog 86 := ⟨Tryz.call86⟩
instance : Fun Tryz.prog 87 := ⟨Tryz.call87⟩
instance : Fun Tryz.prog 88 := ⟨Tryz.call88⟩
instance : Fun Tryz.prog 89 := ⟨Tryz.call89⟩
instance : Fun Tryz.prog 90 := ⟨Tryz.call90⟩
instance : Fun Tryz.prog 91 := ⟨Tryz.call91⟩
instance : Fun Tryz.prog 92 := ⟨Tryz.call92⟩
instance : Fun Tryz.prog 93 := ⟨Tryz.call93⟩
instance : Fun Tryz.prog 94 := ⟨Tryz.call94⟩
instance : Fun Tryz.prog 95 := ⟨Tryz.call95⟩
instance : Fun Tryz.prog 96 := ⟨Tryz.call96⟩
instance : Fun Tryz.prog 97 := ⟨Tryz.call97⟩
instance : Fun Tryz.prog 98 := ⟨Tryz.call98⟩
instance : Fun Tryz.prog 99 := ⟨Tryz.call99⟩
instance : Fun Tryz.prog 100 := ⟨Tryz.call100⟩
instance : Fun Tryz.prog 101 := ⟨Tryz.call101⟩
instance : Fun Tryz.prog 102 := ⟨Tryz.call102⟩
instance : Fun Tryz.prog 103 := ⟨Tryz.call103⟩
instance : Fun Tryz.prog 104 := ⟨Tryz.call104⟩
instance : Fun Tryz.prog 105 := ⟨Tryz.call105⟩
instance : Fun Tryz.prog 106 := ⟨Tryz.call106⟩
instance : Fun Tryz.prog 107 := ⟨Tryz.call107⟩
instance : Fun Tryz.prog 108 := ⟨Tryz.call108⟩
instance : Fun Tryz.prog 109 := ⟨Tryz.call109⟩
instance : Fun Tryz.prog 110 := ⟨Tryz.call110⟩
instance : Fun Tryz.prog 111 := ⟨Tryz.call111⟩
instance : Fun Tryz.prog 112 := ⟨Tryz.call112⟩
instance : Fun Tryz.prog 113 := ⟨Tryz.call113⟩
instance : Fun Tryz.prog 114 := ⟨Tryz.call114⟩
instance : Fun Tryz.prog 115 := ⟨Tryz.call115⟩
instance : Fun Tryz.prog 116 := ⟨Tryz.call116⟩
instance : Fun Tryz.prog 117 := ⟨Tryz.call117⟩
instance : Fun Tryz.prog 118 := ⟨Tryz.call118⟩
instance : Fun Tryz.prog 119 := ⟨Tryz.call119⟩
instance : Fun Tryz.prog 120 := ⟨Tryz.call120⟩
instance : Fun Tryz.prog 121 := ⟨Tryz.call121⟩
instance : Fun Tryz.prog 122 := ⟨Tryz.call122⟩
instance : Fun Tryz.prog 123 := ⟨Tryz.call123⟩
instance : Fun Tryz.prog 124 := ⟨Tryz.call124⟩
instance : Fun Tryz.prog 125 := ⟨Tryz.call125⟩
instance : Fun Tryz.prog 126 := ⟨Tryz.call126⟩
instance : Fun Tryz.prog 127 := ⟨Tryz.call127⟩
instance : Fun Tryz.prog 128 := ⟨Tryz.call128⟩
instance : Fun Tryz.prog 129 := ⟨Tryz.call129⟩
instance : Fun Tryz.prog 130 := ⟨Tryz.call130⟩
instance : Fun Tryz.prog 131 := ⟨Tryz.call131⟩
instance : Fun Tryz.prog 132 := ⟨Tryz.call132⟩
instance : Fun Tryz.prog 133 := ⟨Tryz.call133⟩
instance : Fun Tryz.prog 134 := ⟨Tryz.call134⟩
instance : Fun Tryz.prog 135 := ⟨Tryz.call135⟩
instance : Fun Tryz.prog 136 := ⟨Tryz.call136⟩
instance : Fun Tryz.prog 137 := ⟨Tryz.call137⟩
instance : Fun Tryz.prog 138 := ⟨Tryz.call138⟩
instance : Fun Tryz.prog 139 := ⟨Tryz.call139⟩
instance : Fun Tryz.prog 140 := ⟨Tryz.call140⟩
instance : Fun Tryz.prog 141 := ⟨Tryz.call141⟩
instance : Fun Tryz.prog 142 := ⟨Tryz.call142⟩
instance : Fun Tryz.prog 143 := ⟨Tryz.call143⟩
instance : Fun Tryz.prog 144 := ⟨Tryz.call144⟩
instance : Fun Tryz.prog 145 := ⟨Tryz.call145⟩
instance : Fun Tryz.prog 146 := ⟨Tryz.call146⟩
instance : Fun Tryz.prog 147 := ⟨Tryz.call147⟩
instance : Fun Tryz.prog 148 := ⟨Tryz.call148⟩
instance : Fun Tryz.prog 149 := ⟨Tryz.call149⟩
instance : Fun Tryz.prog 150 := ⟨Tryz.call150⟩
instance : Fun Tryz.prog 151 := ⟨Tryz.call151⟩
instance : Fun Tryz.prog 152 := ⟨Tryz.call152⟩
instance : Fun Tryz.prog 153 := ⟨Tryz.call153⟩
instance : Fun Tryz.prog 154 := ⟨Tryz.call154⟩
instance : Fun Tryz.prog 155 := ⟨Tryz.call155⟩
instance : Fun Tryz.prog 156 := ⟨Tryz.call156⟩
instance : Fun Tryz.prog 157 := ⟨Tryz.call157⟩
instance : Fun Tryz.prog 158 := ⟨Tryz.call158⟩
instance : Fun Tryz.prog 159 := ⟨Tryz.call159⟩
instance : Fun Tryz.prog 160 := ⟨Tryz.call160⟩
instance : Fun Tryz.prog 161 := ⟨Tryz.call161⟩
instance : Fun Tryz.prog 162 := ⟨Tryz.call162⟩
instance : Fun Tryz.prog 163 := ⟨Tryz.call163⟩
instance : Fun Tryz.prog 164 := ⟨Tryz.call164⟩
instance : Fun Tryz.prog 166 := ⟨Tryz.call166⟩
instance : Fun Tryz.prog 188 := ⟨Tryz.call188⟩
theorem Tryz.mixed : Tryz.prog.follows .mixedOrders = true := by decide +kernel
end Go.Proofs
/-
  Digits of natural numbers to a base, the lowest one first; numbers of bytes, the highest one first.
-/
namespace Go.Num
/-- The digits of n to the base b, the lowest one first, without zeros at the top. -/
def dgs (b n : Nat) : List Nat := if h : n = 0 ∨ b < 2 then [] else n % b :: dgs b (n / b)
termination_by n
decreasing_by
  have := Nat.div_lt_self (n := n) (k := b) (by omega) (by omega)
  exact this
/-- What digits stand for. -/
def vL (b : Nat) : List Nat → Nat
  | [] => 0
  | x :: r => x + b * vL b r
theorem dgs_zero (b : Nat) : dgs b 0 = [] := by rw [dgs]; simp
theorem dgs_pos {b n : Nat} (hb : 2 ≤ b) (hn : n ≠ 0) : dgs b n = n % b :: dgs b (n / b) := by
  rw [dgs, dif_neg (by omega)]
theorem vL_dgs {b : Nat} (hb : 2 ≤ b) (n : Nat) : vL b (dgs b n) = n := by
  induction n using Nat.strongRecOn with
  | _ n ih =>
    by_cases hn : n = 0
    · subst hn; rw [dgs_zero]; rfl
    · rw [dgs_pos hb hn, vL, ih _ (Nat.div_lt_self (by omega) (by omega))]
      exact Nat.mod_add_div n b
theorem dgs_lt {b : Nat} (hb : 2 ≤ b) (n : Nat) : ∀ x ∈ dgs b n, x < b := by
  induction n using Nat.strongRecOn with
  | _ n ih =>
    by_cases hn : n = 0
    · subst hn; rw [dgs_zero]; intro x hx; cases hx
    · rw [dgs_pos hb hn]
      intro x hx
      rcases List.mem_cons.1 hx with rfl | hx
      · exact Nat.mod_lt _ (by omega)
      · exact ih _ (Nat.div_lt_self (by omega) (by omega)) x hx
/-- The digits without the zeros at the top. -/
def trimL : List Nat → List Nat
  | [] => []
  | x :: r => if x = 0 ∧ trimL r = [] then [] else x :: trimL r
theorem trimL_eq {b : Nat} (hb : 2 ≤ b) : ∀ l : List Nat, (∀ x ∈ l, x < b) → trimL l = dgs b (vL b l)
  | [], _ => by rw [vL, dgs_zero]; rfl
  | x :: r, h => by
    have hx : x < b := h x (.head _)
    have ih := trimL_eq hb r fun y hy => h y (.tail _ hy)
    rw [trimL, vL, ih]
    by_cases h0 : x = 0 ∧ dgs b (vL b r) = []
    · obtain ⟨rfl, h1⟩ := h0
      rw [if_pos ⟨rfl, h1⟩]
      have : vL b r = 0 := by
        have := vL_dgs hb (vL b r)
        rw [h1] at this
        exact this.symm
      rw [this]; simp [dgs_zero]
    · rw [if_neg h0]
      have hne : x + b * vL b r ≠ 0 := fun e => h0 ⟨by omega, by
        have : b * vL b r = 0 := by omega
        rcases Nat.mul_eq_zero.1 this with h | h
        · omega
        · rw [h, dgs_zero]⟩
      rw [dgs_pos hb hne]
      have e1 : (x + b * vL b r) % b = x := by rw [Nat.add_mul_mod_self_left]; exact Nat.mod_eq_of_lt hx
      have e2 : (x + b * vL b r) / b = vL b r := by rw [Nat.add_mul_div_left _ _ (by omega), Nat.div_eq_of_lt hx]; omega
      rw [e1, e2]
theorem vL_append (b : Nat) : ∀ l m : List Nat, vL b (l ++ m) = vL b l + b ^ l.length * vL b m
  | [], m => by simp [vL]
  | x :: r, m => by
    rw [List.cons_append, vL, vL, vL_append b r m, List.length_cons, Nat.pow_succ]
    rw [Nat.mul_add, ← Nat.mul_assoc, Nat.mul_comm b (b ^ r.length)]
    omega
theorem vL_lt {b : Nat} (hb : 0 < b) : ∀ l : List Nat, (∀ x ∈ l, x < b) → vL b l < b ^ l.length
  | [], _ => by simp [vL]
  | x :: r, h => by
    have hx : x < b := h x (.head _)
    have ih := vL_lt hb r fun y hy => h y (.tail _ hy)
    rw [vL, List.length_cons, Nat.pow_succ, Nat.mul_comm (b ^ r.length) b]
    have : b * (vL b r + 1) ≤ b * b ^ r.length := Nat.mul_le_mul_left b ih
    rw [Nat.mul_add] at this
    omega
theorem dgs_inj {b : Nat} (hb : 2 ≤ b) {n m : Nat} (h : dgs b n = dgs b m) : n = m := by
  rw [← vL_dgs hb n, h, vL_dgs hb]
/-- What bytes stand for, the highest one first. -/
def vB (l : List UInt8) : Nat := l.foldl (fun a x => 256 * a + x.toNat) 0
/-- The bytes of a number. -/
def nB (n : Nat) : List UInt8 := ((dgs 256 n).map UInt8.ofNat).reverse
theorem vB_go : ∀ (l : List UInt8) (a : Nat), l.foldl (fun a x => 256 * a + x.toNat) a = a * 256 ^ l.length + vB l
  | [], a => by simp [vB]
  | x :: r, a => by
    have e : vB (x :: r) = (256 * 0 + x.toNat) * 256 ^ r.length + vB r := vB_go r _
    have e2 : 256 * a * 256 ^ r.length = a * (256 ^ r.length * 256) := by rw [Nat.mul_comm 256 a, Nat.mul_assoc, Nat.mul_comm 256]
    rw [List.foldl_cons, vB_go r, e, List.length_cons, Nat.pow_succ, Nat.add_mul, e2, Nat.mul_zero, Nat.zero_add, Nat.add_assoc]
theorem vB_append (l m : List UInt8) : vB (l ++ m) = vB l * 256 ^ m.length + vB m := by
  rw [vB, List.foldl_append, vB_go]; rfl
theorem vB_rev (l : List UInt8) : vB l = vL 256 (l.reverse.map UInt8.toNat) := by
  induction l with
  | nil => rfl
  | cons x r ih =>
    rw [List.reverse_cons, List.map_append, vL_append, ← ih]
    have : vB (x :: r) = vB ([x] ++ r) := rfl
    rw [this, vB_append]
    simp [vL, vB, Nat.mul_comm]
    omega
theorem nB_zero : nB 0 = [] := by simp [nB, dgs_zero]
theorem vB_nB (n : Nat) : vB (nB n) = n := by
  rw [vB_rev, nB, List.reverse_reverse, List.map_map]
  have : (dgs 256 n).map (UInt8.toNat ∘ UInt8.ofNat) = dgs 256 n := by
    conv => rhs; rw [← List.map_id (dgs 256 n)]
    refine List.map_congr_left fun x hx => ?_
    have := dgs_lt (b := 256) (by omega) n x hx
    simp [UInt8.toNat_ofNat', Nat.mod_eq_of_lt this]
  rw [this, vL_dgs (by omega)]
end Go.Num
/-
  The steps of the algorithms on digits: sums, differences, products, quotients by one digit, comparisons.
-/
namespace Go.Num
theorem vL_take_succ (b : Nat) (x : List Nat) (k : Nat) : vL b (x.take (k + 1)) = vL b (x.take k) + b ^ k * x.getD k 0 := by
  by_cases h : k < x.length
  · rw [List.take_add_one, List.getElem?_eq_getElem h, vL_append, List.length_take, Nat.min_eq_left (by omega)]
    simp [vL, List.getD_eq_getElem?_getD, List.getElem?_eq_getElem h]
  · rw [List.take_of_length_le (by omega), List.take_of_length_le (by omega), List.getD_eq_getElem?_getD, List.getElem?_eq_none (by omega)]
    simp
theorem vL_split (b : Nat) (x : List Nat) (k : Nat) : vL b x = vL b (x.take k) + b ^ (min k x.length) * vL b (x.drop k) := by
  conv => lhs; rw [← List.take_append_drop k x]
  rw [vL_append, List.length_take]
theorem getD_lt {b : Nat} (hb : 0 < b) {x : List Nat} (h : ∀ d ∈ x, d < b) (k : Nat) : x.getD k 0 < b := by
  rw [List.getD_eq_getElem?_getD]
  by_cases hk : k < x.length
  · rw [List.getElem?_eq_getElem hk]; exact h _ (List.getElem_mem hk)
  · rw [List.getElem?_eq_none (by omega)]; exact hb
theorem vL_snoc (b : Nat) (o : List Nat) (d : Nat) : vL b (o ++ [d]) = vL b o + b ^ o.length * d := by
  rw [vL_append]; simp [vL]
theorem lt_snoc {b : Nat} {o : List Nat} {d : Nat} (h : ∀ x ∈ o, x < b) (hd : d < b) : ∀ x ∈ o ++ [d], x < b := by
  intro x hx
  rcases List.mem_append.1 hx with hx | hx
  · exact h x hx
  · have : x = d := by simpa using hx
    omega
/-! ### sums -/
theorem plus_step {b : Nat} (hb : 2 ≤ b) {x y o : List Nat} {k c : Nat} (hk : o.length = k) (h : vL b o + b ^ k * c = vL b (x.take k) + vL b (y.take k)) :
    vL b (o ++ [(x.getD k 0 + y.getD k 0 + c) % b]) + b ^ (k + 1) * ((x.getD k 0 + y.getD k 0 + c) / b) = vL b (x.take (k + 1)) + vL b (y.take (k + 1)) := by
  have hs := Nat.mod_add_div (x.getD k 0 + y.getD k 0 + c) b
  rw [vL_snoc, vL_take_succ, vL_take_succ, hk, Nat.pow_succ, Nat.mul_assoc, Nat.add_assoc, ← Nat.mul_add, hs, Nat.mul_add, Nat.mul_add]
  omega
theorem plus_carry {b : Nat} (hb : 2 ≤ b) {x y : List Nat} {k c : Nat} (hx : ∀ d ∈ x, d < b) (hy : ∀ d ∈ y, d < b) (hc : c ≤ 1) : (x.getD k 0 + y.getD k 0 + c) / b ≤ 1 := by
  have h1 := getD_lt (by omega) hx k
  have h2 := getD_lt (by omega) hy k
  have : (x.getD k 0 + y.getD k 0 + c) / b < 2 := Nat.div_lt_of_lt_mul (by omega)
  omega
theorem plus_end {b : Nat} (hb : 2 ≤ b) {x y o : List Nat} {c : Nat} (hx : ∀ d ∈ x, d < b) (hy : ∀ d ∈ y, d < b) (h : vL b o + b ^ (max x.length y.length + 1) * c = vL b (x.take (max x.length y.length + 1)) + vL b (y.take (max x.length y.length + 1))) :
    vL b o = vL b x + vL b y := by
  rw [List.take_of_length_le (by omega), List.take_of_length_le (by omega)] at h
  have h1 := vL_lt (b := b) (by omega) x hx
  have h2 := vL_lt (b := b) (by omega) y hy
  have h3 : b ^ x.length ≤ b ^ (max x.length y.length) := Nat.pow_le_pow_right (by omega) (by omega)
  have h4 : b ^ y.length ≤ b ^ (max x.length y.length) := Nat.pow_le_pow_right (by omega) (by omega)
  have h5 : b ^ (max x.length y.length) * 2 ≤ b ^ (max x.length y.length + 1) := by rw [Nat.pow_succ]; exact Nat.mul_le_mul_left _ hb
  rcases Nat.eq_zero_or_pos c with rfl | hc
  · omega
  · have : b ^ (max x.length y.length + 1) * 1 ≤ b ^ (max x.length y.length + 1) * c := Nat.mul_le_mul_left _ hc
    omega
/-! ### differences -/
theorem minus_step {b : Nat} (hb : 2 ≤ b) {x y o : List Nat} {k c : Nat} (hk : o.length = k) (hy : ∀ d ∈ y, d < b) (hc : c ≤ 1) (h : vL b o + vL b (y.take k) + b ^ k * c = vL b (x.take k) + b ^ k * (2 * c)) (hx : x.getD k 0 < b) :
    ∃ d c' : Nat, (x.getD k 0 : Int) - y.getD k 0 - c = (d : Int) - (b * c' : Nat) ∧ d < b ∧ c' ≤ 1 ∧ vL b (o ++ [d]) + vL b (y.take (k + 1)) = vL b (x.take (k + 1)) + b ^ (k + 1) * c' := by
  have hy' := getD_lt (by omega) hy k
  have h' : vL b o + vL b (y.take k) = vL b (x.take k) + b ^ k * c := by
    have : b ^ k * (2 * c) = b ^ k * c + b ^ k * c := by rw [show 2 * c = c + c by omega, Nat.mul_add]
    omega
  by_cases hlt : x.getD k 0 < y.getD k 0 + c
  · refine ⟨x.getD k 0 + b - y.getD k 0 - c, 1, by omega, by omega, Nat.le_refl _, ?_⟩
    rw [vL_snoc, vL_take_succ, vL_take_succ, hk, Nat.pow_succ]
    have e : b ^ k * (x.getD k 0 + b - y.getD k 0 - c) + b ^ k * y.getD k 0 + b ^ k * c = b ^ k * x.getD k 0 + b ^ k * b * 1 := by
      rw [← Nat.mul_add, ← Nat.mul_add, Nat.mul_one, ← Nat.mul_add]; congr 1; omega
    omega
  · refine ⟨x.getD k 0 - y.getD k 0 - c, 0, by omega, by omega, Nat.zero_le _, ?_⟩
    rw [vL_snoc, vL_take_succ, vL_take_succ, hk]
    have e : b ^ k * (x.getD k 0 - y.getD k 0 - c) + b ^ k * y.getD k 0 + b ^ k * c = b ^ k * x.getD k 0 := by
      rw [← Nat.mul_add, ← Nat.mul_add]; congr 1; omega
    omega
theorem minus_end {b : Nat} (hb : 2 ≤ b) {x y o : List Nat} {c : Nat} (hx : ∀ d ∈ x, d < b) (ho : ∀ d ∈ o, d < b) (hl : o.length = x.length) (hle : vL b y ≤ vL b x) (h : vL b o + vL b (y.take x.length) = vL b x + b ^ x.length * c) :
    vL b o = vL b x - vL b y := by
  have h1 := vL_lt (b := b) (by omega) x hx
  have h2 := vL_lt (b := b) (by omega) o ho
  rw [hl] at h2
  have h3 := vL_split b y x.length
  have h4 : vL b (y.take x.length) = vL b y := by
    rcases Nat.lt_or_ge x.length y.length with hlt | hge
    · rw [Nat.min_eq_left (by omega)] at h3
      rcases Nat.eq_zero_or_pos (vL b (y.drop x.length)) with h0 | h0
      · rw [h0] at h3; omega
      · have : b ^ x.length * 1 ≤ b ^ x.length * vL b (y.drop x.length) := Nat.mul_le_mul_left _ h0
        omega
    · rw [List.take_of_length_le hge]
  rcases Nat.eq_zero_or_pos c with rfl | hc
  · omega
  · have : b ^ x.length * 1 ≤ b ^ x.length * c := Nat.mul_le_mul_left _ hc
    omega
/-! ### products -/
theorem vL_set (b : Nat) : ∀ (l : List Nat) (j v : Nat), j < l.length → vL b (l.set j v) + b ^ j * l.getD j 0 = vL b l + b ^ j * v
  | [], j, v, h => absurd h (by simp)
  | x :: r, 0, v, _ => by simp [vL]; omega
  | x :: r, j + 1, v, h => by
    have ih := vL_set b r j v (by simpa using h)
    have e : b * vL b (r.set j v) + b * (b ^ j * r.getD j 0) = b * vL b r + b * (b ^ j * v) := by rw [← Nat.mul_add, ih, Nat.mul_add]
    simp only [List.set_cons_succ, vL, List.getD_cons_succ, Nat.pow_succ]
    rw [Nat.mul_comm (b ^ j) b, Nat.mul_assoc, Nat.mul_assoc]
    omega
theorem times_step {b : Nat} {o y : List Nat} {a i k c z : Nat} (hik : i + k < o.length) (h : vL b o + b ^ (i + k) * c = z + a * b ^ i * vL b (y.take k)) :
    vL b (o.set (i + k) ((a * y.getD k 0 + o.getD (i + k) 0 + c) % b)) + b ^ (i + (k + 1)) * ((a * y.getD k 0 + o.getD (i + k) 0 + c) / b) = z + a * b ^ i * vL b (y.take (k + 1)) := by
  have hs := Nat.mod_add_div (a * y.getD k 0 + o.getD (i + k) 0 + c) b
  have h2 := vL_set b o (i + k) ((a * y.getD k 0 + o.getD (i + k) 0 + c) % b) hik
  have e1 : b ^ (i + (k + 1)) = b ^ (i + k) * b := by rw [← Nat.add_assoc, Nat.pow_succ]
  have e2 : a * b ^ i * (b ^ k * y.getD k 0) = b ^ (i + k) * (a * y.getD k 0) := by
    rw [Nat.pow_add, Nat.mul_comm a, Nat.mul_assoc, Nat.mul_assoc, Nat.mul_left_comm a]
  rw [vL_take_succ, e1, Nat.mul_add, e2, Nat.mul_assoc]
  have e3 : b ^ (i + k) * ((a * y.getD k 0 + o.getD (i + k) 0 + c) % b) + b ^ (i + k) * (b * ((a * y.getD k 0 + o.getD (i + k) 0 + c) / b)) = b ^ (i + k) * (a * y.getD k 0) + b ^ (i + k) * o.getD (i + k) 0 + b ^ (i + k) * c := by
    rw [← Nat.mul_add, hs, Nat.mul_add, Nat.mul_add]
  omega
theorem times_small {b a u v c : Nat} (ha : a < b) (hu : u < b) (hv : v < b) (hc : c < b) : (a * u + v + c) / b < b := by
  apply Nat.div_lt_of_lt_mul
  have h1 : a * u ≤ (b - 1) * (b - 1) := Nat.mul_le_mul (by omega) (by omega)
  obtain ⟨m, rfl⟩ : ∃ m, b = m + 1 := ⟨b - 1, by omega⟩
  simp only [Nat.add_sub_cancel] at h1
  rw [Nat.add_mul, Nat.mul_add]
  omega
/-! ### quotients by one digit -/
theorem small_step {b d x q r v w : Nat} (hr : r < d) (hx : x < b) (h : d * q + r = v) (hw : w = x + b * v) : (r * b + x) / d < b ∧ (r * b + x) % d < d ∧ d * ((r * b + x) / d + b * q) + (r * b + x) % d = w := by
  refine ⟨Nat.div_lt_of_lt_mul ?_, Nat.mod_lt _ (by omega), ?_⟩
  · have : (r + 1) * b ≤ d * b := Nat.mul_le_mul_right _ hr
    rw [Nat.add_mul, Nat.one_mul] at this
    omega
  · have hs := Nat.mod_add_div (r * b + x) d
    subst hw; subst h
    rw [Nat.mul_add, Nat.mul_add b, Nat.mul_left_comm b, Nat.mul_comm b r, Nat.mul_left_comm d]
    omega
end Go.Num
/-
  Comparing digits; the canonical bytes; lengths; the division digit by digit.
-/
namespace Go.Num
theorem dgs_bound {b : Nat} (hb : 2 ≤ b) : ∀ (k n : Nat), n < b ^ k → (dgs b n).length ≤ k
  | 0, n, h => by
    have : n = 0 := by simpa using h
    subst this; rw [dgs_zero]; exact Nat.le_refl _
  | k + 1, n, h => by
    by_cases hn : n = 0
    · subst hn; rw [dgs_zero]; exact Nat.zero_le _
    · rw [dgs_pos hb hn, List.length_cons]
      have := dgs_bound hb k (n / b) (Nat.div_lt_of_lt_mul (by rw [Nat.pow_succ, Nat.mul_comm] at h; exact h))
      omega
theorem dgs_least {b : Nat} (hb : 2 ≤ b) (n : Nat) (h : n ≠ 0) : b ^ ((dgs b n).length - 1) ≤ n := by
  rcases Nat.lt_or_ge n (b ^ ((dgs b n).length - 1)) with h1 | h1
  · have := dgs_bound hb _ n h1
    have h2 : (dgs b n).length ≠ 0 := by rw [dgs_pos hb h]; simp
    omega
  · exact h1
theorem dgs_len_lt {b : Nat} (hb : 2 ≤ b) {m n : Nat} (h : (dgs b m).length < (dgs b n).length) : m < n := by
  have hn : n ≠ 0 := fun e => by subst e; rw [dgs_zero] at h; exact absurd h (by simp)
  have h1 := dgs_least hb n hn
  have h2 := vL_lt (b := b) (by omega) (dgs b m) (dgs_lt hb m)
  rw [vL_dgs hb] at h2
  have h3 : b ^ (dgs b m).length ≤ b ^ ((dgs b n).length - 1) := Nat.pow_le_pow_right (by omega) (by omega)
  omega
theorem dgs_len_mono {b : Nat} (hb : 2 ≤ b) {m n : Nat} (h : m ≤ n) : (dgs b m).length ≤ (dgs b n).length := by
  rcases Nat.lt_or_ge (dgs b n).length (dgs b m).length with h1 | h1
  · have := dgs_len_lt hb h1; omega
  · exact h1
theorem vL_drop_succ {b : Nat} {x : List Nat} {k : Nat} (h : k < x.length) : vL b (x.drop k) = x.getD k 0 + b * vL b (x.drop (k + 1)) := by
  rw [List.drop_eq_getElem_cons h, vL, List.getD_eq_getElem?_getD, List.getElem?_eq_getElem h]; rfl
theorem cmp_top {b : Nat} (hb : 2 ≤ b) {x y : List Nat} {k : Nat} (hx : ∀ d ∈ x, d < b) (hl : x.length = y.length) (hk : k < x.length) (h : vL b (x.drop (k + 1)) = vL b (y.drop (k + 1))) (hlt : x.getD k 0 < y.getD k 0) : vL b x < vL b y := by
  have h1 := vL_split b x k
  have h2 := vL_split b y k
  rw [Nat.min_eq_left (by omega)] at h1 h2
  rw [vL_drop_succ hk] at h1
  rw [vL_drop_succ (by omega), ← h] at h2
  have h3 := vL_lt (b := b) (by omega) (x.take k) fun d hd => hx d (List.mem_of_mem_take hd)
  rw [List.length_take, Nat.min_eq_left (by omega)] at h3
  have h4 : b ^ k * (x.getD k 0 + 1 + b * vL b (x.drop (k + 1))) ≤ b ^ k * (y.getD k 0 + b * vL b (x.drop (k + 1))) := Nat.mul_le_mul_left _ (by omega)
  rw [Nat.mul_add, Nat.mul_add, Nat.mul_one] at h4
  rw [Nat.mul_add] at h1 h2 h4
  omega
/-! ### the division, one digit of the quotient -/
theorem kn_top {V R q t v p : Nat} (hV : v * p ≤ V) (hR : R < (t + 1) * p) (hq : q * V ≤ R) : q * v ≤ t := by
  have h1 : q * (v * p) ≤ q * V := Nat.mul_le_mul_left _ hV
  have h2 : q * v * p < (t + 1) * p := by rw [Nat.mul_assoc]; omega
  have := Nat.lt_of_mul_lt_mul_right h2
  omega
theorem kn_second {b V R g t v u l r p : Nat} (hV : (v * b + u) * p ≤ V) (hR : R < (t * b + r + 1) * p) (hl : l + g * v = t) (hg : l * b + r < g * u) : R < g * V := by
  have h1 : g * ((v * b + u) * p) ≤ g * V := Nat.mul_le_mul_left _ hV
  have h2 : (t * b + r + 1) ≤ g * (v * b + u) := by
    subst hl
    rw [Nat.mul_add, Nat.add_mul, ← Nat.mul_assoc]
    omega
  have h3 := Nat.mul_le_mul_right p h2
  rw [Nat.mul_assoc] at h3
  omega
theorem kn_next {V R g q : Nat} (hq : q = R / V) (hV : 0 < V) (h : R < g * V) : q < g := by
  subst hq
  exact (Nat.div_lt_iff_lt_mul hV).2 h
theorem kn_end {V R g q : Nat} (hq : q = R / V) (hV : 0 < V) (hle : q ≤ g) (h : g * V ≤ R) : g = q := by
  subst hq
  have := (Nat.le_div_iff_mul_le hV).2 h
  omega
/-! ### the canonical bytes -/
theorem trimL_last : ∀ (m : List Nat), m ≠ [] → m.getLast? ≠ some 0 → trimL m = m
  | [], h, _ => absurd rfl h
  | [x], _, h => by
    have : x ≠ 0 := fun e => h (by rw [e]; rfl)
    simp [trimL, this]
  | x :: y :: r, _, h => by
    have ih := trimL_last (y :: r) (by simp) (by simpa [List.getLast?_cons_cons] using h)
    rw [trimL, if_neg (by rw [ih]; simp), ih]
theorem nB_vB_of {x : UInt8} {r : List UInt8} (hx : x ≠ 0) : nB (vB (x :: r)) = x :: r := by
  have hlt : ∀ d ∈ (x :: r).reverse.map UInt8.toNat, d < 256 := fun d hd => by
    obtain ⟨y, _, rfl⟩ := List.mem_map.1 hd
    exact y.toNat_lt
  rw [nB, vB_rev, ← trimL_eq (by omega) _ hlt, trimL_last]
  · rw [List.map_map]
    have : (UInt8.ofNat ∘ UInt8.toNat) = id := by funext y; simp
    rw [this]; simp
  · simp
  · rw [List.getLast?_map, List.getLast?_reverse]
    simp only [List.head?_cons, Option.map_some, ne_eq, Option.some.injEq]
    intro e
    exact hx (UInt8.toNat_inj.1 (by simpa using e))
theorem clean_eq : ∀ l : List UInt8, l.dropWhile (· == 0) = nB (vB l)
  | [] => by simp [vB, nB_zero]
  | x :: r => by
    by_cases hx : x = 0
    · subst hx
      have e : vB (0 :: r) = vB r := by show vB ([0] ++ r) = _; rw [vB_append]; simp [vB]
      rw [e, ← clean_eq r]
      simp
    · rw [nB_vB_of hx]
      simp [hx]
theorem nB_bound {n k : Nat} (h : n < 256 ^ k) : (nB n).length ≤ k := by
  rw [nB, List.length_reverse, List.length_map]
  exact dgs_bound (by omega) k n h
theorem vB_lt (l : List UInt8) : vB l < 256 ^ l.length := by
  rw [vB_rev]
  have := vL_lt (b := 256) (by omega) (l.reverse.map UInt8.toNat) fun d hd => by
    obtain ⟨y, _, rfl⟩ := List.mem_map.1 hd
    exact y.toNat_lt
  simpa using this
theorem nB_inj {m n : Nat} (h : nB m = nB n) : m = n := by rw [← vB_nB m, h, vB_nB]
theorem nB_head (n : Nat) : (nB n).head? ≠ some 0 := by
  intro h
  have h1 := clean_eq (nB n)
  rw [vB_nB] at h1
  cases hn : nB n with
  | nil => rw [hn] at h; cases h
  | cons x r =>
    rw [hn] at h h1
    have : x = 0 := by simpa using h
    subst this
    have h2 := congrArg List.length h1
    have h3 := (List.dropWhile_sublist (fun x : UInt8 => x == 0) (l := r)).length_le
    simp at h2
    omega
end Go.Num
