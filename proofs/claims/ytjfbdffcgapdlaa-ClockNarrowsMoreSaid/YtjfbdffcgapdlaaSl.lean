/-
  A small logic of memory over the walk: what is known of the temporaries is a list, what is known of the call's own memory is a list of rows; the world itself is not named.
-/
import Derived.WalkKit
import Derived.WalkSpells
import Derived.WalkLawsBesides
import Derived.Deep.Quiet
import Derived.RangeFuncIn
namespace Go.Sl
open Go.RowKit

/-! ### temporaries -/
def getT : List (Nat × Value) → Nat → Option Value
  | [], _ => none
  | (k, v) :: r, t => match Nat.beq k t with
    | true => some v
    | false => getT r t

structure Fits (N : Nat) (st : List (Nat × Value)) (a : Act) : Prop where
  size : a.tmps.size = N
  get : ∀ t v, getT st t = some v → a.tmps[t]? = some v

def putT (st : List (Nat × Value)) (d : Option Nat) (v : Value) : List (Nat × Value) :=
  match d with
  | some d => (d, v) :: st
  | none => st

theorem Fits.put {N : Nat} {st : List (Nat × Value)} {a : Act} (h : Fits N st a) {d : Nat} (hd : Nat.blt d N = true) (v : Value) : Fits N ((d, v) :: st) (a.put (some d) v) := by
  have hd' : d < N := by simpa using hd
  refine ⟨by simp [Act.put, h.size], fun t u hu => ?_⟩
  simp only [getT] at hu
  split at hu
  · rename_i e
    have e' : d = t := by simpa using e
    subst e'
    cases hu
    simp [Act.put, h.size, hd']
  · rename_i e
    have e' : d ≠ t := fun h => by subst h; simp at e
    have := h.get t u hu
    simp [Act.put, Array.getElem?_setIfInBounds_ne e', this]

def evS (st : List (Nat × Value)) : Operand → Option Value
  | .tmp t => getT st t
  | .const v => some v
  | .global g => some (.pointer (some ⟨g, 0, none⟩))
  | .func f => some (.func (.func f) #[] #[])

theorem Fits.eval {N : Nat} {st : List (Nat × Value)} {a : Act} (h : Fits N st a) {x : Operand} {v : Value} (hx : evS st x = some v) : a.eval x = v := by
  cases x with
  | tmp t => simp only [evS] at hx; simp [Act.eval, h.get t v hx]
  | const u => simp only [evS, Option.some.injEq] at hx; exact hx
  | global g => simp only [evS, Option.some.injEq] at hx; exact hx
  | func f => simp only [evS, Option.some.injEq] at hx; exact hx

/-- Every entry of the second list stands in the first. -/
def Sub (st : List (Nat × Value)) : List (Nat × Value) → Prop
  | [] => True
  | (t, v) :: r => getT st t = some v ∧ Sub st r

theorem Sub.get {st : List (Nat × Value)} : ∀ {st' : List (Nat × Value)}, Sub st st' → ∀ t v, getT st' t = some v → getT st t = some v
  | [], _, t, v, h => by simp [getT] at h
  | (k, u) :: r, hs, t, v, h => by
    simp only [getT] at h
    split at h
    · rename_i e
      have e' : k = t := by simpa using e
      subst e'; cases h; exact hs.1
    · exact Sub.get hs.2 t v h

theorem Fits.sub {N : Nat} {st st' : List (Nat × Value)} {a : Act} (h : Fits N st a) (hs : Sub st st') : Fits N st' a :=
  ⟨h.size, fun t v hv => h.get t v (hs.get t v hv)⟩

/-! ### memory -/
inductive Row where
  /-- block b holds cells of the type e, of which the first are cs; tot cells in all -/
  | blk (b : Nat) (e : TypeId) (cs : List Value) (tot : Nat)
  /-- the slice value v owns n elements -/
  | own (base : Nat) (v : Value) (e : TypeId) (size n : Nat) (xs : List Value)
  /-- block b is this object -/
  | obj (b : Nat) (o : Obj)
  /-- whatever leans on the blocks S alone -/
  | fact (N : Nat) (S : Nat → Prop) (A : World → Prop) (hk : ∀ w w' : World, (∀ b, (b < N ∨ S b) → w'.heap[b]? = w.heap[b]?) → A w → A w')

def Row.sup : Row → Nat → Prop
  | .blk b _ _ _, k => k = b
  | .own _ v _ _ _ _, k => v.ownBlock = some k
  | .obj b _, k => k = b
  | .fact _ S _ _, k => S k

/-- The blocks that are this row's alone. -/
def Row.lock : Row → Nat → Prop
  | .blk b _ _ _, k => k = b
  | .own _ v _ _ _ _, k => v.ownBlock = some k
  | .obj b _, k => k = b
  | .fact _ _ _ _, _ => False
theorem Row.lock_sup {r : Row} {k : Nat} (h : r.lock k) : r.sup k := by
  cases r with
  | blk => exact h
  | own => exact h
  | obj => exact h
  | fact => exact h.elim

def Row.base : Row → Nat
  | .fact N _ _ _ => N
  | _ => 0

def Row.hold : Row → World → Prop
  | .blk b e cs tot, w => ∃ rest : List Value, w.heap[b]? = some (.cells (cs ++ rest).toArray e (0, 0)) ∧ cs.length + rest.length = tot
  | .own base v e size n xs, w => w.ownsRow base e size v n xs
  | .obj b o, w => w.heap[b]? = some o
  | .fact _ _ A _, w => A w

theorem ownsRow_same {w w' : World} {base : Nat} {e : TypeId} {size : Nat} {v : Value} {n : Nat} {xs : List Value} (h : ∀ b, v.ownBlock = some b → w'.heap[b]? = w.heap[b]?) (ho : w.ownsRow base e size v n xs) : w'.ownsRow base e size v n xs := by
  obtain ⟨h1, h2⟩ := ho
  refine ⟨h1, ?_⟩
  rcases h2 with h2 | ⟨g, cap, cur, hv, hg, hh, r⟩
  · exact .inl h2
  · exact .inr ⟨g, cap, cur, hv, hg, by rw [h g (by rw [hv]; rfl)]; exact hh, r⟩

theorem Row.keep {r : Row} {w w' : World} (h : ∀ b, (b < r.base ∨ r.sup b) → w'.heap[b]? = w.heap[b]?) (hh : r.hold w) : r.hold w' := by
  cases r with
  | blk b e cs tot =>
    obtain ⟨rest, h1, h2⟩ := hh
    exact ⟨rest, by rw [h b (.inr rfl)]; exact h1, h2⟩
  | own base v e size n xs => exact ownsRow_same (fun b hb => h b (.inr hb)) hh
  | obj b o => exact (h b (.inr rfl)).trans hh
  | fact N S A hk => exact hk w w' h hh

structure Sat (w0 : World) (M : List Row) (w : World) : Prop where
  below : Below w0.heap.size w0 w
  hold : ∀ r ∈ M, r.hold w
  old : ∀ r ∈ M, r.base ≤ w0.heap.size ∧ ∀ b, r.sup b → w0.heap.size ≤ b ∧ b < w.heap.size
  apart : M.Pairwise (fun r s => ∀ b, (r.lock b → ¬ s.sup b) ∧ (s.lock b → ¬ r.sup b))

theorem Sat.start (w0 : World) : Sat w0 [] w0 := ⟨Below.refl _ _, by simp, by simp, .nil⟩

theorem Sat.size {w0 w : World} {M : List Row} (h : Sat w0 M w) : w0.heap.size ≤ w.heap.size := h.below.size

/-- Everything that lay lies as it lay. -/
theorem Sat.ext {w0 w w' : World} {M : List Row} (h : Sat w0 M w) (hb : Below w.heap.size w w') : Sat w0 M w' := by
  refine ⟨h.below.trans (hb.mono h.size), fun r hr => Row.keep (fun b hb' => hb.block b ?_) (h.hold r hr), fun r hr => ⟨(h.old r hr).1, fun b hb' => ⟨((h.old r hr).2 b hb').1, Nat.lt_of_lt_of_le ((h.old r hr).2 b hb').2 hb.size⟩⟩, h.apart⟩
  rcases hb' with h1 | h1
  · exact Nat.lt_of_lt_of_le (Nat.lt_of_lt_of_le h1 (h.old r hr).1) h.size
  · exact ((h.old r hr).2 b h1).2

/-- Something new lies beside it. -/
theorem Sat.new {w0 w w' : World} {M : List Row} (h : Sat w0 M w) (hb : Below w.heap.size w w') {r : Row} (hr : r.hold w') (hbase : r.base ≤ w0.heap.size) (hs : ∀ b, r.sup b → w.heap.size ≤ b ∧ b < w'.heap.size) : Sat w0 (r :: M) w' := by
  have h' := h.ext hb
  refine ⟨h'.below, ?_, ?_, ?_⟩
  · intro s hs'
    rcases List.mem_cons.1 hs' with rfl | hs'
    · exact hr
    · exact h'.hold s hs'
  · intro s hs'
    rcases List.mem_cons.1 hs' with rfl | hs'
    · exact ⟨hbase, fun b hb' => ⟨Nat.le_trans h.size (hs b hb').1, (hs b hb').2⟩⟩
    · exact h'.old s hs'
  · refine List.pairwise_cons.2 ⟨fun s hs' b => ⟨fun hb' hb'' => ?_, fun hb'' hb' => ?_⟩, h'.apart⟩
    · have h1 := (hs b (Row.lock_sup hb')).1
      have h2 := ((h.old s hs').2 b hb'').2
      omega
    · have h1 := (hs b hb').1
      have h2 := ((h.old s hs').2 b (Row.lock_sup hb'')).2
      omega

/-- Row i has changed, within its own blocks and new ones. -/
theorem Sat.change {w0 w w' : World} {M : List Row} (h : Sat w0 M w) {i : Nat} {r r' : Row} (hi : M[i]? = some r)
    (hos : w'.os = w.os) (htape : w'.tape = w.tape) (hout : w'.output = w.output) (hsize : w.heap.size ≤ w'.heap.size)
    (hblock : ∀ k, k < w.heap.size → ¬ r.lock k → w'.heap[k]? = w.heap[k]?)
    (hr : r'.hold w') (hbase : r'.base ≤ w0.heap.size) (hs : ∀ b, r'.sup b → (r.lock b ∨ w.heap.size ≤ b) ∧ b < w'.heap.size) : Sat w0 (M.set i r') w' := by
  have hlt : i < M.length := (List.getElem?_eq_some_iff.1 hi).1
  have hri : r ∈ M := List.mem_of_getElem? hi
  have hmem : ∀ s ∈ M.set i r', s = r' ∨ (s ∈ M ∧ (∀ b, s.sup b → ¬ r.lock b)) := by
    intro s hs'
    obtain ⟨j, hj⟩ := List.mem_iff_getElem?.1 hs'
    by_cases e : i = j
    · subst e
      rw [List.getElem?_set_self hlt] at hj
      cases hj; exact .inl rfl
    · rw [List.getElem?_set_ne e] at hj
      refine .inr ⟨List.mem_of_getElem? hj, ?_⟩
      have hjl := (List.getElem?_eq_some_iff.1 hj).1
      have hp := List.pairwise_iff_getElem.1 h.apart
      have ei : M[i] = r := (List.getElem?_eq_some_iff.1 hi).2
      have ej : M[j] = s := (List.getElem?_eq_some_iff.1 hj).2
      rcases Nat.lt_or_ge i j with hij | hij
      · have := hp i j hlt hjl hij
        rw [ei, ej] at this
        exact fun b hb hb' => (this b).1 hb' hb
      · have := hp j i hjl hlt (by omega)
        rw [ei, ej] at this
        exact fun b hb hb' => (this b).2 hb' hb
  have hnew : ∀ b, r'.sup b → w0.heap.size ≤ b := fun b hb => by
    rcases (hs b hb).1 with h1 | h1
    · exact ((h.old r hri).2 b (Row.lock_sup h1)).1
    · exact Nat.le_trans h.size h1
  refine ⟨h.below.trans ⟨hos, htape, hout, hsize, fun k hk => hblock k (Nat.lt_of_lt_of_le hk h.size) fun hk' => ?_⟩, ?_, ?_, ?_⟩
  · have := ((h.old r hri).2 k (Row.lock_sup hk')).1
    omega
  · intro s hs'
    rcases hmem s hs' with rfl | ⟨h1, h3⟩
    · exact hr
    · refine Row.keep (fun b hb => hblock b ?_ ?_) (h.hold s h1)
      · rcases hb with hb | hb
        · exact Nat.lt_of_lt_of_le (Nat.lt_of_lt_of_le hb (h.old s h1).1) h.size
        · exact ((h.old s h1).2 b hb).2
      · rcases hb with hb | hb
        · intro hb'
          have h4 := ((h.old r hri).2 b (Row.lock_sup hb')).1
          have h5 := (h.old s h1).1
          omega
        · exact h3 b hb
  · intro s hs'
    rcases hmem s hs' with rfl | ⟨h1, -⟩
    · exact ⟨hbase, fun b hb => ⟨hnew b hb, (hs b hb).2⟩⟩
    · exact ⟨(h.old s h1).1, fun b hb => ⟨((h.old s h1).2 b hb).1, Nat.lt_of_lt_of_le ((h.old s h1).2 b hb).2 hsize⟩⟩
  · refine List.pairwise_iff_getElem.2 fun x y hx hy hxy b => ?_
    rw [List.length_set] at hx hy
    have hp := List.pairwise_iff_getElem.1 h.apart
    have ei : M[i] = r := (List.getElem?_eq_some_iff.1 hi).2
    by_cases ex : i = x
    · subst ex
      rw [List.getElem_set_self, List.getElem_set_ne (by omega)]
      have key : r'.sup b → ¬ M[y].sup b := fun hb hb' => by
        rcases (hs b hb).1 with h1 | h1
        · exact (hp i y hlt hy hxy b).1 (by rw [ei]; exact h1) hb'
        · have := ((h.old M[y] (List.getElem_mem hy)).2 b hb').2
          omega
      exact ⟨fun hb hb' => key (Row.lock_sup hb) hb', fun hb' hb => key hb (Row.lock_sup hb')⟩
    · rw [List.getElem_set_ne ex]
      by_cases ey : i = y
      · subst ey
        rw [List.getElem_set_self]
        have key : r'.sup b → ¬ M[x].sup b := fun hb hb' => by
          rcases (hs b hb).1 with h1 | h1
          · exact (hp x i hx hlt hxy b).2 (by rw [ei]; exact h1) hb'
          · have := ((h.old M[x] (List.getElem_mem hx)).2 b hb').2
            omega
        exact ⟨fun hb hb' => key hb' (Row.lock_sup hb), fun hb' hb => key (Row.lock_sup hb') hb⟩
      · rw [List.getElem_set_ne ey]
        exact hp x y hx hy hxy b

/-- A fact that follows from the rows. -/
theorem Sat.addFact {w0 w : World} {M : List Row} (h : Sat w0 M w) {N : Nat} {S : Nat → Prop} {A : World → Prop} {hk : ∀ w w' : World, (∀ b, (b < N ∨ S b) → w'.heap[b]? = w.heap[b]?) → A w → A w'}
    (hN : N ≤ w0.heap.size) (hA : A w) (hS : ∀ b, S b → w0.heap.size ≤ b ∧ b < w.heap.size ∧ ∀ r ∈ M, ¬ r.lock b) : Sat w0 (.fact N S A hk :: M) w := by
  refine ⟨h.below, ?_, ?_, List.pairwise_cons.2 ⟨fun s hs' b => ⟨fun hb' _ => hb'.elim, fun hb' hb => (hS b hb).2.2 s hs' hb'⟩, h.apart⟩⟩
  · intro s hs'
    rcases List.mem_cons.1 hs' with rfl | hs'
    · exact hA
    · exact h.hold s hs'
  · intro s hs'
    rcases List.mem_cons.1 hs' with rfl | hs'
    · exact ⟨hN, fun b hb => ⟨(hS b hb).1, (hS b hb).2.1⟩⟩
    · exact h.old s hs'

/-- Row i is forgotten. -/
theorem Sat.forget {w0 w : World} {M M' : List Row} (h : Sat w0 M w) (hs : M'.Sublist M) : Sat w0 M' w :=
  ⟨h.below, fun r hr => h.hold r (hs.subset hr), fun r hr => h.old r (hs.subset hr), h.apart.sublist hs⟩

/-! ### cells -/
theorem Sat.cellOld {w0 w : World} {M : List Row} (h : Sat w0 M w) {p : Addr} {v : Value} (hc : w0.cell? p = some v) (hp : p.block < w0.heap.size) : w.cell? p = some v :=
  (h.below.cell hp).trans hc

theorem Sat.cellBlk {w0 w : World} {M : List Row} (h : Sat w0 M w) {b : Nat} {e : TypeId} {cs : List Value} {n : Nat} (hm : Row.blk b e cs n ∈ M) {j : Nat} {v : Value} (hv : cs[j]? = some v) : w.cell? ⟨b, j, none⟩ = some v := by
  obtain ⟨rest, h1, -⟩ := h.hold _ hm
  have hj := (List.getElem?_eq_some_iff.1 hv).1
  simp only [World.cell?, h1, Option.isSome_none, Bool.false_eq_true, if_false]
  simp [List.getElem?_append_left hj, hv]

theorem Sat.alloc {w0 w : World} {M : List Row} (h : Sat w0 M w) (e : TypeId) (cs : List Value) : Sat w0 (.blk w.heap.size e cs cs.length :: M) (w.alloc (.cells cs.toArray e)) := by
  refine h.new ((Below.refl _ _).alloc (Nat.le_refl _) _) ⟨[], ?_, by simp⟩ (Nat.zero_le _) fun b hb => ?_
  · rw [List.append_nil]; show (w.heap.push _)[w.heap.size]? = _; simp
  · cases hb; exact ⟨Nat.le_refl _, by simp⟩

theorem setCell_heap_self (w : World) (b j : Nat) (v : Value) (c : Array Value) (e : TypeId) (f : Nat × Nat) (h : w.heap[b]? = some (.cells c e f)) : (w.setCell ⟨b, j, none⟩ v).heap[b]? = some (.cells (c.setIfInBounds j v) e f) := by
  simp only [World.setCell, Array.getElem?_modify, if_true, h, Option.map_some, Option.isSome_none, Bool.false_eq_true, if_false]

theorem Sat.set {w0 w : World} {M : List Row} (h : Sat w0 M w) {i b : Nat} {e : TypeId} {cs : List Value} {n : Nat} (hi : M[i]? = some (Row.blk b e cs n)) {j : Nat} (hj : j < cs.length) (v : Value) : Sat w0 (M.set i (.blk b e (cs.set j v) n)) (w.setCell ⟨b, j, none⟩ v) := by
  obtain ⟨rest, h1, h2⟩ := h.hold _ (List.mem_of_getElem? hi)
  have hb : b < w.heap.size := (Array.getElem?_eq_some_iff.1 h1).1
  refine h.change hi rfl rfl rfl (by simp [World.setCell]) (fun k hk hk' => Below.heap_setCell _ _ _ _ hk') ⟨rest, ?_, by simpa using h2⟩ (Nat.zero_le _) fun b' hb' => ⟨.inl hb', by cases hb'; simpa [World.setCell] using hb⟩
  rw [setCell_heap_self w b j v _ _ _ h1]
  simp [List.set_append_left _ _ hj]

/-! ### running -/
/-- From here the frame comes to where PHI asks. -/
def Run (P : Program) (b : Frame) (PHI : List Frame → Machine → Prop) (todo : List Item) (a : Act) (w : World) : Prop :=
  ∀ cs, ∃ m', Steps P (lone (b.atR a todo) cs w) m' ∧ PHI cs m'

structure Ctx where
  P : Program
  b : Frame
  PHI : List Frame → Machine → Prop
  N : Nat
  w0 : World
  D : List Deferred

structure J (C : Ctx) (st : List (Nat × Value)) (M : List Row) (todo : List Item) : Prop where
  go : ∀ a w, Fits C.N st a → a.defers = C.D → Sat C.w0 M w → Run C.P C.b C.PHI todo a w

theorem Run.step {P : Program} {b : Frame} {PHI : List Frame → Machine → Prop} {todo todo' : List Item} {a a' : Act} {w w' : World}
    (hs : ∀ cs, step P (lone (b.atR a todo) cs w) = .next (lone (b.atR a' todo') cs w')) (h : Run P b PHI todo' a' w') : Run P b PHI todo a w :=
  fun cs => let ⟨m, h1, h2⟩ := h cs; ⟨m, .head (hs cs) h1, h2⟩

variable {C : Ctx} {st : List (Nat × Value)} {M : List Row} {k : List Item}

theorem J.sub {st' : List (Nat × Value)} (hs : Sub st st') (h : J C st' M k) : J C st M k := .mk fun a w hf hd hw => h.go a w (hf.sub hs) hd hw
theorem J.forget {M' : List Row} (hs : M'.Sublist M) (h : J C st M' k) : J C st M k := .mk fun a w hf hd hw => h.go a w hf hd (hw.forget hs)

theorem J.skip (h : J C st M k) : J C st M (.code .skip :: k) := .mk fun a w hf hd hw => (h.go a w hf hd hw).step fun _ => stepR_skip
theorem J.label {l : Nat} (h : J C st M k) : J C st M (.code (.label l) :: k) := .mk fun a w hf hd hw => (h.go a w hf hd hw).step fun _ => stepR_label
theorem J.inBlock {id : Nat} (h : J C st M k) : J C st M (.inBlock id :: k) := .mk fun a w hf hd hw => (h.go a w hf hd hw).step fun _ => stepR_inBlock
theorem J.seq {x y : Code} (h : J C st M (.code x :: .code y :: k)) : J C st M (.code (.seq x y) :: k) := .mk fun a w hf hd hw => (h.go a w hf hd hw).step fun _ => stepR_seq
theorem J.block {id : Nat} {c : Code} (h : J C st M (.code c :: .inBlock id :: k)) : J C st M (.code (.block id c) :: k) := .mk fun a w hf hd hw => (h.go a w hf hd hw).step fun _ => stepR_block
theorem J.exit {id : Nat} {k' : List Item} (hk : exitTo id k = some k') (h : J C st M k') : J C st M (.code (.exit id) :: k) := .mk fun a w hf hd hw => (h.go a w hf hd hw).step fun _ => stepR_exit hk
theorem J.condT {c : Operand} {x y : Code} (hc : evS st c = some (.bool true)) (h : J C st M (.code x :: k)) : J C st M (.code (.cond c x y) :: k) :=
  .mk fun a w hf hd hw => (h.go a w hf hd hw).step fun cs => by have := stepR_cond (P := C.P) (b := C.b) (k := k) (cs := cs) (w := w) (x := x) (y := y) (hf.eval hc); simpa using this
theorem J.condF {c : Operand} {x y : Code} (hc : evS st c = some (.bool false)) (h : J C st M (.code y :: k)) : J C st M (.code (.cond c x y) :: k) :=
  .mk fun a w hf hd hw => (h.go a w hf hd hw).step fun cs => by have := stepR_cond (P := C.P) (b := C.b) (k := k) (cs := cs) (w := w) (x := x) (y := y) (hf.eval hc); simpa using this

/-- A loop: at its head a family of states; a measure that falls. -/
theorem J.loop {X : Type} {c : Code} (x0 : X) (mu : X → Nat) (sts : X → List (Nat × Value)) (Ms : X → List Row) (I : X → Prop)
    (h0 : I x0) (hst : Sub st (sts x0)) (hM : (Ms x0).Sublist M)
    (body : ∀ x, I x → (∀ x', I x' → mu x' < mu x → J C (sts x') (Ms x') (.inLoop c :: k)) → J C (sts x) (Ms x) (.code c :: .inLoop c :: k)) :
    J C st M (.code (.loop c) :: k) := by
  have key : ∀ n x, mu x = n → I x → J C (sts x) (Ms x) (.code c :: .inLoop c :: k) := by
    intro n
    induction n using Nat.strongRecOn with
    | _ n ih =>
      intro x hx hI
      refine body x hI fun x' hI' hlt => ?_
      have := ih (mu x') (by omega) x' rfl hI'
      exact .mk fun a w hf hd hw => (this.go a w hf hd hw).step fun _ => stepR_inLoop
  exact .mk fun a w hf hd hw => ((key _ x0 rfl h0).go a w (hf.sub hst) hd (hw.forget hM)).step fun _ => stepR_loop

/-! ### regions -/
theorem Run.op {P : Program} {b : Frame} {PHI : List Frame → Machine → Prop} {ops : Array Oper} {i : Nat} {rest : List Nat} {o : Oper} {a : Act} {w : World}
    (ho : ops[i]? = some o) (hw : Region.wanted o (yielded ops a.tmps) = true) (hnd : b.roundOf = none ∨ ∀ c, o.op ≠ .defer c)
    (hu : o.upon P a (fun a' w' => Run P b PHI (.inRegion ops rest :: k) a' w') (fun _ _ _ => False) ((execOp a.eval o).run P w)) :
    Run P b PHI (.inRegion ops (i :: rest) :: k) a w := by
  intro cs
  have hsem : o.semAt b.roundOf a.eval = execOp a.eval o := by
    rcases hnd with h | h
    · rw [h]; rfl
    · exact Oper.semAt_eq _ _ _ h
  have hg := stepGR_op (P := P) (b := b) (k := k) (cs := cs) (w := w) (rest := rest) ho hw
  rw [hsem] at hg
  have hfin : ∀ v, (b.atR a (.inRegion ops (i :: rest) :: k)).finish v = b.atR (a.put o.dst v) (.inRegion ops rest :: k) := by
    intro v; rw [Frame.finish_atR, ho]; rfl
  unfold Oper.upon at hu
  split at hu
  · rename_i v w' hr
    obtain ⟨m, h1, h2⟩ := hu cs
    refine ⟨m, .head (step_lone_go ?_) h1, h2⟩
    rw [hg, ← hfin]; simp [stepG.apply, hr]
  · rename_i w' hr
    obtain ⟨m, h1, h2⟩ := hu cs
    refine ⟨m, .head (step_lone_go ?_) h1, h2⟩
    rw [hg, ← hfin]; simp [stepG.apply, hr]
  · rename_i d w' hr
    obtain ⟨m, h1, h2⟩ := hu cs
    refine ⟨m, .head (step_lone_go ?_) h1, h2⟩
    have : ({ b.atR a (.inRegion ops (i :: rest) :: k) with defers := d :: a.defers } : Frame).finish undef =
        b.atR ({ a with defers := d :: a.defers }.put o.dst undef) (.inRegion ops rest :: k) := by
      have := Frame.finish_atR b { a with defers := d :: a.defers } ops i rest k undef
      rw [ho] at this; exact this
    rw [hg]; simp only [stepG.apply, Sem.runT_eq, hr, GStep.bare_after]
    exact congrArg (fun fr => GStep.go { frame := fr, callers := cs, status := .running, dying := none } w') this
  · rename_i f args w' hr
    obtain ⟨e, w'', fr, hR, hsteps, _, hleave⟩ := hu (b.atR a (.inRegion ops (i :: rest) :: k) :: cs)
    have henter : Go.step P (lone (b.atR a (.inRegion ops (i :: rest) :: k)) cs w) =
        .next (lone (Frame.enter P f args .normal) (b.atR a (.inRegion ops (i :: rest) :: k) :: cs) w') :=
      step_lone_go (by rw [hg]; simp [stepG.apply, hr, Frame.atR])
    cases e with
    | returned v =>
      obtain ⟨m, h1, h2⟩ := hR cs
      refine ⟨m, .head henter (hsteps.trans (.head ?_ h1)), h2⟩
      rw [← hfin]; exact step_leave_returned hleave
    | panicked chain => exact hR.elim
    | outgrown => obtain ⟨_, _, hq⟩ := hR; exact hq.elim
  · rename_i row args w' hr
    obtain ⟨v, w'', hR, hsteps⟩ := hu (b.atR a (.inRegion ops (i :: rest) :: k)) cs
    have henter : Go.step P (lone (b.atR a (.inRegion ops (i :: rest) :: k)) cs w) =
        .next (lone (Frame.ofRow P row args .normal) (b.atR a (.inRegion ops (i :: rest) :: k) :: cs) w') :=
      step_lone_go (by rw [hg]; simp [stepG.apply, hr, Frame.atR])
    obtain ⟨m, h1, h2⟩ := hR cs
    refine ⟨m, .head henter (hsteps.trans ?_), h2⟩
    rw [hfin]; exact h1
  · exact hu.elim
  · exact hu.elim

theorem Run.opSkip {P : Program} {b : Frame} {PHI : List Frame → Machine → Prop} {ops : Array Oper} {i : Nat} {rest : List Nat} {o : Oper} {a : Act} {w : World}
    (ho : ops[i]? = some o) (hw : Region.wanted o (yielded ops a.tmps) = false) (h : Run P b PHI (.inRegion ops rest :: k) (a.put o.dst undef) w) :
    Run P b PHI (.inRegion ops (i :: rest) :: k) a w :=
  h.step fun cs => by
    have := stepR_op_skip (P := P) (b := b) (a := a) (k := k) (cs := cs) (w := w) (ops := ops) (i := i) (rest := rest) (by simp [ho, hw])
    simpa [ho] using this

/-- What the rest of a region is asked for, in the words of the walk. -/
def Qk (C : Ctx) (k : List Item) (e : Exit) (a : Act) (w : World) : Prop := e = .normal ∧ Run C.P C.b C.PHI k a w

theorem Oper.upon_imp {P : Program} {o : Oper} {a : Act} {n n' : Act → World → Prop} {Q : Exit → Act → World → Prop} {r : Result Next} (hn : ∀ a w, n a w → n' a w) (hQ : ∀ e a w, Q e a w → e = .normal) (h : o.upon P a n Q r) : o.upon P a n' (fun _ _ _ => False) r := by
  unfold Oper.upon at *
  split at h
  · exact hn _ _ h
  · exact hn _ _ h
  · exact hn _ _ h
  · refine h.mono fun e w' hh => ?_
    cases e with
    | returned v => exact hn _ _ hh
    | panicked c => exact absurd (hQ _ _ _ hh) (by simp)
    | outgrown => obtain ⟨_, _, hq⟩ := hh; exact absurd (hQ _ _ _ hq) (by simp)
  · exact h.mono fun v w' hh => hn _ _ hh
  · exact absurd (hQ _ _ _ h) (by simp)
  · exact h.elim

def noDefer (l : List Oper) : Bool := l.all fun o => match o.op with | .defer _ => false | _ => true
theorem noDefer_mem {l : List Oper} (h : noDefer l = true) {o : Oper} (ho : o ∈ l) : ∀ c, o.op ≠ .defer c := by
  intro c e
  have := List.all_eq_true.1 h o ho
  rw [e] at this
  simp at this

/-- The walk's own words on a list of operations lead on. -/
theorem run_of_wpOps {C : Ctx} {ops : Array Oper} (hnd : noDefer ops.toList = true) : ∀ (l : List Nat) (a : Act) (w : World), wpOps C.P ops (Qk C k) l a w → Run C.P C.b C.PHI (.inRegion ops l :: k) a w
  | [], a, w, h => by
    simp only [wpOps] at h
    exact h.2.step fun _ => stepR_region_end
  | i :: rest, a, w, h => by
    simp only [wpOps] at h
    cases ho : ops[i]? with
    | none =>
      simp only [ho] at h
      refine (run_of_wpOps hnd rest a w h).step fun cs => ?_
      have := stepR_op_skip (P := C.P) (b := C.b) (a := a) (k := k) (cs := cs) (w := w) (ops := ops) (i := i) (rest := rest) (by simp [ho])
      simpa [ho, Act.put] using this
    | some o =>
      simp only [ho] at h
      by_cases hw : Region.wanted o (yielded ops a.tmps) = true
      · simp only [hw, if_true] at h
        rcases h with h | ⟨-, _, _, hq⟩
        · refine Run.op ho hw (.inr (noDefer_mem hnd (by rw [Array.mem_toList_iff]; exact Array.mem_of_getElem? ho))) ?_
          exact Oper.upon_imp (fun a' w' h' => run_of_wpOps hnd rest a' w' h') (fun e a w hq => hq.1) h
        · exact absurd hq.1 (by simp)
      · simp only [hw, if_false, Bool.false_eq_true] at h
        exact Run.opSkip ho (by simpa using hw) (run_of_wpOps hnd rest _ w h)

/-- The rest of a region, l, of the region all. -/
def JO (C : Ctx) (all : List Oper) (st : List (Nat × Value)) (M : List Row) (l : List Oper) (k : List Item) : Prop :=
  ∀ a w, Fits C.N st a → a.defers = C.D → Sat C.w0 M w → ∀ idx : List Nat, idx.map (fun i => all.toArray[i]?) = l.map some → Run C.P C.b C.PHI (.inRegion all.toArray idx :: k) a w

theorem J.region {id : Nat} {l : List Oper} (h : JO C l st M l k) : J C st M (.code (.region id l.toArray false) :: k) :=
  .mk fun a w hf hd hw => (h a w hf hd hw (List.range l.toArray.size) (by
    apply List.ext_getElem?
    intro i
    simp only [List.getElem?_map, List.size_toArray]
    by_cases hi : i < l.length
    · rw [List.getElem?_range hi]; simp [hi]
    · have : l.length ≤ i := by omega
      rw [List.getElem?_eq_none (by simpa using this)]; simp [this])).step fun _ => stepR_region

theorem JO.nil {all : List Oper} (h : J C st M k) : JO C all st M [] k := fun a w hf hd hw idx hi => by
  have : idx = [] := by simpa using hi
  subst this
  exact (h.go a w hf hd hw).step fun _ => stepR_region_end

/-- In every state that fits, the operation yields v; what is known stays known. -/
structure OpV (C : Ctx) (st : List (Nat × Value)) (M : List Row) (op : Op) (ty : TypeId) (v : Value) : Prop where
  go : ∀ a w, Fits C.N st a → Sat C.w0 M w → ∀ dst pos after guard,
    (execOp a.eval ⟨dst, op, ty, pos, after, guard⟩).run C.P w = .ok (.value v) w ∨
    ∃ f args, (execOp a.eval ⟨dst, op, ty, pos, after, guard⟩).run C.P w = .ok (.enter f args) w ∧ Calls C.P f args w fun e w' => e = .returned v ∧ Below w.heap.size w w'

theorem cons_idx {all : List Oper} {o : Oper} {l : List Oper} {idx : List Nat} (hi : idx.map (fun i => all.toArray[i]?) = (o :: l).map some) : ∃ i rest, idx = i :: rest ∧ all.toArray[i]? = some o ∧ rest.map (fun i => all.toArray[i]?) = l.map some := by
  cases idx with
  | nil => simp at hi
  | cons i rest =>
    simp only [List.map_cons, List.cons.injEq] at hi
    exact ⟨i, rest, rfl, hi.1, hi.2⟩

def noDef (op : Op) : Bool := match op with | .defer _ => false | _ => true
theorem noDef_ne {op : Op} (h : noDef op = true) : ∀ c, op ≠ .defer c := fun c e => by subst e; simp [noDef] at h

/-- The operation's guard lets it run. -/
structure Wn (N : Nat) (all : List Oper) (st : List (Nat × Value)) (g : Option (Nat × Bool)) : Prop where
  go : ∀ a, Fits N st a → ∀ dst op ty pos after, Region.wanted ⟨dst, op, ty, pos, after, g⟩ (yielded all.toArray a.tmps) = true

theorem yielded_eq {N : Nat} {a : Act} {ops : Array Oper} {j t : Nat} {b : Bool} (hf : Fits N st a) (hj : (ops[j]?).bind (·.dst) = some t) (ht : getT st t = some (.bool b)) : yielded ops a.tmps j = some b := by
  simp [yielded, hj, hf.get t _ ht]

theorem Wn.none {N : Nat} {all : List Oper} : Wn N all st none := .mk fun _ _ _ _ _ _ _ => rfl
theorem Wn.some {N : Nat} {all : List Oper} {j t : Nat} {b : Bool} (hj : (all.toArray[j]?).bind (·.dst) = some t) (ht : getT st t = some (.bool b)) : Wn N all st (some (j, b)) :=
  .mk fun a hf dst op ty pos after => by simp [Region.wanted, yielded_eq hf hj ht]
/-- The same, to be looked up. -/
def wnB (all : List Oper) (st : List (Nat × Value)) (g : Option (Nat × Bool)) : Bool := match g with
  | none => true
  | some (j, b) => match (all.toArray[j]?).bind (·.dst) with
    | some t => match getT st t with
      | some (.bool c) => c == b
      | _ => false
    | none => false
theorem Wn.ofB {N : Nat} {all : List Oper} {g : Option (Nat × Bool)} (h : wnB all st g = true) : Wn N all st g := by
  cases g with
  | none => exact Wn.none
  | some p =>
    obtain ⟨j, b⟩ := p
    simp only [wnB] at h
    split at h
    · rename_i t hj
      split at h
      · rename_i c ht
        have e : c = b := by simpa using h
        subst e
        exact Wn.some hj ht
      · cases h
    · cases h

variable {q : Bool} {all rest : List Oper} {d : Nat} {opn : Op} {ty : TypeId} {pos : String} {after : Array Edge} {gd : Option (Nat × Bool)}

theorem JO.op {v : Value} (hv : OpV C st M opn ty v) (hg : wnB all st gd = true) (hn : noDef opn = true) (hd : Nat.blt d C.N = true) (h : JO C all ((d, v) :: st) M rest k) :
    JO C all st M ({ dst := some d, op := opn, type := ty, pos, after, guard := gd } :: rest) k := by
  intro a w hf hdf hw idx hi
  obtain ⟨i, r, rfl, ho, hr⟩ := cons_idx hi
  refine Run.op ho ((Wn.ofB (N := C.N) hg).go a hf _ _ _ _ _) (.inr (noDef_ne hn)) ?_
  rcases hv.go a w hf hw (some d) pos after gd with h1 | ⟨f, args, h1, hc⟩
  · rw [h1]; exact h _ w (hf.put hd v) hdf hw r hr
  · rw [h1]
    refine hc.mono fun e w' hh => ?_
    obtain ⟨rfl, hs⟩ := hh
    exact h _ w' (hf.put hd v) hdf (hw.ext hs) r hr

/-- The same in a region that draws its order, where every operation leaves alone what is known. -/
def QO (C : Ctx) (all : List Oper) (st : List (Nat × Value)) (M : List Row) (l : List Oper) (k : List Item) : Prop :=
  ∀ a, Fits C.N st a → a.defers = C.D → wpQuiet C.P all.toArray (Sat C.w0 M) (fun a' => ∀ w', Sat C.w0 M w' → Run C.P C.b C.PHI k a' w') l a

theorem Sat.drawn {w0 w : World} {M : List Row} (h : Sat w0 M w) : Sat w0 M { w with drawn := w.drawn + 1 } := h.ext ⟨rfl, rfl, rfl, Nat.le_refl _, fun _ _ => rfl⟩

theorem J.regionQ {id : Nat} {l : List Oper} (hm : C.P.follows .mixedOrders = true) (hB : Region.lexB .any l.toArray = true) (hnd : noDefer l = true) (h : QO C l st M l k) :
    J C st M (.code (.region id l.toArray true) :: k) := by
  refine .mk fun a w hf hd hw => ?_
  refine Run.step (a' := a) (w' := { w with drawn := w.drawn + 1 }) (fun cs => stepR_region_draw) ?_
  refine run_of_wpOps (by simpa using hnd) _ _ _ ?_
  simp only [Region.schedule, hm, Bool.true_or, if_true]
  simp only [Region.lexB, Bool.and_eq_true] at hB
  refine wpAny_sound _ _ _ _ _ (wpAny_of_quiet (C := Sat C.w0 M) (Q := fun a' => ∀ w', Sat C.w0 M w' → Run C.P C.b C.PHI k a' w') (fun _ w' hw' h' => ⟨rfl, h' w' hw'⟩) _ _ _ _ hw.drawn ?_)
  have := wpAnyQ_lex (C := Sat C.w0 M) (P := C.P) (Q := fun a' => ∀ w', Sat C.w0 M w' → Run C.P C.b C.PHI k a' w') hB.1 l 0 (Array.replicate l.toArray.size false) a (by simp) (by simpa using hB.2) (h a hf hd)
  simpa using this

theorem QO.nil {all : List Oper} (h : J C st M k) : QO C all st M [] k := fun a hf hd => wpQuiet_nil fun w' hw' => h.go a w' hf hd hw'

theorem QO.op {v : Value} (hv : OpV C st M opn ty v) (hg : wnB all st gd = true) (hd : Nat.blt d C.N = true) (h : QO C all ((d, v) :: st) M rest k) :
    QO C all st M ({ dst := some d, op := opn, type := ty, pos, after, guard := gd } :: rest) k := by
  intro a hf hdf
  refine wpQuiet_step fun K hK => ?_
  rw [(Wn.ofB (N := C.N) hg).go a hf, if_pos rfl]
  refine ⟨v, fun w hw => ?_, hK _ (h _ (hf.put hd v) hdf)⟩
  unfold Oper.quietAt
  rcases hv.go a w hf hw (some d) pos after gd with h1 | ⟨f, args, h1, hc⟩
  · rw [h1]; exact ⟨rfl, rfl⟩
  · rw [h1]; exact ⟨rfl, hc.mono fun e w' hh => ⟨hh.1, hw.ext hh.2⟩⟩

end Go.Sl
