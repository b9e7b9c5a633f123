/-
  More operations: a slice of a slice; append; slices of the call's own.
-/
import Derived.Test.YtjfbdffcgapdlaaCo
import Derived.Maps.AppendAt
import Derived.OwnWalk
import Derived.Laws.MakeOwn
import Derived.Great.BuildSlice

namespace Go.Sl
open Go.RowKit

variable {C : Ctx} {st : List (Nat × Value)} {M : List Row} {k : List Item} {q q' : Md} {all rest : List Oper} {d : Nat} {ty : TypeId} {pos : String} {after : Array Edge} {gd : Option (Nat × Bool)}

/-- The address of a slice of a slice from l on. -/
def subA (a : Option Addr) (c l sz : Nat) : Option Addr := if c = l then a else a.map (·.add (l * sz))

theorem subA_at {w : World} {a : Option Addr} {sz c lo hi : Nat} {A : Type} {f : A → List Value} {l : List A} (h : SlAt w a sz (l.map f)) (h1 : lo ≤ hi) (h2 : hi ≤ l.length) (h3 : l.length ≤ c) :
    SlAt w (subA a c lo sz) sz (((l.drop lo).take (hi - lo)).map f) := by
  intro h0
  simp only [List.length_map, List.length_take, List.length_drop] at h0
  obtain ⟨b, off, rfl, hr⟩ := h (by simp; omega)
  refine ⟨b, off + lo * sz, ?_, fun i cs hi => ?_⟩
  · rw [subA, if_neg (by omega), Option.map_some, addr_add, addO_eq]
  · have := List.getElem?_eq_some_iff.1 hi
    obtain ⟨h4, h5⟩ := this
    simp only [List.length_map, List.length_take, List.length_drop] at h4
    have := hr (lo + i) cs (by
      rw [← h5]
      simp only [List.getElem_map, List.getElem_take, List.getElem_drop]
      rw [List.getElem?_eq_getElem (by simp; omega)]; simp)
    rwa [show off + (lo + i) * sz = off + lo * sz + i * sz by rw [Nat.add_mul]; omega] at this

theorem run_sliceBound {P : Program} {w : World} {ki : IntKind} {e : Int} {n y : Nat} {code : BoundsCode} (he : e = (n : Int)) (hn : n ≤ y) : (Instr.sliceBound (.int ki e) y code).run P w = .ok n w := by
  subst he
  have h0 : (0 : Int) ≤ (n : Int) ∧ (n : Int) ≤ (y : Int) := by omega
  simp only [Instr.sliceBound, asIntOf, Sem.run_bind, Sem.run_pure, Result.andThen_ok]
  rw [if_pos h0]; rfl

theorem OpV.slice {T E sz : Nat} [hT : TSlice C.P T E sz] {x lo hi : Operand} {a : Option Addr} {n c : Nat} {k1 k2 : IntKind} {l h : Nat} {e1 e2 : Int} (hx : evS st x = some (.slice a n c)) (hlo : evS st lo = some (.int k1 e1)) (hhi : evS st hi = some (.int k2 e2)) (he1 : e1 = (l : Int)) (he2 : e2 = (h : Int)) (h1 : l ≤ h) (h2 : h ≤ c) :
    OpV C st M (.slice T x (some lo) (some hi) none) ty (.slice (subA a c l sz) (h - l) (c - l)) :=
  OpV.of fun ac w hf _ dst pos after guard => by
    have hu : ∀ w, (underlying T).run C.P w = .ok (.slice E) w := fun w => by simp [underlying, hT.h1]
    simp only [execOp, hf.eval hx, Option.map_some, hf.eval hlo, hf.eval hhi, Option.map_none, Instr.sliceAt, Instr.slice, Instr.sliceBounds, Sem.run_bind, Sem.run_pure, Result.andThen_ok, hu, run_sliceBound he2 h2, run_sliceBound he1 h1, hT.h2]
    rfl
theorem OpV.sliceTo {T E sz : Nat} [hT : TSlice C.P T E sz] {x hi : Operand} {a : Option Addr} {n c : Nat} {k2 : IntKind} {h : Nat} {e2 : Int} (hx : evS st x = some (.slice a n c)) (hhi : evS st hi = some (.int k2 e2)) (he2 : e2 = (h : Int)) (h2 : h ≤ c) :
    OpV C st M (.slice T x none (some hi) none) ty (.slice (subA a c 0 sz) h c) :=
  OpV.of fun ac w hf _ dst pos after guard => by
    have hu : ∀ w, (underlying T).run C.P w = .ok (.slice E) w := fun w => by simp [underlying, hT.h1]
    simp only [execOp, hf.eval hx, Option.map_some, hf.eval hhi, Option.map_none, Instr.sliceAt, Instr.slice, Instr.sliceBounds, Sem.run_bind, Sem.run_pure, Result.andThen_ok, hu, run_sliceBound he2 h2, hT.h2]
    rfl
theorem OpV.sliceFrom {T E sz : Nat} [hT : TSlice C.P T E sz] {x lo : Operand} {a : Option Addr} {n c : Nat} {k1 : IntKind} {l : Nat} {e1 : Int} (hx : evS st x = some (.slice a n c)) (hlo : evS st lo = some (.int k1 e1)) (he1 : e1 = (l : Int)) (h1 : l ≤ n) :
    OpV C st M (.slice T x (some lo) none none) ty (.slice (subA a c l sz) (n - l) (c - l)) :=
  OpV.of fun ac w hf _ dst pos after guard => by
    have hu : ∀ w, (underlying T).run C.P w = .ok (.slice E) w := fun w => by simp [underlying, hT.h1]
    simp only [execOp, hf.eval hx, Option.map_some, hf.eval hlo, Option.map_none, Instr.sliceAt, Instr.slice, Instr.sliceBounds, Sem.run_bind, Sem.run_pure, Result.andThen_ok, hu, run_sliceBound he1 h1, hT.h2]
    rfl

theorem G.slice {T E sz : Nat} {x lo hi : Operand} {a : Option Addr} {n c : Nat} {k1 k2 : IntKind} {l h : Nat} {e1 e2 : Int} (hx : evS st x = some (.slice a n c)) (hlo : evS st lo = some (.int k1 e1)) (hhi : evS st hi = some (.int k2 e2)) (he1 : e1 = (l : Int)) (he2 : e2 = (h : Int)) (h1 : l ≤ h) (h2 : h ≤ c) [hT : TSlice C.P T E sz] (hg : wnB all st gd = true) (hd : Nat.blt d C.N = true) (hq : q.calm = some q') (hh : G q' C all ((d, .slice (subA a c l sz) (h - l) (c - l)) :: st) M rest k) :
    G q C all st M ({ dst := some d, op := .slice T x (some lo) (some hi) none, type := ty, pos, after, guard := gd } :: rest) k := G.op (OpV.slice hx hlo hhi he1 he2 h1 h2) hg rfl hd hq hh
theorem G.sliceTo {T E sz : Nat} {x hi : Operand} {a : Option Addr} {n c : Nat} {k2 : IntKind} {h : Nat} {e2 : Int} (hx : evS st x = some (.slice a n c)) (hhi : evS st hi = some (.int k2 e2)) (he2 : e2 = (h : Int)) (h2 : h ≤ c) [hT : TSlice C.P T E sz] (hg : wnB all st gd = true) (hd : Nat.blt d C.N = true) (hq : q.calm = some q') (hh : G q' C all ((d, .slice (subA a c 0 sz) h c) :: st) M rest k) :
    G q C all st M ({ dst := some d, op := .slice T x none (some hi) none, type := ty, pos, after, guard := gd } :: rest) k := G.op (OpV.sliceTo hx hhi he2 h2) hg rfl hd hq hh
theorem G.sliceFrom {T E sz : Nat} {x lo : Operand} {a : Option Addr} {n c : Nat} {k1 : IntKind} {l : Nat} {e1 : Int} (hx : evS st x = some (.slice a n c)) (hlo : evS st lo = some (.int k1 e1)) (he1 : e1 = (l : Int)) (h1 : l ≤ n) [hT : TSlice C.P T E sz] (hg : wnB all st gd = true) (hd : Nat.blt d C.N = true) (hq : q.calm = some q') (hh : G q' C all ((d, .slice (subA a c l sz) (n - l) (c - l)) :: st) M rest k) :
    G q C all st M ({ dst := some d, op := .slice T x (some lo) none none, type := ty, pos, after, guard := gd } :: rest) k := G.op (OpV.sliceFrom hx hlo he1 h1) hg rfl hd hq hh

/-! ### append -/
class TElem (P : Program) (T : TypeId) (E : outParam Nat) (z : outParam Value) (size bytes : outParam Nat) : Prop where
  h1 : P.underlying T = some (.slice E)
  h2 : (P.info? E).map (fun i => (i.zero, i.size, i.bytes)) = some (some z, size, bytes)
  h3 : z.cells.size = size
  h4 : 0 < size

/-- What is appended can be read. -/
structure SrcV (C : Ctx) (M : List Row) (a : Option Addr) (m sz : Nat) (news : List Value) : Prop where
  len : news.length = m * sz
  one : news.all (·.oneCell') = true
  nil : a = none → m = 0
  go : ∀ ad, a = some ad → ∀ w, Sat C.w0 M w → ∀ j u, news[j]? = some u → w.cell? (ad.add j) = some u

theorem ownsRow_base {w : World} {base b' : Nat} {e : TypeId} {size : Nat} {v : Value} {n : Nat} {xs : List Value} (h : w.ownsRow base e size v n xs) (hb : ∀ b, v.ownBlock = some b → b' ≤ b) : w.ownsRow b' e size v n xs := by
  obtain ⟨h1, h2⟩ := h
  refine ⟨h1, ?_⟩
  rcases h2 with h2 | ⟨g, cap, cur, hv, hg, r⟩
  · exact .inl h2
  · exact .inr ⟨g, cap, cur, hv, hb g (by rw [hv]; rfl), r⟩

theorem append_run {T ty' E bytes size n m c i base : Nat} {z v : Value} {x y : Operand} {a : Option Addr} {xs news : List Value} {dst : Option Tmp} {ac : Act} {w : World} (hf : Fits C.N st ac) (hw : Sat C.w0 M w)
    (hx : evS st x = some v) (hm : M[i]? = some (.own base v E size n xs)) (hy : evS st y = some (.slice a m c)) [hT : TElem C.P T E z size bytes] (hs : SrcV C M a m size news) (hb : (n + m) * bytes ≤ 140737488355328) (hnm : n + m ≤ 9223372036854775807) :
    ∃ v' w', (execOp ac.eval { dst, op := .call { callee := .builtin .append, args := #[x, y], argTypes := #[T, T] }, type := ty', pos, after, guard := gd }).run C.P w = .ok (.value v') w' ∧ Sat C.w0 (M.set i (.own 0 v' E size (n + m) (xs ++ news))) w' := by
  obtain ⟨inf, hi, hz, hsize, hby⟩ := info_parts hT.h2
  have hmem := List.mem_of_getElem? hm
  have hown : w.ownsRow base E size v n xs := hw.hold _ hmem
  have hlt : i < M.length := (List.getElem?_eq_some_iff.1 hm).1
  have hsup := (hw.old _ hmem).2
  cases a with
  | none =>
    have h0 := hs.nil rfl
    subst h0
    have hn0 : news = [] := List.length_eq_zero_iff.1 (by rw [hs.len]; omega)
    subst hn0
    refine ⟨v, w, ?_, ?_⟩
    · obtain ⟨hl, hv⟩ := hown
      rcases hv with ⟨rfl, rfl⟩ | ⟨g, cap, cur, rfl, hg0, hgg, h1, h2, h3, h4⟩
      · simp [execOp, resolve, hf.eval hx, hf.eval hy, invoke, builtin, Builtin.append_, run_underlying hT.h1, sizeOf, typeInfo, hi, Builtin.lenOf, Builtin.firstCells]
      · simp [execOp, resolve, hf.eval hx, hf.eval hy, invoke, builtin, Builtin.append_, run_underlying hT.h1, sizeOf, typeInfo, hi, Builtin.lenOf, Builtin.firstCells, h1, storeCells]
    · refine hw.change hm rfl rfl rfl (Nat.le_refl _) (fun _ _ _ => rfl) ?_ (Nat.zero_le _) fun b hb' => ⟨.inl hb', (hsup b hb').2⟩
      rw [Nat.add_zero, List.append_nil]
      exact ownsRow_base hown fun b _ => Nat.zero_le _
  | some ad =>
    obtain ⟨v', w', h1, h2, h3, _, h5⟩ := run_append_own_at (P := C.P) w 0 T ty' E inf z size bytes hT.h1 hi hz hsize hby hT.h3 hT.h4 v n xs (ownsRow_base hown fun b _ => Nat.zero_le _) ad m c news hs.len (hs.go ad rfl w hw) (fun u hu => List.all_eq_true.1 hs.one u hu) (by simpa [maxLen] using hnm) hb (Nat.zero_le _)
    refine ⟨v', w', ?_, ?_⟩
    · simp [execOp, resolve, hf.eval hx, hf.eval hy, invoke, builtin, h1]
    · refine hw.change hm h3.os h3.tape h3.output h3.size (fun k hk hk' => h3.block k hk fun e => hk' e.symm) h2 (Nat.zero_le _) fun b hb' => ?_
      have hlt' := (h2.lt b hb').2
      rcases h5 with h5 | h5
      · exact ⟨.inl (show v.ownBlock = some b by rw [← h5]; exact hb'), hlt'⟩
      · have : w.heap.size = b := by have := h5.symm.trans hb'; simpa using this
        exact ⟨.inr (by omega), hlt'⟩

theorem G.append {T ty' E bytes size n m c i base : Nat} {z v : Value} {x y : Operand} {a : Option Addr} {xs news : List Value} (hg : wnB all st gd = true) (hd : Nat.blt d C.N = true) (hq : q.res = some q')
    (hx : evS st x = some v) (hm : M[i]? = some (.own base v E size n xs)) (hy : evS st y = some (.slice a m c)) [hT : TElem C.P T E z size bytes] (hs : SrcV C M a m size news) (hb : (n + m) * bytes ≤ 140737488355328) (hnm : n + m ≤ 9223372036854775807)
    (h : ∀ v', G q' C all ((d, v') :: st) (M.set i (.own 0 v' E size (n + m) (xs ++ news))) rest k) :
    G q C all st M ({ dst := some d, op := .call { callee := .builtin .append, args := #[x, y], argTypes := #[T, T] }, type := ty', pos, after, guard := gd } :: rest) k := by
  refine G.res hg rfl hq (Eff.val hd fun ac w hf hw => ?_)
  obtain ⟨v', w', h1, h2⟩ := append_run (T := T) (dst := some d) (ty' := ty') (pos := pos) (after := after) (gd := gd) hf hw hx hm hy hs hb hnm
  exact ⟨v', w', _, h1, h2, h v'⟩

/-- A slice of the call's own, laid open. -/
theorem Sat.opn {w0 w : World} {i base E size n : Nat} {v : Value} {xs : List Value} (hw : Sat w0 M w) (hm : M[i]? = some (.own base v E size n xs)) (hn : 0 < n) :
    ∃ g cap, n ≤ cap ∧ v = .slice (some ⟨g, 0, none⟩) n cap ∧ Sat w0 (M.set i (.blk g E xs (cap * size))) w := by
  have hmem := List.mem_of_getElem? hm
  have hown : w.ownsRow base E size v n xs := hw.hold _ hmem
  obtain ⟨hl, hv⟩ := hown
  rcases hv with ⟨_, rfl⟩ | ⟨g, cap, cur, hv, hg0, hgg, h1, h2, h3, h4⟩
  · omega
  have hsup := (hw.old _ hmem).2
  refine ⟨g, cap, h1, hv, hw.change hm rfl rfl rfl (Nat.le_refl _) (fun _ _ _ => rfl) ⟨cur.toList.drop (n * size), ?_, ?_⟩ (Nat.zero_le _) fun b hb => ?_⟩
  · rw [← h4, List.take_append_drop]; exact hgg
  · rw [hl]; simp only [List.length_drop, Array.length_toList, h3]
    have := Nat.mul_le_mul_right size h1
    omega
  · have hb' : b = g := hb
    subst hb'
    have : (Row.own base v E size n xs).sup b := by rw [hv]; rfl
    exact ⟨.inl this, (hsup b this).2⟩

/-- The same, and the result lies open. -/
theorem G.appendO {T ty' E bytes size n m c i base : Nat} {z v : Value} {x y : Operand} {a : Option Addr} {xs news : List Value} (hg : wnB all st gd = true) (hd : Nat.blt d C.N = true) (hq : q.res = some q')
    (hx : evS st x = some v) (hm : M[i]? = some (.own base v E size n xs)) (hy : evS st y = some (.slice a m c)) [hT : TElem C.P T E z size bytes] (hs : SrcV C M a m size news) (hb : (n + m) * bytes ≤ 140737488355328) (hnm : n + m ≤ 9223372036854775807) (h0 : 0 < n + m)
    (h : ∀ g cap, n + m ≤ cap → G q' C all ((d, .slice (some ⟨g, 0, none⟩) (n + m) cap) :: st) (M.set i (.blk g E (xs ++ news) (cap * size))) rest k) :
    G q C all st M ({ dst := some d, op := .call { callee := .builtin .append, args := #[x, y], argTypes := #[T, T] }, type := ty', pos, after, guard := gd } :: rest) k := by
  refine G.res hg rfl hq (Eff.val hd fun ac w hf hw => ?_)
  obtain ⟨v', w', h1, h2⟩ := append_run (T := T) (dst := some d) (ty' := ty') (pos := pos) (after := after) (gd := gd) hf hw hx hm hy hs hb hnm
  have hlt : i < M.length := (List.getElem?_eq_some_iff.1 hm).1
  obtain ⟨g, cap, h3, rfl, h4⟩ := h2.opn (List.getElem?_set_self hlt) h0
  rw [List.set_set] at h4
  exact ⟨_, w', _, h1, h4, h g cap h3⟩

/-- An empty slice of the call's own. -/
theorem J.nilOwn {E size : Nat} {k : List Item} (h : J C st (.own 0 (.slice none 0 0) E size 0 [] :: M) k) : J C st M k := .mk fun a w hf hd hw =>
  h.go a w hf hd (hw.new (Below.refl _ _) ⟨by simp, .inl ⟨rfl, rfl⟩⟩ (Nat.zero_le _) fun b hb => by simp [Row.sup, Value.ownBlock] at hb)

/-- A slice of the call's own, laid open. -/
theorem J.open {i base E size n : Nat} {v : Value} {xs : List Value} {k : List Item} (hm : M[i]? = some (.own base v E size n xs)) (hn : 0 < n)
    (h : ∀ g cap, n ≤ cap → v = .slice (some ⟨g, 0, none⟩) n cap → J C st (M.set i (.blk g E xs (cap * size))) k) : J C st M k := .mk fun a w hf hd hw => by
  have hmem := List.mem_of_getElem? hm
  have hown : w.ownsRow base E size v n xs := hw.hold _ hmem
  obtain ⟨hl, hv⟩ := hown
  rcases hv with ⟨_, rfl⟩ | ⟨g, cap, cur, hv, hg0, hgg, h1, h2, h3, h4⟩
  · omega
  have hsup := (hw.old _ hmem).2
  refine (h g cap h1 hv).go a w hf hd (hw.change hm rfl rfl rfl (Nat.le_refl _) (fun _ _ _ => rfl) ⟨cur.toList.drop (n * size), ?_, ?_⟩ (Nat.zero_le _) fun b hb => ?_)
  · rw [← h4, List.take_append_drop]; exact hgg
  · rw [hl]; simp only [List.length_drop, Array.length_toList, h3]
    have := Nat.mul_le_mul_right size h1
    omega
  · have hb' : b = g := hb
    subst hb'
    have : (Row.own base v E size n xs).sup b := by rw [hv]; rfl
    exact ⟨.inl this, (hsup b this).2⟩

/-- A block, taken as a slice of the call's own. -/
theorem J.shut {i E size n g cap : Nat} {xs : List Value} {k : List Item} (hm : M[i]? = some (.blk g E xs (cap * size))) (hn : n ≤ cap) (hc : cap ≤ 9223372036854775807) (hl : xs.length = n * size)
    (h : J C st (M.set i (.own 0 (.slice (some ⟨g, 0, none⟩) n cap) E size n xs)) k) : J C st M k := .mk fun a w hf hd hw => by
  have hmem := List.mem_of_getElem? hm
  obtain ⟨rest, h1, h2⟩ := hw.hold _ hmem
  have hsup := (hw.old _ hmem).2
  refine h.go a w hf hd (hw.change hm rfl rfl rfl (Nat.le_refl _) (fun _ _ _ => rfl) ⟨hl, .inr ⟨g, cap, _, rfl, Nat.zero_le _, h1, hn, by simpa [maxLen] using hc, by simpa using h2, by simp [← hl]⟩⟩ (Nat.zero_le _) fun b hb => ?_)
  have hb' : g = b := by simpa [Row.sup, Value.ownBlock] using hb
  subst hb'
  exact ⟨.inl rfl, (hsup g rfl).2⟩

/-! ### rows of equal cells, in one list -/
def flat {A : Type} (f : A → List Value) (l : List A) : List Value := (l.map f).flatten
theorem flat_len {A : Type} {f : A → List Value} {sz : Nat} (hf : ∀ x, (f x).length = sz) : ∀ l : List A, (flat f l).length = l.length * sz
  | [] => by simp [flat]
  | x :: r => by
    have := flat_len hf r
    simp only [flat, List.map_cons, List.flatten_cons, List.length_append, List.length_cons, hf] at this ⊢
    rw [this, Nat.add_mul]; omega
theorem flat_cons {A : Type} (f : A → List Value) (x : A) (r : List A) : flat f (x :: r) = f x ++ flat f r := by simp [flat]
theorem flat_append {A : Type} (f : A → List Value) (l m : List A) : flat f (l ++ m) = flat f l ++ flat f m := by simp [flat]
theorem flat_at {A : Type} {f : A → List Value} {sz : Nat} (hf : ∀ x, (f x).length = sz) : ∀ {l : List A} {i : Nat} (h : i < l.length) {j : Nat}, j < sz → (flat f l)[i * sz + j]? = (f l[i])[j]?
  | x :: r, 0, h, j, hj => by
    rw [flat_cons, List.getElem?_append_left (by rw [hf]; omega)]; simp
  | x :: r, i + 1, h, j, hj => by
    rw [flat_cons, List.getElem?_append_right (by rw [hf, Nat.add_mul]; omega)]
    have := flat_at hf (l := r) (i := i) (by simpa using h) hj
    rw [hf, show (i + 1) * sz + j - sz = i * sz + j by rw [Nat.add_mul]; omega, this]; simp
theorem flat_back {A : Type} {f : A → List Value} {sz : Nat} (hf : ∀ x, (f x).length = sz) {l : List A} {j : Nat} {u : Value} (h : (flat f l)[j]? = some u) : ∃ (h0 : 0 < sz) (hi : j / sz < l.length), (f l[j / sz])[j % sz]? = some u := by
  have hlt : j < l.length * sz := by rw [← flat_len hf l]; exact (List.getElem?_eq_some_iff.1 h).1
  have h0 : 0 < sz := Nat.pos_of_ne_zero fun e => by subst e; simp at hlt
  have hi : j / sz < l.length := Nat.div_lt_of_lt_mul (by rwa [Nat.mul_comm])
  refine ⟨h0, hi, ?_⟩
  rw [← flat_at hf hi (Nat.mod_lt j h0), Nat.div_add_mod' j sz, h]
theorem flat_set {A : Type} {f : A → List Value} {sz : Nat} (hf : ∀ x, (f x).length = sz) {l : List A} {i : Nat} (h : i < l.length) (y : A) : setL (flat f l) (i * sz) (f y) = flat f (l.set i y) := by
  have hb : i * sz + sz ≤ l.length * sz := by
    have := Nat.mul_le_mul_right sz (show i + 1 ≤ l.length by omega)
    rwa [Nat.add_mul, Nat.one_mul] at this
  rw [setL_eq _ _ _ (by rw [hf, flat_len hf]; exact hb)]
  apply List.ext_getElem?
  intro j
  have hl1 : (List.take (i * sz) (flat f l)).length = i * sz := by rw [List.length_take, flat_len hf]; omega
  rcases Nat.lt_or_ge j (i * sz) with h1 | h1
  · rw [List.getElem?_append_left (by rw [List.length_append, hl1]; omega), List.getElem?_append_left (by rw [hl1]; exact h1), List.getElem?_take, if_pos h1]
    have h0 : 0 < sz := Nat.pos_of_ne_zero fun e => by subst e; simp at h1
    have hj : j / sz < i := Nat.div_lt_of_lt_mul (by rwa [Nat.mul_comm])
    have e1 := flat_at hf (l := l) (i := j / sz) (by omega) (Nat.mod_lt j h0)
    have e2 := flat_at hf (l := l.set i y) (i := j / sz) (by simp; omega) (Nat.mod_lt j h0)
    rw [Nat.div_add_mod' j sz] at e1 e2
    rw [e1, e2, List.getElem_set_ne (by omega)]
  · rcases Nat.lt_or_ge j (i * sz + sz) with h2 | h2
    · rw [List.getElem?_append_left (by rw [List.length_append, hl1, hf]; omega), List.getElem?_append_right (by rw [hl1]; exact h1), hl1]
      have e2 := flat_at hf (l := l.set i y) (i := i) (by simpa using h) (j := j - i * sz) (by omega)
      rw [show i * sz + (j - i * sz) = j by omega] at e2
      rw [e2, List.getElem_set_self]
    · rw [List.getElem?_append_right (by rw [List.length_append, hl1, hf]; exact h2), List.length_append, hl1, hf, List.getElem?_drop, show i * sz + sz + (j - (i * sz + sz)) = j by omega]
      rcases Nat.eq_zero_or_pos sz with h0 | h0
      · subst h0
        have e1 : flat f l = [] := List.length_eq_zero_iff.1 (by rw [flat_len hf]; simp)
        have e2 : flat f (l.set i y) = [] := List.length_eq_zero_iff.1 (by rw [flat_len hf]; simp)
        rw [e1, e2]
      rcases Nat.lt_or_ge (j / sz) l.length with h3 | h3
      · have hj : i < j / sz := (Nat.le_div_iff_mul_le h0).2 (by rw [Nat.succ_mul]; omega)
        have e1 := flat_at hf (l := l) (i := j / sz) h3 (Nat.mod_lt j h0)
        have e2 := flat_at hf (l := l.set i y) (i := j / sz) (by simpa using h3) (Nat.mod_lt j h0)
        rw [Nat.div_add_mod' j sz] at e1 e2
        rw [e1, e2, List.getElem_set_ne (by omega)]
      · have hj : l.length * sz ≤ j := by
          have := (Nat.le_div_iff_mul_le h0).1 h3
          exact this
        rw [List.getElem?_eq_none (by rw [flat_len hf]; exact hj), List.getElem?_eq_none (by rw [flat_len hf, List.length_set]; exact hj)]

theorem SrcV.old {A : Type} {f : A → List Value} {sz : Nat} {l : List A} {a : Option Addr} (hf : ∀ x, (f x).length = sz) (h1 : ∀ x, (f x).all (·.oneCell') = true) (h : SlAt C.w0 a sz (l.map f)) : SrcV C M a l.length sz (flat f l) where
  len := flat_len hf l
  one := by
    rw [List.all_eq_true]
    intro v hv
    obtain ⟨r, hr, hv⟩ := List.mem_flatten.1 hv
    obtain ⟨x, _, rfl⟩ := List.mem_map.1 hr
    exact List.all_eq_true.1 (h1 x) v hv
  nil := fun ha => by
    rcases Nat.eq_zero_or_pos l.length with h0 | h0
    · exact h0
    · obtain ⟨b, off, hb, _⟩ := h (by simpa using h0)
      rw [ha] at hb; cases hb
  go := fun ad ha w hw j u hj => by
    obtain ⟨h0, hi, hu⟩ := flat_back hf hj
    obtain ⟨b, off, hb, hr⟩ := h.at _ hi
    rw [ha] at hb; cases hb
    rw [addr_add, addO_eq]
    have hc := hr.2 _ _ hu
    rw [show off + j / sz * sz + j % sz = off + j by rw [Nat.add_assoc, Nat.div_add_mod' j sz]] at hc
    exact hw.cellOld hc hr.1
theorem SrcV.blk {b : Nat} {e : TypeId} {cs : List Value} {tot m sz : Nat} (hm : Row.blk b e cs tot ∈ M) (hl : cs.length = m * sz) (h1 : cs.all (·.oneCell') = true) : SrcV C M (some ⟨b, 0, none⟩) m sz cs where
  len := hl
  one := h1
  nil := fun ha => by cases ha
  go := fun ad ha w hw j u hj => by
    cases ha
    rw [addr_add, addO_eq, Nat.zero_add]
    exact hw.cellBlk hm hj

/-- A block of the call's own, as a slice that is read. -/
theorem SlAt.ofBlk {A : Type} {f : A → List Value} {sz : Nat} {l : List A} {w0 w : World} {b : Nat} {e : TypeId} {tot : Nat} (hf : ∀ x, (f x).length = sz) (hw : Sat w0 M w) (hm : Row.blk b e (flat f l) tot ∈ M) : SlAt w (some ⟨b, 0, none⟩) sz (l.map f) := fun _ =>
  ⟨b, 0, rfl, fun i cs hi => ⟨((hw.old _ hm).2 b rfl).2, fun j v hv => by
    have hlt : i < l.length := by simpa using (List.getElem?_eq_some_iff.1 hi).1
    have hcs : f l[i] = cs := by
      rw [List.getElem?_map, List.getElem?_eq_getElem hlt] at hi
      simpa using hi
    subst hcs
    have hj : j < sz := by rw [← hf l[i]]; exact (List.getElem?_eq_some_iff.1 hv).1
    rw [Nat.zero_add]
    exact hw.cellBlk hm (by rw [flat_at hf hlt hj]; exact hv)⟩⟩

/-! ### make, and a slice written out -/
def zs {A : Type} (z : A) (n : Nat) : List A := List.replicate n z
theorem madeCells_flat {z : Array Value} {sz : Nat} (hz : z.size = sz) (h0 : 0 < sz) (n : Nat) : (madeCells z (n * sz)).toList = flat (fun x : List Value => x) (List.replicate n z.toList) := by
  have hf : ∀ x ∈ List.replicate n z.toList, x.length = sz := fun x hx => by rw [(List.mem_replicate.1 hx).2]; simpa using hz
  apply List.ext_getElem?
  intro j
  have hlen : (flat (fun x : List Value => x) (List.replicate n z.toList)).length = n * sz := by
    clear hf; induction n with
    | zero => simp [flat]
    | succ n ih => rw [List.replicate_succ, flat_cons, List.length_append, ih, Nat.succ_mul, Array.length_toList, hz]; omega
  rcases Nat.lt_or_ge j (n * sz) with h | h
  · have key : ∀ n j, j < n * sz → (flat (fun x : List Value => x) (List.replicate n z.toList))[j]? = z.toList[j % sz]? := by
      intro n
      induction n with
      | zero => intro j h; simp at h
      | succ n ih =>
        intro j h
        rw [List.replicate_succ, flat_cons]
        rcases Nat.lt_or_ge j sz with h1 | h1
        · rw [List.getElem?_append_left (by simpa [hz] using h1), Nat.mod_eq_of_lt h1]
        · rw [List.getElem?_append_right (by simpa [hz] using h1), ih _ (by rw [Nat.succ_mul] at h; simp [hz]; omega), Array.length_toList, hz, Nat.mod_eq_sub_mod h1]
    rw [key n j h]
    have hm := Nat.mod_lt j h0
    simp only [madeCells, Array.toList_map, Array.toList_range, List.getElem?_map, List.getElem?_range h, Option.map_some]
    rw [hz, List.getElem?_eq_getElem (by simpa [hz] using hm)]
    congr 1
    rw [getElem!_pos z (j % sz) (by omega)]; simp
  · rw [List.getElem?_eq_none (by simp [size_madeCells]; omega), List.getElem?_eq_none (by rw [hlen]; exact h)]

/-- make([]T, n): a block of the call's own. -/
theorem G.make {T E bytes size n : Nat} {z : Value} {x y : Operand} {k1 k2 : IntKind} {e1 e2 : Int} (zc : List Value) (hg : wnB all st gd = true) (hd : Nat.blt d C.N = true) (hq : q.ext = some q')
    (hx : evS st x = some (.int k1 e1)) (hy : evS st y = some (.int k2 e2)) (he1 : e1 = (n : Int)) (he2 : e2 = (n : Int)) [hT : TElem C.P T E z size bytes] (hz : z.cells = zc.toArray) (hb : bytes * n ≤ 281474976710656) (hn : n ≤ 9223372036854775807)
    (h : ∀ B, G q' C all ((d, .slice (some ⟨B, 0, none⟩) n n) :: st) (.blk B E (flat (fun x : List Value => x) (List.replicate n zc)) (n * size) :: M) rest k) :
    G q C all st M ({ dst := some d, op := .makeSlice T x y, type := ty, pos, after, guard := gd } :: rest) k := by
  refine G.ext hg rfl hq (Eff.val hd fun a w hf hw => ?_)
  obtain ⟨inf, hi, hzz, hsize, hby⟩ := info_parts hT.h2
  subst he1; subst he2
  have hb' : (inf.bytes : Int) * (n : Int) ≤ 281474976710656 := by
    have h : ((inf.bytes * n : Nat) : Int) ≤ 281474976710656 := by rw [hby]; omega
    rwa [Int.natCast_mul] at h
  have hr := run_make (P := C.P) w T E inf z hT.h1 hi hzz k1 k2 n n (by omega) (Int.le_refl _) hb' (by omega)
  rw [Int.toNat_natCast, hsize] at hr
  have hm := madeCells_flat (z := z.cells) hT.h3 hT.h4 n
  have hc : madeCells z.cells (n * size) = (flat (fun x : List Value => x) (List.replicate n zc)).toArray := by
    rw [← Array.toArray_toList (xs := madeCells z.cells (n * size)), hm, hz]
  rw [hc] at hr
  have hlen : (flat (fun x : List Value => x) (List.replicate n zc)).length = n * size := by
    have := congrArg Array.size hc
    rw [size_madeCells] at this; simpa using this.symm
  refine ⟨.slice (some ⟨w.heap.size, 0, none⟩) n n, w.alloc (.cells (flat (fun x : List Value => x) (List.replicate n zc)).toArray E), _, ?_, ?_, List.sublist_cons_self _ _, h w.heap.size⟩
  · simp only [execOp, hf.eval hx, hf.eval hy, Sem.run_bind, hr, Result.andThen_ok]; rfl
  · rw [← hlen]; exact hw.alloc E _

/-- An empty slice written out. -/
theorem G.slice0 {T E bytes size : Nat} {z : Value} (hg : wnB all st gd = true) (hd : Nat.blt d C.N = true) (hq : q.ext = some q') [hT : TElem C.P T E z size bytes]
    (h : ∀ B, G q' C all ((d, .slice (some ⟨B, 0, none⟩) 0 0) :: st) (.own 0 (.slice (some ⟨B, 0, none⟩) 0 0) E size 0 [] :: M) rest k) :
    G q C all st M ({ dst := some d, op := .buildSlice T 0 #[], type := ty, pos, after, guard := gd } :: rest) k := by
  refine G.ext hg rfl hq (Eff.val hd fun a w hf hw => ?_)
  obtain ⟨inf, hi, hzz, hsize, hby⟩ := info_parts hT.h2
  have hw' := hw.alloc E []
  refine ⟨.slice (some ⟨w.heap.size, 0, none⟩) 0 0, w.alloc (.cells #[] E), .own 0 (.slice (some ⟨w.heap.size, 0, none⟩) 0 0) E size 0 [] :: M, ?_, ?_, List.sublist_cons_self _ _, h w.heap.size⟩
  · have e0 : (Array.range 0).map (fun _ : Nat => (default : Value)) = #[] := by simp [Array.range_zero']
    simp [execOp, Instr.buildSlice, run_underlying hT.h1, sizeOf, typeInfo, hi, Instr.fill, newRow, e0]
  · have h2 := hw'.change (i := 0) (r := .blk w.heap.size E [] 0) (r' := .own 0 (.slice (some ⟨w.heap.size, 0, none⟩) 0 0) E size 0 []) rfl rfl rfl rfl (Nat.le_refl _) (fun _ _ _ => rfl) ?_ (Nat.zero_le _) fun b hb => ?_
    · exact h2
    · exact ⟨by simp, .inr ⟨w.heap.size, 0, #[], rfl, Nat.zero_le _, heap_alloc_new w _, Nat.le_refl _, Nat.zero_le _, by simp, by simp⟩⟩
    · have hb' : w.heap.size = b := by simpa [Row.sup, Value.ownBlock] using hb
      subst hb'
      exact ⟨.inl rfl, (Array.getElem?_eq_some_iff.1 (heap_alloc_new w (.cells #[] E))).1⟩

/-- A slice written out. -/
theorem G.sliceN {T E bytes size n : Nat} {z : Value} {parts : List (Nat × Operand)} {vs : List (Nat × Value)} {zc out : List Value} (hg : wnB all st gd = true) (hd : Nat.blt d C.N = true) (hq : q.ext = some q') (hp : Sl.evP st parts = some vs) [hT : TElem C.P T E z size bytes]
    (hz : (madeCells z.cells (n * size)).toList = zc) (hs : Nat.ble (n * size) 16777216 = true) (h0 : Nat.blt 0 n = true) (ho : fillL ((List.range n).map fun i => (i * size, size)) zc vs = some out)
    (h : ∀ B, G q' C all ((d, .slice (some ⟨B, 0, none⟩) n n) :: st) (.blk B E out out.length :: M) rest k) :
    G q C all st M ({ dst := some d, op := .buildSlice T n parts.toArray, type := ty, pos, after, guard := gd } :: rest) k := by
  refine G.ext hg rfl hq (Eff.val hd fun a w hf hw => ⟨_, _, _, ?_, hw.alloc E out, List.sublist_cons_self _ _, h w.heap.size⟩)
  obtain ⟨inf, hi, hzz, hsize, hby⟩ := info_parts hT.h2
  have hfill : Instr.fill (fun i => some (i * size, size)) zc.toArray vs = some out.toArray := by
    refine fill_congr vs _ _ (fun i x hx => ?_) (fill_eq _ vs zc out ho)
    rw [List.getElem?_map] at hx
    rcases Nat.lt_or_ge i n with h1 | h1
    · rw [List.getElem?_range h1] at hx; simpa using hx
    · rw [List.getElem?_eq_none (by simpa using h1)] at hx; cases hx
  have e := hf.evP hp
  have hpos : ¬ n * size = 0 := by
    have h1 : 0 < n := by simpa using h0
    have := Nat.mul_pos h1 hT.h4
    omega
  have hsm : ¬ n * size > 2 ^ 24 := by have := Nat.le_of_ble_eq_true hs; omega
  have hcells : (Array.range (n * inf.size)).map (z.cells[· % z.cells.size]!) = zc.toArray := by
    rw [hsize, ← hz, Array.toArray_toList]; rfl
  have := run_buildSlice (P := C.P) w T E n vs.toArray out.toArray inf z hT.h1 hi hzz (by rw [hsize]; exact hsm) (by rw [hsize]; exact hpos) (by rw [hcells, hsize]; exact hfill)
  simp only [execOp, List.map_toArray, e, Sem.run_bind, this, Result.andThen_ok]; rfl
end Go.Sl
