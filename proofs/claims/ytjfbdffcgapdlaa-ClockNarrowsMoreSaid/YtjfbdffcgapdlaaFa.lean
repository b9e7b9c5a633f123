/-
  Facts of slices that are read; calls that hand back a slice.
-/
import Derived.Test.YtjfbdffcgapdlaaEx

namespace Go.Sl
open Go.RowKit

variable {C : Ctx} {st : List (Nat × Value)} {M : List Row} {k : List Item} {q q' : Md} {all rest : List Oper} {d : Nat} {ty : TypeId} {pos : String} {after : Array Edge} {gd : Option (Nat × Bool)}

theorem RowAt.same {w w' : World} {b o : Nat} {cs : List Value} (h : w'.heap[b]? = w.heap[b]?) (hr : RowAt w b o cs) : RowAt w' b o cs := by
  refine ⟨?_, fun j v hv => (World.cell?_of_block (a := ⟨b, o + j, none⟩) h).trans (hr.2 j v hv)⟩
  rcases Nat.lt_or_ge b w'.heap.size with h1 | h1
  · exact h1
  · rw [Array.getElem?_eq_none h1, Array.getElem?_eq_getElem hr.1] at h; cases h

/-- The slice at a reads as L: a row that nobody writes. -/
def slSup (N : Nat) (a : Option Addr) (L : List (List Value)) (b : Nat) : Prop := 0 < L.length ∧ ∃ p, a = some p ∧ p.block = b ∧ N ≤ b
theorem slKeep {N sz : Nat} {a : Option Addr} {L : List (List Value)} (w w' : World) (h : ∀ b, (b < N ∨ slSup N a L b) → w'.heap[b]? = w.heap[b]?) (hw : SlAt w a sz L) : SlAt w' a sz L := fun h0 => by
  obtain ⟨b, off, rfl, hr⟩ := hw h0
  refine ⟨b, off, rfl, fun i cs hi => (hr i cs hi).same (h b ?_)⟩
  rcases Nat.lt_or_ge b N with h1 | h1
  · exact .inl h1
  · exact .inr ⟨h0, _, rfl, rfl, h1⟩
def slRow (N : Nat) (a : Option Addr) (sz : Nat) (L : List (List Value)) : Row := .fact N (slSup N a L) (fun w => SlAt w a sz L) slKeep

theorem Sat.sl {w0 w : World} {N sz : Nat} {a : Option Addr} {L : List (List Value)} (h : Sat w0 M w) (hm : slRow N a sz L ∈ M) : SlAt w a sz L := h.hold _ hm

/-- An old slice. -/
theorem J.slOld {sz : Nat} {a : Option Addr} {L : List (List Value)} (ha : SlAt C.w0 a sz L) (h : J C st (slRow C.w0.heap.size a sz L :: M) k) : J C st M k := .mk fun ac w hf hd hw => by
  refine h.go ac w hf hd (hw.addFact (Nat.le_refl _) (ha.below hw.below) fun b hb => ?_)
  obtain ⟨h0, p, h1, h2, h3⟩ := hb
  obtain ⟨b', off, h4, hr⟩ := ha h0
  have : RowAt C.w0 b' (off + 0 * sz) (L[0]) := hr 0 _ (List.getElem?_eq_getElem h0)
  rw [h1] at h4; cases h4
  have := this.1
  simp only at h2
  omega
/-- The same fact, once more. -/
theorem J.slDup {sz N : Nat} {a : Option Addr} {L : List (List Value)} (hm : slRow N a sz L ∈ M) (h : J C st (slRow N a sz L :: M) k) : J C st M k := .mk fun ac w hf hd hw => by
  refine h.go ac w hf hd ?_
  have ho := hw.old _ hm
  refine hw.addFact ho.1 (hw.sl hm) fun b hb => ⟨(ho.2 b hb).1, (ho.2 b hb).2, fun r hr hl => ?_⟩
  have hp := List.pairwise_iff_getElem.1 hw.apart
  obtain ⟨i, hi, ei⟩ := List.mem_iff_getElem.1 hr
  obtain ⟨j, hj, ej⟩ := List.mem_iff_getElem.1 hm
  rcases Nat.lt_trichotomy i j with h1 | h1 | h1
  · exact (hp i j hi hj h1 b).1 (by rw [ei]; exact hl) (by rw [ej]; exact hb)
  · subst h1
    rw [ei] at ej; subst ej; exact hl
  · exact (hp j i hj hi h1 b).2 (by rw [ei]; exact hl) (by rw [ej]; exact hb)

/-- A call that hands back a new slice. -/
theorem G.callS {g : FuncId} {args : List Operand} {vs : List Value} {at_ : Array TypeId} {n sz : Nat} (L : List (List Value)) (ha : evL st args = some vs) (hg : wnB all st gd = true) (hd : Nat.blt d C.N = true) (hq : q.ext = some q') [hF : Fun C.P g]
    (hc : ∀ w, Sat C.w0 M w → Calls C.P g vs.toArray w fun e w' => ∃ g c', e = .returned (.slice (some ⟨g, 0, none⟩) n c') ∧ n ≤ c' ∧ w.heap.size ≤ g ∧ SlAt w' (some ⟨g, 0, none⟩) sz L ∧ Below w.heap.size w w')
    (h : ∀ g c', n ≤ c' → C.w0.heap.size ≤ g → G q' C all ((d, .slice (some ⟨g, 0, none⟩) n c') :: st) (slRow C.w0.heap.size (some ⟨g, 0, none⟩) sz L :: M) rest k) :
    G q C all st M ({ dst := some d, op := .call { callee := .value (.func g), args := args.toArray, argTypes := at_ }, type := ty, pos, after, guard := gd } :: rest) k := by
  refine G.call0 (X := { x : Nat × Nat // n ≤ x.2 ∧ C.w0.heap.size ≤ x.1 }) (v := fun x => .slice (some ⟨x.1.1, 0, none⟩) n x.1.2) (Mn := fun x => [slRow C.w0.heap.size (some ⟨x.1.1, 0, none⟩) sz L]) hg hd hq ha (fun w hw => (hc w hw).mono fun e w' he => ?_) fun x => h x.1.1 x.1.2 x.2.1 x.2.2
  obtain ⟨gg, c', rfl, h1, h2, h3, h4⟩ := he
  refine ⟨⟨(gg, c'), h1, Nat.le_trans hw.size h2⟩, rfl, hw.new h4 h3 (Nat.le_refl _) fun b hb => ?_⟩
  obtain ⟨h0, p, h5, h6, h7⟩ := hb
  cases h5
  obtain ⟨b', off, h8, hr⟩ := h3 h0
  cases h8
  have := (hr 0 _ (List.getElem?_eq_getElem h0)).1
  simp only at h6
  subst h6
  exact ⟨h2, this⟩

/-- Nobody writes there. -/
def Free (C : Ctx) (M : List Row) (w : World) (b : Nat) : Prop := b < C.w0.heap.size ∨ w.heap.size ≤ b ∨ ∃ r ∈ M, (∀ k, ¬ r.lock k) ∧ r.sup b
theorem Sat.free {w : World} {b : Nat} (hw : Sat C.w0 M w) (h : Free C M w b) (h2 : C.w0.heap.size ≤ b) : ∀ r ∈ M, ¬ r.lock b := by
  intro r hr hl
  rcases h with h | h | ⟨s, hs, h3, h4⟩
  · omega
  · have := ((hw.old r hr).2 b (Row.lock_sup hl)).2
    omega
  · have hp := List.pairwise_iff_getElem.1 hw.apart
    obtain ⟨i, hi, ei⟩ := List.mem_iff_getElem.1 hr
    obtain ⟨j, hj, ej⟩ := List.mem_iff_getElem.1 hs
    rcases Nat.lt_trichotomy i j with h1 | h1 | h1
    · exact (hp i j hi hj h1 b).1 (by rw [ei]; exact hl) (by rw [ej]; exact h4)
    · subst h1
      rw [ei] at ej; subst ej; exact h3 b hl
    · exact (hp j i hj hi h1 b).2 (by rw [ei]; exact hl) (by rw [ej]; exact h4)

/-- A call that hands back a value with a slice in it. -/
theorem G.callA {g : FuncId} {args : List Operand} {vs : List Value} {at_ : Array TypeId} {sz : Nat} (v : Option Addr → Nat → Value) (L : List (List Value)) (ha : evL st args = some vs) (hg : wnB all st gd = true) (hd : Nat.blt d C.N = true) (hq : q.ext = some q') [hF : Fun C.P g]
    (hc : ∀ w, Sat C.w0 M w → Calls C.P g vs.toArray w fun e w' => ∃ a' c', e = .returned (v a' c') ∧ SlAt w' a' sz L ∧ (∀ p, a' = some p → 0 < L.length → Free C M w p.block) ∧ Below w.heap.size w w')
    (h : ∀ a' c', (0 < L.length → ∃ b off, a' = some ⟨b, off, none⟩) → G q' C all ((d, v a' c') :: st) (slRow C.w0.heap.size a' sz L :: M) rest k) :
    G q C all st M ({ dst := some d, op := .call { callee := .value (.func g), args := args.toArray, argTypes := at_ }, type := ty, pos, after, guard := gd } :: rest) k := by
  refine G.call0 (X := { x : Option Addr × Nat // 0 < L.length → ∃ b off, x.1 = some ⟨b, off, none⟩ }) (v := fun x => v x.1.1 x.1.2) (Mn := fun x => [slRow C.w0.heap.size x.1.1 sz L]) hg hd hq ha (fun w hw => (hc w hw).mono fun e w' he => ?_) fun x => h x.1.1 x.1.2 x.2
  obtain ⟨a', c', rfl, h1, h2, h3⟩ := he
  refine ⟨⟨(a', c'), fun h0 => let ⟨b, off, e, _⟩ := h1 h0; ⟨b, off, e⟩⟩, rfl, (hw.ext h3).addFact (Nat.le_refl _) h1 fun b hb => ?_⟩
  obtain ⟨h0, p, h5, h6, h7⟩ := hb
  dsimp only at h5
  obtain ⟨b', off, h8, hr⟩ := h1 h0
  have hlt := (hr 0 _ (List.getElem?_eq_getElem h0)).1
  have := h2 p h5 h0
  rw [h5] at h8; cases h8
  simp only at h6 this
  subst h6
  exact ⟨h7, hlt, hw.free this h7⟩

/-- A block of the call's own is only read from here on. -/
theorem J.blkSl {A : Type} {f : A → List Value} {sz i : Nat} {l : List A} {b : Nat} {e : TypeId} {tot : Nat} {k : List Item} (hf : ∀ x, (f x).length = sz) (hm : M[i]? = some (Row.blk b e (flat f l) tot))
    (h : J C st (M.set i (slRow C.w0.heap.size (some ⟨b, 0, none⟩) sz (l.map f))) k) : J C st M k := .mk fun a w hfi hd hw => by
  have hmem := List.mem_of_getElem? hm
  refine h.go a w hfi hd (hw.change hm rfl rfl rfl (Nat.le_refl _) (fun _ _ _ => rfl) (SlAt.ofBlk hf hw hmem) (Nat.le_refl _) fun b' hb' => ?_)
  obtain ⟨h0, p, h5, h6, h7⟩ := hb'
  cases h5
  simp only at h6
  exact ⟨.inl h6.symm, by rw [← h6]; exact ((hw.old _ hmem).2 b rfl).2⟩

theorem J.ownForm {i base E size n : Nat} {v : Value} {xs : List Value} {k : List Item} (hm : M[i]? = some (.own base v E size n xs)) (h : ∀ a c, v = .slice a n c → J C st M k) : J C st M k := .mk fun a w hf hd hw => by
  obtain ⟨hl, hv⟩ := hw.hold _ (List.mem_of_getElem? hm)
  rcases hv with ⟨rfl, rfl⟩ | ⟨g, cap, cur, rfl, _⟩
  · exact (h _ _ rfl).go a w hf hd hw
  · exact (h _ _ rfl).go a w hf hd hw
theorem SlAt.ofOwn {A : Type} {f : A → List Value} {sz n c base : Nat} {l : List A} {a : Option Addr} {w : World} {e : TypeId} (hf : ∀ x, (f x).length = sz) (ho : w.ownsRow base e sz (.slice a n c) n (flat f l)) (hn : l.length = n) : SlAt w a sz (l.map f) := fun h0 => by
  obtain ⟨hl, hv⟩ := ho
  rcases hv with ⟨hv, h1⟩ | ⟨g, cap, cur, hv, _, hgg, h1, h2, h3, h4⟩
  · simp only [List.length_map] at h0; omega
  · cases hv
    have hlt : g < w.heap.size := (Array.getElem?_eq_some_iff.1 hgg).1
    refine ⟨g, 0, rfl, fun i cs hi => ⟨hlt, fun j v hv => ?_⟩⟩
    have hil : i < l.length := by simpa using (List.getElem?_eq_some_iff.1 hi).1
    have hcs : f l[i] = cs := by
      rw [List.getElem?_map, List.getElem?_eq_getElem hil] at hi
      simpa using hi
    subst hcs
    have hj : j < sz := by rw [← hf l[i]]; exact (List.getElem?_eq_some_iff.1 hv).1
    rw [← flat_at hf hil hj, ← h4, List.getElem?_take] at hv
    split at hv
    · rw [Nat.zero_add, cell_of_row w g _ cur e (0, 0) hgg]; simpa using hv
    · cases hv
/-- A cell of a slice that is read. -/
theorem CellV.sl {A : Type} {f : A → List Value} {sz N : Nat} {l : List A} {b off i j : Nat} {v : Value} (hm : slRow N (some ⟨b, off, none⟩) sz (l.map f) ∈ M) (hi : i < l.length) (hv : (f l[i])[j]? = some v) : CellV C M ⟨b, off + i * sz + j, none⟩ v := .mk fun w hw => by
  obtain ⟨b', off', h1, h2⟩ := (hw.sl hm).at i hi
  cases h1
  exact h2.2 j v hv
theorem CellV.sl0 {A : Type} {f : A → List Value} {sz N : Nat} {l : List A} {b off i : Nat} {v : Value} (hm : slRow N (some ⟨b, off, none⟩) sz (l.map f) ∈ M) (hi : i < l.length) (hv : (f l[i])[0]? = some v) : CellV C M ⟨b, off + i * sz, none⟩ v := CellV.sl (j := 0) hm hi hv
theorem SlAt.lt {w : World} {a : Option Addr} {sz : Nat} {L : List (List Value)} (h : SlAt w a sz L) (h0 : 0 < L.length) {p : Addr} (hp : a = some p) : p.block < w.heap.size := by
  obtain ⟨b', off, h8, hr⟩ := h h0
  rw [hp] at h8; cases h8
  exact (hr 0 _ (List.getElem?_eq_getElem h0)).1

/-- A slice written out. -/
theorem G.sliceL {T E bytes size n : Nat} {z : Value} {parts : List (Nat × Operand)} {vs : List (Nat × Value)} {zl out : List Value} (hg : wnB all st gd = true) (hd : Nat.blt d C.N = true) (hq : q.ext = some q') (hp : Sl.evP st parts = some vs) [hT : TElem C.P T E z size bytes]
    (hz : z.cells = zl.toArray) (hs : Nat.ble (n * size) 16777216 = true) (h0 : Nat.blt 0 n = true) (ho : fillL ((List.range n).map fun i => (i * size, size)) (flat (fun x : List Value => x) (List.replicate n zl)) vs = some out)
    (h : ∀ B, G q' C all ((d, .slice (some ⟨B, 0, none⟩) n n) :: st) (.blk B E out out.length :: M) rest k) :
    G q C all st M ({ dst := some d, op := .buildSlice T n parts.toArray, type := ty, pos, after, guard := gd } :: rest) k :=
  G.sliceN hg hd hq hp (zc := flat (fun x : List Value => x) (List.replicate n zl)) (by rw [madeCells_flat hT.h3 hT.h4 n, hz]) hs h0 ho h
end Go.Sl
