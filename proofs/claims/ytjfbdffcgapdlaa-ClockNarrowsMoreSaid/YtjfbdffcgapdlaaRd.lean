/-
  The arguments of a law: what their reading tells of their cells.
-/
import Derived.Test.YtjfbdffcgapdlaaAr
import Derived.ProofKit
import Derived.OpenShut
import Derived.ShutString
import Derived.ChangeOld
import Derived.Below
import Derived.Carry

namespace Go.Sl
open Go.RowKit Go.ChangeShapes Go.WideShapes

/-- Whatever reads at the type T has the cells f a, and G holds of a. -/
structure Reads (P : Program) (T : TypeId) {A : Type} (f : A → List Value) (G : World → A → Prop) : Prop where
  go : ∀ {H : Type} (enc : TypeId × Value → H) (w : World) (fuel : Nat) (cs : List Value) (x : DataW H × List MemPlace), DataW.trod enc P w 0 (fun _ => true) true fuel T cs = some x → ∃ a, cs = f a ∧ G w a

variable {P : Program} {T E : TypeId}

theorem Reads.mono {A : Type} {f : A → List Value} {G G' : World → A → Prop} (h : Reads P T f G) (hG : ∀ w a, G w a → G' w a) : Reads P T f G' := .mk fun enc w fuel cs x hx =>
  let ⟨a, h1, h2⟩ := h.go enc w fuel cs x hx
  ⟨a, h1, hG _ _ h2⟩
theorem Reads.turn {A B : Type} {f : A → List Value} {G : World → A → Prop} {f' : B → List Value} {G' : World → B → Prop} (h : Reads P T f G) (hG : ∀ w a, G w a → ∃ b, f a = f' b ∧ G' w b) : Reads P T f' G' := .mk fun enc w fuel cs x hx =>
  let ⟨a, h1, h2⟩ := h.go enc w fuel cs x hx
  let ⟨b, h3, h4⟩ := hG w a h2
  ⟨b, h1.trans h3, h4⟩
theorem Reads.int {k : IntKind} (ht : P.underlying T = some (.int k)) : Reads P T (fun n : Int => [.int k n]) (fun _ n => (Lit.int k n).wf = true) := .mk fun enc w fuel cs x hx => by
  obtain ⟨n, h1, _, h3⟩ := DataW.trod_int ht hx
  exact ⟨n, h1, h3⟩
theorem Reads.bool (ht : P.underlying T = some .bool) : Reads P T (fun b : Bool => [.bool b]) (fun _ _ => True) := .mk fun enc w fuel cs x hx => by
  obtain ⟨n, h1, _⟩ := DataW.trod_bool ht hx
  exact ⟨n, h1, trivial⟩
theorem Reads.string (ht : P.underlying T = some .string) : Reads P T (fun s : ByteArray => [.string s]) (fun _ s => s.size ≤ maxLen) := .mk fun enc w fuel cs x hx => by
  obtain ⟨n, h1, _, h3⟩ := DataW.trod_string ht hx
  exact ⟨n, h1, h3⟩

/-- The pieces of a list, one behind the other. -/
def pieces : List Nat → List Value → List (List Value)
  | [], _ => []
  | n :: r, cs => cs.take n :: pieces r (cs.drop n)
theorem pieces_join : ∀ (ns : List Nat) (cs : List Value), cs.length = ns.sum → (pieces ns cs).flatten = cs
  | [], cs, h => by
    have : cs = [] := List.length_eq_zero_iff.1 (by simpa using h)
    simp [pieces, this]
  | n :: r, cs, h => by
    simp only [List.sum_cons] at h
    rw [pieces, List.flatten_cons, pieces_join r _ (by rw [List.length_drop]; omega), List.take_append_drop]
def offsets : Nat → List Nat → List Nat
  | _, [] => []
  | o, n :: r => o :: offsets (o + n) r
theorem pieces_get : ∀ (ns : List Nat) (cs : List Value) (o i : Nat) (n m : Nat), (offsets o ns)[i]? = some (o + m) → ns[i]? = some n → (pieces ns cs)[i]? = some ((cs.drop m).take n)
  | [], cs, o, i, n, m, h, h2 => by simp at h2
  | k :: r, cs, o, 0, n, m, h, h2 => by
    simp only [offsets, List.getElem?_cons_zero, Option.some.injEq] at h h2
    have : m = 0 := by omega
    subst this; subst h2
    simp [pieces]
  | k :: r, cs, o, i + 1, n, m, h, h2 => by
    simp only [offsets, List.getElem?_cons_succ] at h h2
    have hge : ∀ (ns : List Nat) (o i v : Nat), (offsets o ns)[i]? = some v → o ≤ v := by
      intro ns
      induction ns with
      | nil => intro o i v h; simp [offsets] at h
      | cons a r ih =>
        intro o i v h
        cases i with
        | zero => simp [offsets] at h; omega
        | succ i => simp only [offsets, List.getElem?_cons_succ] at h; have := ih _ _ _ h; omega
    have := hge _ _ _ _ h
    have h3 := pieces_get r (cs.drop k) (o + k) i n (m - k) (by rw [h]; congr 1; omega) h2
    simp only [pieces, List.getElem?_cons_succ]
    rw [h3, List.drop_drop, show k + (m - k) = m by omega]

/-- The fields lie one behind the other. -/
def tight (P : Program) (fs : Array Field) (n : Nat) : Bool :=
  decide (fs.toList.map (·.offset) = offsets 0 (fs.toList.map fun f => P.cellsOf f.type)) && decide ((fs.toList.map fun f => P.cellsOf f.type).sum = n)

theorem Reads.struct {fs : Array Field} {n : Nat} (ht : P.underlying T = some (.struct fs)) (hn : P.cellsOf T = n) (hT : tight P fs n = true) {H : Type} {enc : TypeId × Value → H} {w : World} {fuel : Nat} {cs : List Value} {x : DataW H × List MemPlace}
    (hx : DataW.trod enc P w 0 (fun _ => true) true fuel T cs = some x) :
    cs = (pieces (fs.toList.map fun f => P.cellsOf f.type) cs).flatten ∧ (pieces (fs.toList.map fun f => P.cellsOf f.type) cs).length = fs.size ∧
    ∀ (i : Nat) (f : Field) (p : List Value), fs[i]? = some f → (pieces (fs.toList.map fun f => P.cellsOf f.type) cs)[i]? = some p → ∃ m y, DataW.trod enc P w 0 (fun _ => true) true m f.type p = some y := by
  simp only [tight, Bool.and_eq_true, decide_eq_true_eq] at hT
  obtain ⟨xs, m, -, -, hl, hlen, hf⟩ := DataW.trod_struct ht hx
  have hplen : ∀ (ns : List Nat) (cs : List Value), (pieces ns cs).length = ns.length := by
    intro ns
    induction ns with
    | nil => intro cs; rfl
    | cons a r ih => intro cs; simp [pieces, ih]
  refine ⟨(pieces_join _ _ (by rw [hl, hn, hT.2])).symm, by rw [hplen]; simp, fun i f p hi hp => ?_⟩
  have ho : (fs.toList.map (·.offset))[i]? = some f.offset := by rw [List.getElem?_map, Array.getElem?_toList, hi]; rfl
  have hs : (fs.toList.map fun f => P.cellsOf f.type)[i]? = some (P.cellsOf f.type) := by rw [List.getElem?_map, Array.getElem?_toList, hi]; rfl
  rw [hT.1] at ho
  have := pieces_get _ cs 0 i _ f.offset (by rw [Nat.zero_add]; exact ho) hs
  rw [hp] at this
  cases this
  have h1 := hf i f hi
  have hxi : i < xs.length := by rw [hlen]; exact (Array.getElem?_eq_some_iff.1 hi).1
  rw [List.getElem?_eq_getElem hxi] at h1
  exact ⟨m, _, h1⟩

theorem list2 {A : Type} {l : List A} (h : l.length = 2) : ∃ a b, l = [a, b] := by
  match l, h with
  | [a, b], _ => exact ⟨a, b, rfl⟩
theorem list3 {A : Type} {l : List A} (h : l.length = 3) : ∃ a b c, l = [a, b, c] := by
  match l, h with
  | [a, b, c], _ => exact ⟨a, b, c, rfl⟩
theorem list4 {A : Type} {l : List A} (h : l.length = 4) : ∃ a b c d, l = [a, b, c, d] := by
  match l, h with
  | [a, b, c, d], _ => exact ⟨a, b, c, d, rfl⟩
theorem list5 {A : Type} {l : List A} (h : l.length = 5) : ∃ a b c d e, l = [a, b, c, d, e] := by
  match l, h with
  | [a, b, c, d, e], _ => exact ⟨a, b, c, d, e, rfl⟩
theorem list6 {A : Type} {l : List A} (h : l.length = 6) : ∃ a b c d e f, l = [a, b, c, d, e, f] := by
  match l, h with
  | [a, b, c, d, e, f], _ => exact ⟨a, b, c, d, e, f, rfl⟩

section
variable {A1 A2 A3 A4 A5 A6 : Type} {f1 : A1 → List Value} {f2 : A2 → List Value} {f3 : A3 → List Value} {f4 : A4 → List Value} {f5 : A5 → List Value} {f6 : A6 → List Value} {G1 : World → A1 → Prop} {G2 : World → A2 → Prop} {G3 : World → A3 → Prop} {G4 : World → A4 → Prop} {G5 : World → A5 → Prop} {G6 : World → A6 → Prop} {d1 d2 d3 d4 d5 d6 : Field} {n : Nat}
theorem Reads.struct2 (ht : P.underlying T = some (.struct #[d1, d2])) (hn : P.cellsOf T = n) (hT : tight P #[d1, d2] n = true) (h1 : Reads P d1.type f1 G1) (h2 : Reads P d2.type f2 G2) :
    Reads P T (fun a : A1 × A2 => f1 a.1 ++ f2 a.2) (fun w a => G1 w a.1 ∧ G2 w a.2) := .mk fun enc w fuel cs x hx => by
  obtain ⟨hj, hl, hf⟩ := Reads.struct ht hn hT hx
  obtain ⟨p1, p2, hp⟩ := list2 hl
  rw [hp] at hj hf
  obtain ⟨_, _, r1⟩ := hf 0 d1 p1 rfl rfl
  obtain ⟨_, _, r2⟩ := hf 1 d2 p2 rfl rfl
  obtain ⟨a1, rfl, g1⟩ := h1.go enc w _ _ _ r1
  obtain ⟨a2, rfl, g2⟩ := h2.go enc w _ _ _ r2
  exact ⟨(a1, a2), by rw [hj]; simp, g1, g2⟩
theorem Reads.struct3 (ht : P.underlying T = some (.struct #[d1, d2, d3])) (hn : P.cellsOf T = n) (hT : tight P #[d1, d2, d3] n = true) (h1 : Reads P d1.type f1 G1) (h2 : Reads P d2.type f2 G2) (h3 : Reads P d3.type f3 G3) :
    Reads P T (fun a : A1 × A2 × A3 => f1 a.1 ++ (f2 a.2.1 ++ f3 a.2.2)) (fun w a => G1 w a.1 ∧ G2 w a.2.1 ∧ G3 w a.2.2) := .mk fun enc w fuel cs x hx => by
  obtain ⟨hj, hl, hf⟩ := Reads.struct ht hn hT hx
  obtain ⟨p1, p2, p3, hp⟩ := list3 hl
  rw [hp] at hj hf
  obtain ⟨_, _, r1⟩ := hf 0 d1 p1 rfl rfl
  obtain ⟨_, _, r2⟩ := hf 1 d2 p2 rfl rfl
  obtain ⟨_, _, r3⟩ := hf 2 d3 p3 rfl rfl
  obtain ⟨a1, rfl, g1⟩ := h1.go enc w _ _ _ r1
  obtain ⟨a2, rfl, g2⟩ := h2.go enc w _ _ _ r2
  obtain ⟨a3, rfl, g3⟩ := h3.go enc w _ _ _ r3
  exact ⟨(a1, a2, a3), by rw [hj]; simp, g1, g2, g3⟩
theorem Reads.struct4 (ht : P.underlying T = some (.struct #[d1, d2, d3, d4])) (hn : P.cellsOf T = n) (hT : tight P #[d1, d2, d3, d4] n = true) (h1 : Reads P d1.type f1 G1) (h2 : Reads P d2.type f2 G2) (h3 : Reads P d3.type f3 G3) (h4 : Reads P d4.type f4 G4) :
    Reads P T (fun a : A1 × A2 × A3 × A4 => f1 a.1 ++ (f2 a.2.1 ++ (f3 a.2.2.1 ++ f4 a.2.2.2))) (fun w a => G1 w a.1 ∧ G2 w a.2.1 ∧ G3 w a.2.2.1 ∧ G4 w a.2.2.2) := .mk fun enc w fuel cs x hx => by
  obtain ⟨hj, hl, hf⟩ := Reads.struct ht hn hT hx
  obtain ⟨p1, p2, p3, p4, hp⟩ := list4 hl
  rw [hp] at hj hf
  obtain ⟨_, _, r1⟩ := hf 0 d1 p1 rfl rfl
  obtain ⟨_, _, r2⟩ := hf 1 d2 p2 rfl rfl
  obtain ⟨_, _, r3⟩ := hf 2 d3 p3 rfl rfl
  obtain ⟨_, _, r4⟩ := hf 3 d4 p4 rfl rfl
  obtain ⟨a1, rfl, g1⟩ := h1.go enc w _ _ _ r1
  obtain ⟨a2, rfl, g2⟩ := h2.go enc w _ _ _ r2
  obtain ⟨a3, rfl, g3⟩ := h3.go enc w _ _ _ r3
  obtain ⟨a4, rfl, g4⟩ := h4.go enc w _ _ _ r4
  exact ⟨(a1, a2, a3, a4), by rw [hj]; simp, g1, g2, g3, g4⟩
theorem Reads.struct5 (ht : P.underlying T = some (.struct #[d1, d2, d3, d4, d5])) (hn : P.cellsOf T = n) (hT : tight P #[d1, d2, d3, d4, d5] n = true) (h1 : Reads P d1.type f1 G1) (h2 : Reads P d2.type f2 G2) (h3 : Reads P d3.type f3 G3) (h4 : Reads P d4.type f4 G4) (h5 : Reads P d5.type f5 G5) :
    Reads P T (fun a : A1 × A2 × A3 × A4 × A5 => f1 a.1 ++ (f2 a.2.1 ++ (f3 a.2.2.1 ++ (f4 a.2.2.2.1 ++ f5 a.2.2.2.2)))) (fun w a => G1 w a.1 ∧ G2 w a.2.1 ∧ G3 w a.2.2.1 ∧ G4 w a.2.2.2.1 ∧ G5 w a.2.2.2.2) := .mk fun enc w fuel cs x hx => by
  obtain ⟨hj, hl, hf⟩ := Reads.struct ht hn hT hx
  obtain ⟨p1, p2, p3, p4, p5, hp⟩ := list5 hl
  rw [hp] at hj hf
  obtain ⟨_, _, r1⟩ := hf 0 d1 p1 rfl rfl
  obtain ⟨_, _, r2⟩ := hf 1 d2 p2 rfl rfl
  obtain ⟨_, _, r3⟩ := hf 2 d3 p3 rfl rfl
  obtain ⟨_, _, r4⟩ := hf 3 d4 p4 rfl rfl
  obtain ⟨_, _, r5⟩ := hf 4 d5 p5 rfl rfl
  obtain ⟨a1, rfl, g1⟩ := h1.go enc w _ _ _ r1
  obtain ⟨a2, rfl, g2⟩ := h2.go enc w _ _ _ r2
  obtain ⟨a3, rfl, g3⟩ := h3.go enc w _ _ _ r3
  obtain ⟨a4, rfl, g4⟩ := h4.go enc w _ _ _ r4
  obtain ⟨a5, rfl, g5⟩ := h5.go enc w _ _ _ r5
  exact ⟨(a1, a2, a3, a4, a5), by rw [hj]; simp, g1, g2, g3, g4, g5⟩
theorem Reads.struct6 (ht : P.underlying T = some (.struct #[d1, d2, d3, d4, d5, d6])) (hn : P.cellsOf T = n) (hT : tight P #[d1, d2, d3, d4, d5, d6] n = true) (h1 : Reads P d1.type f1 G1) (h2 : Reads P d2.type f2 G2) (h3 : Reads P d3.type f3 G3) (h4 : Reads P d4.type f4 G4) (h5 : Reads P d5.type f5 G5) (h6 : Reads P d6.type f6 G6) :
    Reads P T (fun a : A1 × A2 × A3 × A4 × A5 × A6 => f1 a.1 ++ (f2 a.2.1 ++ (f3 a.2.2.1 ++ (f4 a.2.2.2.1 ++ (f5 a.2.2.2.2.1 ++ f6 a.2.2.2.2.2))))) (fun w a => G1 w a.1 ∧ G2 w a.2.1 ∧ G3 w a.2.2.1 ∧ G4 w a.2.2.2.1 ∧ G5 w a.2.2.2.2.1 ∧ G6 w a.2.2.2.2.2) := .mk fun enc w fuel cs x hx => by
  obtain ⟨hj, hl, hf⟩ := Reads.struct ht hn hT hx
  obtain ⟨p1, p2, p3, p4, p5, p6, hp⟩ := list6 hl
  rw [hp] at hj hf
  obtain ⟨_, _, r1⟩ := hf 0 d1 p1 rfl rfl
  obtain ⟨_, _, r2⟩ := hf 1 d2 p2 rfl rfl
  obtain ⟨_, _, r3⟩ := hf 2 d3 p3 rfl rfl
  obtain ⟨_, _, r4⟩ := hf 3 d4 p4 rfl rfl
  obtain ⟨_, _, r5⟩ := hf 4 d5 p5 rfl rfl
  obtain ⟨_, _, r6⟩ := hf 5 d6 p6 rfl rfl
  obtain ⟨a1, rfl, g1⟩ := h1.go enc w _ _ _ r1
  obtain ⟨a2, rfl, g2⟩ := h2.go enc w _ _ _ r2
  obtain ⟨a3, rfl, g3⟩ := h3.go enc w _ _ _ r3
  obtain ⟨a4, rfl, g4⟩ := h4.go enc w _ _ _ r4
  obtain ⟨a5, rfl, g5⟩ := h5.go enc w _ _ _ r5
  obtain ⟨a6, rfl, g6⟩ := h6.go enc w _ _ _ r6
  exact ⟨(a1, a2, a3, a4, a5, a6), by rw [hj]; simp, g1, g2, g3, g4, g5, g6⟩
end

/-! ### arrays -/
theorem pieces_same (sz : Nat) : ∀ (n : Nat) (cs : List Value) (i : Nat), i < n → (pieces (List.replicate n sz) cs)[i]? = some ((cs.drop (i * sz)).take sz)
  | 0, _, _, h => by omega
  | n + 1, cs, 0, _ => by simp [List.replicate_succ, pieces]
  | n + 1, cs, i + 1, h => by
    simp only [List.replicate_succ, pieces, List.getElem?_cons_succ]
    rw [pieces_same sz n _ i (by omega), List.drop_drop, Nat.add_mul, Nat.one_mul, Nat.add_comm]
theorem choose_list {A B : Type} (Q : B → A → Prop) : ∀ (l : List B), (∀ b ∈ l, ∃ a, Q b a) → ∃ as : List A, as.length = l.length ∧ ∀ (i : Nat) (b : B) (a : A), l[i]? = some b → as[i]? = some a → Q b a
  | [], _ => ⟨[], rfl, fun i b a h => by simp at h⟩
  | b :: r, h => by
    obtain ⟨a, ha⟩ := h b (.head _)
    obtain ⟨as, h1, h2⟩ := choose_list Q r fun b hb => h b (.tail _ hb)
    refine ⟨a :: as, by simp [h1], fun i b' a' hb' ha' => ?_⟩
    cases i with
    | zero => simp at hb' ha'; subst hb'; subst ha'; exact ha
    | succ i => exact h2 i b' a' (by simpa using hb') (by simpa using ha')
theorem Reads.array {A : Type} {f : A → List Value} {G : World → A → Prop} {n sz : Nat} (ht : P.underlying T = some (.array n E)) (hn : P.cellsOf T = n * sz) (hE : P.cellsOf E = sz) (h : Reads P E f G) :
    Reads P T (fun l : List A => flat f l) (fun w l => l.length = n ∧ ∀ a ∈ l, G w a) := .mk fun enc w fuel cs x hx => by
  obtain ⟨xs, m, -, -, hl, hlen, hf⟩ := DataW.trod_array ht hx
  rw [hE] at hf
  have hplen : (pieces (List.replicate n sz) cs).length = n := by
    have : ∀ (ns : List Nat) (cs : List Value), (pieces ns cs).length = ns.length := by
      intro ns
      induction ns with
      | nil => intro cs; rfl
      | cons a r ih => intro cs; simp [pieces, ih]
    rw [this]; simp
  obtain ⟨as, h1, h2⟩ := choose_list (fun p a => p = f a ∧ G w a) (pieces (List.replicate n sz) cs) fun p hp => by
    obtain ⟨i, hi, rfl⟩ := List.mem_iff_getElem.1 hp
    have hi' : i < n := by omega
    have e := pieces_same sz n cs i hi'
    rw [List.getElem?_eq_getElem hi] at e
    have e := Option.some.inj e
    rw [e]
    have h3 := hf i hi'
    rw [List.getElem?_eq_getElem (by omega)] at h3
    exact h.go enc w _ _ _ h3
  refine ⟨as, ?_, by omega, fun a ha => ?_⟩
  · have hj := pieces_join (List.replicate n sz) cs (by rw [hl, hn]; simp)
    refine hj.symm.trans ?_
    show _ = (as.map f).flatten
    congr 1
    refine List.ext_getElem (by simp; omega) fun i hi1 hi2 => ?_
    simp only [List.getElem_map]
    exact (h2 i _ _ (List.getElem?_eq_getElem hi1) (List.getElem?_eq_getElem (by simpa using hi2))).1
  · obtain ⟨i, hi, rfl⟩ := List.mem_iff_getElem.1 ha
    exact (h2 i _ _ (List.getElem?_eq_getElem (by omega)) (List.getElem?_eq_getElem hi)).2

/-! ### slices -/
theorem cell_lt {w : World} {a : Addr} {v : Value} (h : w.cell? a = some v) : a.block < w.heap.size := by
  rcases Nat.lt_or_ge a.block w.heap.size with h1 | h1
  · exact h1
  · unfold World.cell? at h
    rw [Array.getElem?_eq_none h1] at h
    simp at h
theorem cells_row {w : World} {b off sz : Nat} {spot : Option Nat} {cs : List Value} (h : w.cells? 0 ⟨b, off, spot⟩ sz = some cs) (h0 : 0 < sz) : spot = none ∧ RowAt w b off cs := by
  obtain ⟨_, hl, hc⟩ := World.cells?_some h
  have hs : spot = none := by
    have := hc 0 h0
    rw [List.getElem?_eq_getElem (by omega)] at this
    simpa [Addr.add] using World.cell?_spot this
  subst hs
  refine ⟨rfl, ?_, fun j v hv => ?_⟩
  · have := hc 0 h0
    rw [List.getElem?_eq_getElem (by omega)] at this
    exact cell_lt this
  · have hj : j < sz := by rw [← hl]; exact (List.getElem?_eq_some_iff.1 hv).1
    have := hc j hj
    rw [hv, addr_add, addO_eq] at this
    exact this
structure Sld (A : Type) where
  ad : Option Addr
  l : List A
  cap : Nat
def Sld.v {A : Type} (s : Sld A) : Value := .slice s.ad s.l.length s.cap
theorem Reads.slice {A : Type} {f : A → List Value} {G : World → A → Prop} {sz : Nat} (ht : P.underlying T = some (.slice E)) (hE : P.cellsOf E = sz) (h0 : 0 < sz) (h : Reads P E f G) :
    Reads P T (fun s : Sld A => [s.v]) (fun w s => SlAt w s.ad sz (s.l.map f) ∧ s.l.length ≤ s.cap ∧ s.cap ≤ maxLen ∧ ∀ a ∈ s.l, G w a) := .mk fun enc w fuel cs x hx => by
  rcases DataW.trod_slice ht hx with ⟨rfl, _⟩ | ⟨a, len, cap, elems, rest, n, _, rfl, _, hb, hl, hm, hlen, hel, _⟩
  · exact ⟨⟨none, [], 0⟩, rfl, SlAt.nil, Nat.le_refl _, Nat.zero_le _, fun a ha => by cases ha⟩
  rw [hE] at hel
  have hget : ∀ i ∈ List.range len, ∃ a' : A, w.cells? 0 (a.add (i * sz)) sz = some (f a') ∧ G w a' := fun i hi => by
    have hi := List.mem_range.1 hi
    have h1 := hel i hi
    rw [List.getElem?_eq_getElem (by omega)] at h1
    obtain ⟨cs', h2, h3⟩ := Option.bind_eq_some_iff.1 h1
    obtain ⟨a', rfl, g⟩ := h.go enc w _ _ _ h3
    exact ⟨a', h2, g⟩
  obtain ⟨as, h1, h2⟩ := choose_list (fun i a' => w.cells? 0 (a.add (i * sz)) sz = some (f a') ∧ G w a') (List.range len) hget
  rw [List.length_range] at h1
  have hq : ∀ i (hi : i < as.length), w.cells? 0 (a.add (i * sz)) sz = some (f as[i]) ∧ G w as[i] := fun i hi => h2 i i _ (by rw [List.getElem?_range (by omega)]) (List.getElem?_eq_getElem hi)
  refine ⟨⟨some a, as, cap⟩, by show [Value.slice (some a) len cap] = [Value.slice (some a) as.length cap]; rw [h1], fun h3 => ?_, by dsimp only; omega, hm, fun a' ha => ?_⟩
  · dsimp only at h3 ⊢
    simp only [List.length_map] at h3
    obtain ⟨b, off, spot⟩ := a
    have e0 := (hq 0 h3).1
    rw [Nat.zero_mul] at e0
    have hs := (cells_row (spot := spot) (by simpa [Addr.add] using e0) h0).1
    subst hs
    refine ⟨b, off, rfl, fun i cs hi => ?_⟩
    have hil : i < as.length := by simpa using (List.getElem?_eq_some_iff.1 hi).1
    have e := (hq i hil).1
    rw [addr_add, addO_eq] at e
    rw [List.getElem?_map, List.getElem?_eq_getElem hil] at hi
    have hi := Option.some.inj hi
    subst hi
    exact (cells_row e h0).2
  · obtain ⟨i, hi, rfl⟩ := List.mem_iff_getElem.1 ha
    exact (hq i hi).2

/-! ### at an argument -/
theorem Reads.arg {A : Type} {f : A → List Value} {G : World → A → Prop} (h : Reads P T f G) {H : Type} {enc : TypeId × Value → H} {W : World} {v : Value} {d : DataW H} {ps : List MemPlace} (hv : DataW.Trod enc P W 0 (fun _ => true) true T v d ps) : ∃ a, v.cells.toList = f a ∧ G W a := by
  obtain ⟨fuel, hf⟩ := hv
  exact h.go enc W _ _ _ hf
theorem Reads.argSlice {A : Type} {G : World → Sld A → Prop} (h : Reads P T (fun s : Sld A => [s.v]) G) (ht : P.underlying T = some (.slice E)) {H : Type} {enc : TypeId × Value → H} {W : World} {r : Reach} {base : Nat} {v : Value} {d : DataW H} {ps : List MemPlace} (hk : Value.okWide P W r base T v) (hv : DataW.Trod enc P W 0 (fun _ => true) true T v d ps) : ∃ s, v = s.v ∧ G W s := by
  obtain ⟨a, n, c, rfl⟩ := okWide_slice ht hk
  obtain ⟨s, h1, h2⟩ := h.arg hv
  refine ⟨s, ?_, h2⟩
  simpa [Value.cells] using h1
theorem Reads.argAgg {A : Type} {f : A → List Value} {G : World → A → Prop} (h : Reads P T f G) {H : Type} {enc : TypeId × Value → H} {W : World} {v : Value} {d : DataW H} {ps : List MemPlace} (hk : ∃ cs, v = .agg cs) (hv : DataW.Trod enc P W 0 (fun _ => true) true T v d ps) : ∃ a, v = .agg (f a).toArray ∧ G W a := by
  obtain ⟨cs, rfl⟩ := hk
  obtain ⟨a, h1, h2⟩ := h.arg hv
  refine ⟨a, ?_, h2⟩
  have : cs.toList = f a := h1
  rw [← this]
theorem okWide_array {n : Nat} {r : Reach} {base : Nat} {W : World} {v : Value} (ht : P.underlying T = some (.array n E)) (h : Value.okWide P W r base T v) : ∃ cs, v = .agg cs := by
  unfold Value.okWide at h
  rw [ht] at h
  obtain ⟨cs, h1, _⟩ := h
  exact ⟨cs, h1⟩
end Go.Sl
