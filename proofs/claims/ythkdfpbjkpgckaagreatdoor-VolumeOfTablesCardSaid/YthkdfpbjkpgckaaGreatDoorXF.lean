/-
  Contract of the law's table: the duration table of stages.
-/
import Derived.Test.YthkdfpbjkpgckaaGreatDoorXE
import Derived.ProofKit
set_option linter.unusedVariables false
set_option linter.unusedSimpArgs false
set_option linter.unusedSectionVars false
namespace Go.Sl
open Go.RowKit
/-- An element of an array's value. -/
theorem G.ixv {C : Ctx} {st : List (Nat × Value)} {M : List Row} {k : List Item} {q q' : Md} {all rest : List Oper} {d : Nat} {ty : TypeId} {pos : String} {after : Array Edge} {gd : Option (Nat × Bool)} {T len E sz i : Nat} {x y : Operand} {cs : List Value} {v : Value} {ki : IntKind} {e : Int}
    (hx : evS st x = some (.agg cs.toArray)) (hy : evS st y = some (.int ki e)) (he : e = (i : Int)) (hi : i < len) [hT : TArr C.P T len E sz] [hE : TPlain C.P E] (hz : sz = 1) (hv : cs[i]? = some v) (hs : sideB all st gd d C.N q.calm = some q') (h : G q' C all ((d, v) :: st) M rest k) :
    G q C all st M ({ dst := some d, op := .index T x y, type := ty, pos, after, guard := gd } :: rest) k := by
  obtain ⟨g1, g2, g3⟩ := sideB_ok hs
  refine G.op (OpV.of fun a w hf _ dst pos after guard => ?_) g1 rfl g2 g3 h
  subst he hz
  have h0 : (0 : Int) ≤ (i : Int) ∧ (i : Int) < (len : Int) := by omega
  have hu : ∀ w, (underlying T).run C.P w = .ok (.array len E) w := fun w => by simp [underlying, hT.h1]
  simp only [execOp, hf.eval hx, hf.eval hy, Instr.index, asIntOf, Sem.run_bind, Sem.run_pure, Result.andThen_ok, hu]
  rw [if_pos h0]
  simp only [Sem.run_bind, hT.h2, Result.andThen_ok, part, hE.h, Int.toNat_natCast, Nat.mul_one]
  simp [hv]
end Go.Sl
namespace Go.Proofs
open Go.Sl
instance : TZero Tryz.prog 120 (List.replicate 1001 (.int .i64 0)) := ⟨fun w => ⟨_, Tryz.zeroValue120 w, by kernel_rfl⟩⟩
end Go.Proofs
namespace Go.Proofs.YthkdfpbjkpgckaaGreatDoor
open Go.RowKit Go.Sl Go.Num
/-- How often a stage comes. -/
def nIn (x : Int) : List Int → Int
  | [] => 0
  | y :: r => (if y = x then 1 else 0) + nIn x r
theorem nIn_bd (x : Int) : ∀ l : List Int, 0 ≤ nIn x l ∧ nIn x l ≤ l.length
  | [] => ⟨Int.le_refl _, Int.le_refl _⟩
  | y :: r => by
    have := nIn_bd x r
    rw [nIn, List.length_cons]
    split <;> omega
/-- The stages that come, with their counts. -/
def tabD : Nat → List Int → List (Int × Int)
  | _, [] => []
  | s, n :: r => if 0 < n then ((s : Int), n) :: tabD (s + 1) r else tabD (s + 1) r
def tabT (seg : List Int) : List (Int × Int) := tabD 0 ((List.range 1001).map fun s : Nat => nIn (s : Int) seg)
theorem tabD_len : ∀ (l : List Int) (s : Nat), (tabD s l).length ≤ l.length
  | [], _ => Nat.le_refl _
  | n :: r, s => by
    have := tabD_len r (s + 1)
    rw [tabD]
    split <;> simp only [List.length_cons] <;> omega
theorem hoV_len (x : Int × Int) : (hoV x).length = 2 := rfl
theorem is_set {p : List Int} {j : Nat} {v : Int} (h : j < p.length) : setL (flat isV p) (0 + j * 1) [.int .i64 v] = flat isV (p.set j v) := flat_set1 isV_len h rfl
theorem is_get : ∀ {p : List Int} {j : Nat} (h : j < p.length), (flat isV p)[0 + j * 1]? = some (.int .i64 p[j])
  | x :: p, 0, _ => rfl
  | x :: p, j + 1, h => by
    have := is_get (p := p) (j := j) (by simpa using h)
    rw [Nat.zero_add, Nat.mul_one] at this ⊢
    rw [flat_cons]
    simpa [isV] using this
theorem is_rep : ∀ n : Nat, flat isV (List.replicate n 0) = List.replicate n (.int .i64 0)
  | 0 => rfl
  | n + 1 => by rw [List.replicate_succ, List.replicate_succ, flat_cons, is_rep n]; rfl
set_option maxHeartbeats 4000000 in
theorem table_holds (f : Int) (a : Option Addr) (seg : List Int) (c : Nat) (w : World) (hA : SlAt w a 1 (seg.map isV)) (hl : seg.length ≤ 1000) (hb : ∀ i (hi : i < seg.length), 0 ≤ seg[i] ∧ seg[i] ≤ 1000) (hf : 0 ≤ f ∧ f ≤ 1402560) :
    Calls Tryz.prog 33 #[.int .i64 f, .slice a seg.length c] w fun e w' => ∃ a' c', e = .returned (.agg #[.int .i64 f, .int .i64 (f + seg.length), .slice a' (tabT seg).length c', .int .i64 0, .int .i64 0]) ∧ SlAt w' a' 2 ((tabT seg).map hoV) ∧ (∀ p, a' = some p → w.heap.size ≤ p.block) ∧ Below w.heap.size w w' := by
  generalize hT : tabT seg = T
  rw [tabT] at hT
  refine enterA [(0, .int .i64 f), (1, .slice a seg.length c)] Tryz.func33 Tryz.ntmps33 ?_
  all_goals (refine go ?_; and_intros <;> (try exact trivial) <;> intros)
  rename_i b4 b5
  rw [← is_rep]
  refine J.loop (c := _) ((0, List.replicate 1001 0) : Nat × List Int) (fun s => seg.length - s.1) (fun s => [(0, .int .i64 f), (1, .slice a seg.length c), (4, .pointer (some ⟨b4, 0, none⟩)), (5, .pointer (some ⟨b5, 0, none⟩)), (11, .slice a seg.length c), (12, .int .i64 seg.length), (13, .int .i64 s.1)]) (fun s => [.blk b5 120 (flat isV s.2) (flat isV (List.replicate 1001 0)).length, .blk b4 28 [.int .i64 0, .int .i64 0, .slice none 0 0, .int .i64 0, .int .i64 0] 5]) (fun s => s.1 ≤ seg.length ∧ s.2.length = 1001 ∧ ∀ x (hx : x < s.2.length), s.2[x] + nIn (x : Int) (seg.drop s.1) = nIn (x : Int) seg) ?_ sbT sbL ?_
  · exact ⟨Nat.zero_le _, List.length_replicate, fun x hx => by dsimp only; rw [List.getElem_replicate, List.drop_zero, Int.zero_add]⟩
  intro ⟨i, L⟩ ⟨h1, h2, h3⟩ ih
  dsimp only at h1 h2 h3 ⊢
  by_cases hi : i < seg.length
  · obtain ⟨ba, oa, rfl, hra⟩ := SlAt.all hA (by omega)
    have hri := hra i hi
    have hbi := hb i hi
    rw [List.drop_eq_getElem_cons hi] at h3
    simp only [nIn] at h3
    clear hra hb
    generalize seg[i] = z at *
    obtain ⟨n, rfl⟩ : ∃ n : Nat, z = n := ⟨z.toNat, by omega⟩
    have hn : n < L.length := by omega
    have q1 := is_get hn
    have q2 := is_set (v := L[n] + 1) hn
    have l9 : (flat isV L).length = L.length := by rw [flat_len isV_len, Nat.mul_one]
    have hu := h3 n hn
    have u1 := nIn_bd n seg
    have u2 := nIn_bd n (seg.drop (i + 1))
    rw [List.length_drop] at u2
    rw [if_pos rfl] at hu
    have hnx : ∀ x (hx : x < (L.set n (L[n] + 1)).length), (L.set n (L[n] + 1))[x] + nIn (x : Int) (seg.drop (i + 1)) = nIn (x : Int) seg := fun x hx => by
      rw [List.length_set] at hx
      have := h3 x hx
      rw [List.getElem_set]
      split
      · rename_i e; subst e; rw [if_pos rfl] at this; omega
      · rename_i e; rw [if_neg (by omega)] at this; omega
    have hin := ih (i + 1, L.set n (L[n] + 1)) ⟨hi, by dsimp only; rw [List.length_set]; exact h2, hnx⟩ (by dsimp only; omega)
    generalize L[n] = v at *
    clear h3 hnx ih
    dsimp only [isV] at *
    all_goals (refine go ?_; and_intros <;> (try exact trivial) <;> intros)
    repeat' ((first | (apply G.indexArr (i := n) (o' := 0 + n * 1); rfl; rfl; rfl; omega; exact addO_eq _ _; rfl; rfl; rfl) | (apply G.ld; rfl; (apply LdV.one; exact CellV.blk (by exact mm) q1); rfl) | (apply G.s1; rfl; rfl; rfl; (repeat (first | exact RAt.head | apply RAt.tail)); exact ⟨rfl, rfl⟩; omega; exact q2)) <;> (refine go ?_; and_intros <;> (try exact trivial) <;> intros))
    exact J.fin hin
  obtain rfl : i = seg.length := by omega
  rw [List.drop_length] at h3
  have hL : L = (List.range 1001).map fun s : Nat => nIn (s : Int) seg := by
    apply List.ext_getElem
    · simp [h2]
    intro x hx _
    have := h3 x hx
    simp only [nIn, Int.add_zero] at this
    rw [this]; simp
  rw [← hL] at hT
  have hbL : ∀ x (hx : x < L.length), 0 ≤ L[x] ∧ L[x] ≤ 1000 := fun x hx => by
    have := h3 x hx
    have := nIn_bd x seg
    simp only [nIn] at *
    omega
  clear ih hL h3
  have l9 : (flat isV L).length = 1001 := by rw [flat_len isV_len, Nat.mul_one]; exact h2
  all_goals (refine go ?_; and_intros <;> (try exact trivial) <;> intros)
  repeat' ((first | (apply G.ld; rfl; (apply LdV.aggBlk; exact mm; exact l9); rfl)) <;> (refine go ?_; and_intros <;> (try exact trivial) <;> intros))
  apply J.nilOwn (E := 88) (size := 2)
  rename_i b8 _
  refine J.loop (c := _) ((0, none, 0, 0, []) : Nat × Option Addr × Nat × Nat × List (Int × Int)) (fun s => 1001 - s.1) (fun s => [(4, .pointer (some ⟨b4, 0, none⟩)), (8, .pointer (some ⟨b8, 0, none⟩)), (29, .agg (flat isV L).toArray), (30, .int .i64 s.1)]) (fun s => [.own 0 (.slice s.2.1 s.2.2.2.1 s.2.2.1) 88 2 s.2.2.2.1 (flat hoV s.2.2.2.2), .blk b8 28 [.int .i64 f, .int .i64 (f + seg.length), .slice s.2.1 s.2.2.2.1 s.2.2.1, .int .i64 0, .int .i64 0] 5, .blk b4 28 [.int .i64 0, .int .i64 0, .slice none 0 0, .int .i64 0, .int .i64 0] 5]) (fun s => s.1 ≤ 1001 ∧ s.2.2.2.2.length = s.2.2.2.1 ∧ s.2.2.2.1 ≤ s.1 ∧ s.2.2.2.2 ++ tabD s.1 (L.drop s.1) = T) ?_ sbT sbL ?_
  · exact ⟨Nat.zero_le _, rfl, Nat.le_refl _, hT⟩
  intro ⟨x, au, cu, j, o⟩ ⟨e1, e2, e3, e4⟩ ih
  dsimp only at e1 e2 e3 e4 ⊢
  by_cases hx : x < 1001
  · have hx2 : x < L.length := by omega
    have q3 : (flat isV L)[x]? = some (.int .i64 L[x]) := by have := is_get hx2; rwa [Nat.zero_add, Nat.mul_one] at this
    rw [List.drop_eq_getElem_cons hx2, tabD] at e4
    have hbx := hbL x hx2
    generalize L[x] = v at *
    by_cases hv : 0 < v
    · rw [if_pos hv, List.append_cons] at e4
      all_goals (refine goR ?_; and_intros <;> (try exact trivial) <;> intros)
      repeat' ((first | (apply G.ixv (i := x); rfl; rfl; rfl; omega; rfl; exact q3; rfl) | (apply J.regA (.q 0 <| .q 1 <| .q 2 <| .q 3 <| .q 4 <| .e 5 <| .r 6 <| .q 7 <| .r 8 <| .nil); exact Tryz.mixed; decide +kernel) | (apply G.sliceL; rfl; rfl; rfl; rfl; rfl; rfl; rfl; rfl; intro Bs) | (apply G.apV; rfl; rfl; rfl; (repeat (first | exact RAt.head | apply RAt.tail)); exact SrcV.blk (by exact mm) rfl rfl; exact flat1 hoV o ((x : Int), v); omega; omega; intro a2 c2) | (apply G.s1 (v := .slice a2 (j + 1) c2); rfl; rfl; rfl; (repeat (first | exact RAt.head | apply RAt.tail)); exact ⟨rfl, rfl⟩; exact Nat.le_of_ble_eq_true rfl; rfl) | (apply J.regQ; exact Tryz.mixed; decide +kernel) | (apply J.regL'; exact Tryz.mixed; decide +kernel)) <;> (refine goR ?_; and_intros <;> (try exact trivial) <;> intros))
      exact J.fin (ih (x + 1, a2, c2, j + 1, o ++ [((x : Int), v)]) ⟨hx, by simp [e2], by dsimp only; omega, e4⟩ (by dsimp only; omega))
    · rw [if_neg hv] at e4
      all_goals (refine go ?_; and_intros <;> (try exact trivial) <;> intros)
      repeat' ((first | (apply G.ixv (i := x); rfl; rfl; rfl; omega; rfl; exact q3; rfl)) <;> (refine go ?_; and_intros <;> (try exact trivial) <;> intros))
      exact J.fin (ih (x + 1, au, cu, j, o) ⟨hx, e2, by dsimp only; omega, e4⟩ (by dsimp only; omega))
  obtain rfl : x = 1001 := by omega
  rw [List.drop_eq_nil_of_le (by omega), tabD, List.append_nil] at e4
  subst e4 e2
  clear ih
  all_goals (refine go ?_; and_intros <;> (try exact trivial) <;> intros)
  refine ret1 Tryz.func33 Tryz.results33 ?_
  intro w' hw'
  have hm : Row.own 0 (.slice au o.length cu) 88 2 o.length (flat hoV o) ∈ ([.own 0 (.slice au o.length cu) 88 2 o.length (flat hoV o)] : List Row) := List.mem_singleton.2 rfl
  have ho := hw'.hold (Row.own 0 (.slice au o.length cu) 88 2 o.length (flat hoV o)) (by exact mm)
  refine ⟨au, cu, rfl, SlAt.ofOwn hoV_len ho rfl, ?_, hw'.below⟩
  rintro p rfl
  exact ((hw'.old (Row.own 0 (.slice (some p) o.length cu) 88 2 o.length (flat hoV o)) (by exact mm)).2 p.block rfl).1
end Go.Proofs.YthkdfpbjkpgckaaGreatDoor
