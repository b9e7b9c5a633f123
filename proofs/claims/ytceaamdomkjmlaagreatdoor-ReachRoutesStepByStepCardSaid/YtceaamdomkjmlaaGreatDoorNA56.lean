/-
  Contracts of kernels: Compose of both.
-/
import Derived.Test.YtceaamdomkjmlaaGreatDoorNA55
set_option linter.unusedVariables false
set_option linter.unusedSimpArgs false
set_option linter.unusedSectionVars false
namespace Go.Proofs.YtceaamdomkjmlaaGreatDoor
open Go.RowKit Go.Sl Go.Num
theorem red_wOk {k : List Int} (h : Ker k) : wOk (red k) := by
  have hp := h.pos
  obtain ⟨n, h1, h2, _⟩ := hp.len_red
  have h3 := h.len
  refine ⟨fun w hw => ?_, by omega⟩
  have h4 := (red_pos hp).1 w hw
  have h5 := elem_le (red_pos hp).1 w hw
  have h6 := sum_red hp
  have h7 := hp.cont
  have h8 : sumL (red k) ≤ (contF 0 k : Int) * sumL (red k) := by
    have := sumL_nn (red_pos hp).1
    have := Int.mul_le_mul_of_nonneg_right (show (1 : Int) ≤ contF 0 k by omega) this
    omega
  have := h.sum
  omega
theorem vCompose_holds (a b : Option Addr) (k l : List Int) (c d : Nat) (w : World) (hA : SlAt w a 1 (k.map isV)) (hB : SlAt w b 1 (l.map isV)) :
    Calls Tryz.prog 33 #[.agg #[.slice a k.length c], .agg #[.slice b l.length d]] w (RetI (fun v => .tuple #[.agg #[v], .int .i64 (compE k l).2]) w (compE k l).1) := by
  have h1 := fun w' (hb : Below w.heap.size w w') => kCheck_holds a k c w' (hA.below hb)
  have h2 := fun w' (hb : Below w.heap.size w w') => kCheck_holds b l d w' (hB.below hb)
  rw [compE]
  by_cases e1 : kerErr k = 0
  case neg =>
    rw [if_pos e1]
    dsimp only
    generalize kerErr k = E at *
    refine enterA [(0, .agg #[.slice a k.length c]), (1, .agg #[.slice b l.length d])] Tryz.func33 Tryz.ntmps33 ?_
    all_goals (refine go ?_; and_intros <;> (try exact trivial) <;> repeat (first | refine fun (Bk : Nat) => ?_ | intro h))
    repeat' ((first | (apply G.cV (g := 62) (vs := [.agg #[.slice a k.length c]]); rfl; rfl; exact fun w' hw' => h1 w' hw'.below) | (apply G.cV (g := 62) (vs := [.agg #[.slice b l.length d]]); rfl; rfl; exact fun w' hw' => h2 w' hw'.below)) <;> (refine go ?_; and_intros <;> (try exact trivial) <;> repeat (first | refine fun (Bk : Nat) => ?_ | intro h)))
    (refine ret2 Tryz.func33 Tryz.results33 ?_; intro w' hw)
    exact retI_nil (fun v => .tuple #[.agg #[v], .int .i64 E]) hw.below
  rw [if_neg (fun h => h e1)]
  have k1 := ker_of e1
  rw [e1] at h1
  by_cases e2 : kerErr l = 0
  case neg =>
    rw [if_pos e2]
    dsimp only
    generalize kerErr l = E at *
    refine enterA [(0, .agg #[.slice a k.length c]), (1, .agg #[.slice b l.length d])] Tryz.func33 Tryz.ntmps33 ?_
    all_goals (refine go ?_; and_intros <;> (try exact trivial) <;> repeat (first | refine fun (Bk : Nat) => ?_ | intro h))
    repeat' ((first | (apply G.cV (g := 62) (vs := [.agg #[.slice a k.length c]]); rfl; rfl; exact fun w' hw' => h1 w' hw'.below) | (apply G.cV (g := 62) (vs := [.agg #[.slice b l.length d]]); rfl; rfl; exact fun w' hw' => h2 w' hw'.below)) <;> (refine go ?_; and_intros <;> (try exact trivial) <;> repeat (first | refine fun (Bk : Nat) => ?_ | intro h)))
    (refine ret2 Tryz.func33 Tryz.results33 ?_; intro w' hw)
    exact retI_nil (fun v => .tuple #[.agg #[v], .int .i64 E]) hw.below
  rw [if_neg (fun h => h e2)]
  have k2 := ker_of e2
  rw [e2] at h2
  have r1 := fun w' (hb : Below w.heap.size w w') => vReduced_holds a k c w' (hA.below hb) k1.wOk k1.pos
  have r2 := fun w' (hb : Below w.heap.size w w') => vReduced_holds b l d w' (hB.below hb) k2.wOk k2.pos
  have wx := red_wOk k1
  have wy := red_wOk k2
  have px := red_pos k1.pos
  have py := red_pos k2.pos
  obtain ⟨n1, lx, n2, _⟩ := k1.pos.len_red
  obtain ⟨m1, ly, m2, _⟩ := k2.pos.len_red
  have g1 := k1.len
  have g2 := k2.len
  generalize red k = x at *
  generalize red l = y at *
  have sx := pos_sum px.1 px.2
  have sy := pos_sum py.1 py.2
  by_cases e3 : 400 < x.length + y.length - 1
  · rw [if_pos e3]
    dsimp only
    refine enterA [(0, .agg #[.slice a k.length c]), (1, .agg #[.slice b l.length d])] Tryz.func33 Tryz.ntmps33 ?_
    all_goals (refine goR ?_; and_intros <;> (try exact trivial) <;> repeat (first | refine fun (Bk : Nat) => ?_ | intro h))
    repeat' ((first | (apply G.cV (g := 62) (vs := [.agg #[.slice a k.length c]]); rfl; rfl; exact fun w' hw' => h1 w' hw'.below) | (apply G.cV (g := 62) (vs := [.agg #[.slice b l.length d]]); rfl; rfl; exact fun w' hw' => h2 w' hw'.below) | (apply J.regQ; exact Tryz.mixed; decide +kernel) | (apply J.regA (.q 0 <| .q 2 <| .e 1 <| .r 3 <| .r 4 <| .r 5 <| .nil); exact Tryz.mixed; decide +kernel) | (apply G.cN (g := 65) (vs := [.agg #[.slice a k.length c]]) (fun a' c' => .agg #[.slice a' x.length c']) (x.map isV); rfl; rfl; exact fun w' hw' => r1 w' hw'.below; intro a1 c1 hp1 hq1) | (apply G.cN (g := 65) (vs := [.agg #[.slice b l.length d]]) (fun a' c' => .agg #[.slice a' y.length c']) (y.map isV); rfl; rfl; exact fun w' hw' => r2 w' hw'.below; intro a2 c2 hp2 hq2) | (apply J.regQ; exact Tryz.mixed; decide +kernel) | (apply J.regL'; exact Tryz.mixed; decide +kernel)) <;> (refine goR ?_; and_intros <;> (try exact trivial) <;> repeat (first | refine fun (Bk : Nat) => ?_ | intro h)))
    (refine ret2 Tryz.func33 Tryz.results33 ?_; intro w' hw)
    exact retI_nil (fun v => .tuple #[.agg #[v], .int .i64 2]) hw.below
  rw [if_neg e3]
  by_cases e4 : 999999999999999 / sumL y < sumL x
  · rw [if_pos e4]
    dsimp only
    refine enterA [(0, .agg #[.slice a k.length c]), (1, .agg #[.slice b l.length d])] Tryz.func33 Tryz.ntmps33 ?_
    all_goals (refine goR ?_; and_intros <;> (try exact trivial) <;> repeat (first | refine fun (Bk : Nat) => ?_ | intro h))
    repeat' ((first | (apply G.cV (g := 62) (vs := [.agg #[.slice a k.length c]]); rfl; rfl; exact fun w' hw' => h1 w' hw'.below) | (apply G.cV (g := 62) (vs := [.agg #[.slice b l.length d]]); rfl; rfl; exact fun w' hw' => h2 w' hw'.below) | (apply J.regQ; exact Tryz.mixed; decide +kernel) | (apply J.regA (.q 0 <| .q 2 <| .e 1 <| .r 3 <| .r 4 <| .r 5 <| .nil); exact Tryz.mixed; decide +kernel) | (apply G.cN (g := 65) (vs := [.agg #[.slice a k.length c]]) (fun a' c' => .agg #[.slice a' x.length c']) (x.map isV); rfl; rfl; exact fun w' hw' => r1 w' hw'.below; intro a1 c1 hp1 hq1) | (apply G.cN (g := 65) (vs := [.agg #[.slice b l.length d]]) (fun a' c' => .agg #[.slice a' y.length c']) (y.map isV); rfl; rfl; exact fun w' hw' => r2 w' hw'.below; intro a2 c2 hp2 hq2) | (apply G.cV (g := 66) (vs := [.agg #[.slice a1 x.length c1]]); rfl; rfl; exact fun w' hw' => total_holds a1 x c1 w' (hw'.sl (by exact mm)) wx) | (apply G.cV (g := 66) (vs := [.agg #[.slice a2 y.length c2]]); rfl; rfl; exact fun w' hw' => total_holds a2 y c2 w' (hw'.sl (by exact mm)) wy) | (apply J.regQ; exact Tryz.mixed; decide +kernel) | (apply J.regL'; exact Tryz.mixed; decide +kernel)) <;> (refine goR ?_; and_intros <;> (try exact trivial) <;> repeat (first | refine fun (Bk : Nat) => ?_ | intro h)))
    (refine ret2 Tryz.func33 Tryz.results33 ?_; intro w' hw)
    exact retI_nil (fun v => .tuple #[.agg #[v], .int .i64 3]) hw.below
  rw [if_neg e4]
  dsimp only
  have hS := quo_mul sx sy e4
  have hcp := convL_pos px py
  have hcl := convL_len x y
  have hcs := convL_sum (a := x) (b := y) (by omega)
  have hN : ((x.length : Int) + y.length - 1) = ((x.length + y.length - 1 : Nat) : Int) := by omega
  have hZ : convF 0 (List.replicate (x.length + y.length - 1) 0) x y = convL x y := rfl
  have hNe : x.length + y.length - 1 + 1 = x.length + y.length := by omega
  generalize convL x y = Z at *
  have wZ : wOk Z := ⟨fun w hw => ⟨hcp.1 w hw, by have := elem_le hcp.1 w hw; omega⟩, by omega⟩
  generalize x.length + y.length - 1 = N at *
  refine enterA [(0, .agg #[.slice a k.length c]), (1, .agg #[.slice b l.length d])] Tryz.func33 Tryz.ntmps33 ?_
  all_goals (refine goR ?_; and_intros <;> (try exact trivial) <;> repeat (first | refine fun (Bk : Nat) => ?_ | intro h))
  repeat' ((first | (apply G.cV (g := 62) (vs := [.agg #[.slice a k.length c]]); rfl; rfl; exact fun w' hw' => h1 w' hw'.below) | (apply G.cV (g := 62) (vs := [.agg #[.slice b l.length d]]); rfl; rfl; exact fun w' hw' => h2 w' hw'.below) | (apply J.regQ; exact Tryz.mixed; decide +kernel) | (apply J.regA (.q 0 <| .q 2 <| .e 1 <| .r 3 <| .r 4 <| .r 5 <| .nil); exact Tryz.mixed; decide +kernel) | (apply G.cN (g := 65) (vs := [.agg #[.slice a k.length c]]) (fun a' c' => .agg #[.slice a' x.length c']) (x.map isV); rfl; rfl; exact fun w' hw' => r1 w' hw'.below; intro a1 c1 hp1 hq1) | (apply G.cN (g := 65) (vs := [.agg #[.slice b l.length d]]) (fun a' c' => .agg #[.slice a' y.length c']) (y.map isV); rfl; rfl; exact fun w' hw' => r2 w' hw'.below; intro a2 c2 hp2 hq2) | (apply G.cV (g := 66) (vs := [.agg #[.slice a1 x.length c1]]); rfl; rfl; exact fun w' hw' => total_holds a1 x c1 w' (hw'.sl (by exact mm)) wx) | (apply G.cV (g := 66) (vs := [.agg #[.slice a2 y.length c2]]); rfl; rfl; exact fun w' hw' => total_holds a2 y c2 w' (hw'.sl (by exact mm)) wy) | (apply J.regQ; exact Tryz.mixed; decide +kernel) | (apply J.regL'; exact Tryz.mixed; decide +kernel)) <;> (refine goR ?_; and_intros <;> (try exact trivial) <;> repeat (first | refine fun (Bk : Nat) => ?_ | intro h)))
  rw [hN]
  clear h1 h2 r1 r2 hN
  all_goals (refine go ?_; and_intros <;> (try exact trivial) <;> repeat (first | refine fun (Bk : Nat) => ?_ | intro h))
  repeat' ((first | (apply G.make (n := N) [.int .i64 0]; rfl; rfl; rfl; rfl; rfl; rfl; rfl; rfl; omega; omega; intro B)) <;> (refine go ?_; and_intros <;> (try exact trivial) <;> repeat (first | refine fun (Bk : Nat) => ?_ | intro h)))
  obtain ⟨b1, o1, rfl⟩ := hp1 (by rw [List.length_map]; omega)
  obtain ⟨b2, o2, rfl⟩ := hp2 (by rw [List.length_map]; omega)
  rw [flat_zero]
  refine J.loop (c := _) ((0, List.replicate N 0) : Nat × List Int) (fun s => x.length - s.1) (fun s => [(3, .pointer (some ⟨_, 0, none⟩)), (4, .pointer (some ⟨_, 0, none⟩)), (9, .slice (some ⟨B, 0, none⟩) N N), (52, .slice (some ⟨b1, o1, none⟩) x.length c1), (53, .int .i64 x.length), (54, .int .i64 s.1)]) (fun s => [.blk B 3 (flat isV s.2) (N * 1), slRow w.heap.size (some ⟨b2, o2, none⟩) 1 (y.map isV), slRow w.heap.size (some ⟨b1, o1, none⟩) 1 (x.map isV), .blk _ 41 [.slice none 0 0] 1, .blk _ 41 [.slice (some ⟨b2, o2, none⟩) y.length c2] 1]) (fun s => s.1 ≤ x.length ∧ s.2.length = N ∧ (∀ v ∈ s.2, 0 ≤ v) ∧ convF s.1 s.2 (x.drop s.1) y = Z) ?_ sbT sbL ?_
  · exact ⟨Nat.zero_le _, List.length_replicate, fun v hv => by rw [(List.mem_replicate.1 hv).2]; exact Int.le_refl _, hZ⟩
  clear hZ
  intro ⟨i, o⟩ ⟨q1, q2, q3, q4⟩ ih
  dsimp only at q1 q2 q3 q4 ⊢
  by_cases hi : i < x.length
  · have q5 := conv_step q4 hi
    have hxi := px.1 _ (List.getElem_mem hi)
    generalize hO : rowF i x[i] 0 o y = O at q5
    have hOl : O.length = N := by rw [← hO, rowF_len, q2]
    have q6 := conv_bd q5 px.1 py.1 (by omega) (by omega)
    have hOn : ∀ v ∈ O, 0 ≤ v := by rw [← hO]; exact rowF_nn i hxi y 0 o py.1 q3
    have ih := ih (i + 1, O) ⟨hi, hOl, hOn, q5⟩ (by dsimp only; omega)
    all_goals (refine go ?_; and_intros <;> (try exact trivial) <;> repeat (first | refine fun (Bk : Nat) => ?_ | intro h))
    repeat' ((first | (apply G.ld; rfl; (apply LdV.one; exact CellV.sl0 (f := isV) (l := x) (by exact mm) hi rfl); rfl) | (apply G.sl3 (l := i) (h := i + y.length) (m := i + y.length) (off := i) (len := y.length) (cap := y.length); rfl; rfl; rfl; rfl; rfl; rfl; rfl; omega; omega; omega; omega; omega; omega; omega; rfl)) <;> (refine go ?_; and_intros <;> (try exact trivial) <;> repeat (first | refine fun (Bk : Nat) => ?_ | intro h)))
    refine J.loop (c := _) ((0, o) : Nat × List Int) (fun s => y.length - s.1) (fun s => [(3, .pointer (some ⟨_, 0, none⟩)), (4, .pointer (some ⟨_, 0, none⟩)), (9, .slice (some ⟨B, 0, none⟩) N N), (11, .int .i64 x[i]), (12, .slice (some ⟨B, i, none⟩) y.length y.length), (52, .slice (some ⟨b1, o1, none⟩) x.length c1), (53, .int .i64 x.length), (54, .int .i64 i), (73, .slice (some ⟨b2, o2, none⟩) y.length c2), (74, .int .i64 y.length), (75, .int .i64 s.1)]) (fun s => [.blk B 3 (flat isV s.2) (N * 1), slRow w.heap.size (some ⟨b2, o2, none⟩) 1 (y.map isV), slRow w.heap.size (some ⟨b1, o1, none⟩) 1 (x.map isV), .blk _ 41 [.slice none 0 0] 1, .blk _ 41 [.slice (some ⟨b2, o2, none⟩) y.length c2] 1]) (fun s => s.1 ≤ y.length ∧ s.2.length = N ∧ (∀ v ∈ s.2, 0 ≤ v) ∧ rowF i x[i] s.1 s.2 (y.drop s.1) = O) ?_ sbT sbL ?_
    · exact ⟨Nat.zero_le _, q2, q3, hO⟩
    clear hO q2 q3 q4
    intro ⟨j, o⟩ ⟨p1, p2, p3, p4⟩ ih2
    dsimp only at p1 p2 p3 p4 ⊢
    by_cases hj : j < y.length
    · have ⟨u1, u2, u3⟩ := row_bd p4 hxi py.1 p3 (by omega) hj
      have u4 := row_step p4 hj
      have hij : i + j < o.length := by omega
      have ih2 := ih2 (j + 1, o.set (i + j) (co o (i + j) + x[i] * y[j])) ⟨hj, by rw [List.length_set]; exact p2, fun v hv => by
        rcases List.mem_or_eq_of_mem_set hv with hv | rfl
        · exact p3 v hv
        · omega, u4⟩ (by dsimp only; omega)
      have gs : (flat isV o)[i + j * 1]? = some (.int .i64 (co o (i + j))) := get_sw hij
      have ss := set_sw (v := co o (i + j) + x[i] * y[j]) hij
      have sl : i + j * 1 < (flat isV o).length := by rw [isLen]; omega
      clear ih p3 p4 u4
      all_goals (refine go ?_; and_intros <;> (try exact trivial) <;> repeat (first | refine fun (Bk : Nat) => ?_ | intro h))
      repeat' ((first | (apply G.ld; rfl; (apply LdV.one; exact CellV.sl0 (f := isV) (l := y) (by exact mm) hj rfl); rfl) | (apply G.ld; rfl; (apply LdV.one; apply CellV.blk; exact mm; exact gs); rfl) | (apply G.s1; rfl; rfl; rfl; (repeat (first | exact RAt.head | apply RAt.tail)); exact ⟨rfl, rfl⟩; exact sl; exact ss)) <;> (refine go ?_; and_intros <;> (try exact trivial) <;> repeat (first | refine fun (Bk : Nat) => ?_ | intro h)))
      exact J.fin ih2
    · obtain rfl : j = y.length := by omega
      rw [List.drop_length, rowF] at p4
      subst p4
      clear ih2
      all_goals (refine go ?_; and_intros <;> (try exact trivial) <;> repeat (first | refine fun (Bk : Nat) => ?_ | intro h))
      exact J.fin ih
  · rw [List.drop_eq_nil_of_le (by omega), convF] at q4
    subst q4 q2
    clear ih
    all_goals (refine go ?_; and_intros <;> (try exact trivial) <;> repeat (first | refine fun (Bk : Nat) => ?_ | intro h))
    repeat' ((first | (apply G.cN (g := 65) (vs := [.agg #[.slice (some ⟨B, 0, none⟩) o.length o.length]]) (fun a' c' => .agg #[.slice a' (red o).length c']) ((red o).map isV); rfl; rfl; exact fun w' hw' => vReduced_holds (some ⟨B, 0, none⟩) o o.length w' (SlAt.ofBlk isV_len hw' (by exact mm)) wZ hcp; intro a3 c3 hp3 hq3)) <;> (refine go ?_; and_intros <;> (try exact trivial) <;> repeat (first | refine fun (Bk : Nat) => ?_ | intro h)))
    (refine ret2 Tryz.func33 Tryz.results33 ?_; intro w' hw)
    exact ⟨a3, c3, rfl, hw.sl (by exact mm), hq3, hw.below⟩
end Go.Proofs.YtceaamdomkjmlaaGreatDoor
/-
  Contracts: parts of kernels, equal lists, equal kernels.
-/
namespace Go.Proofs.YtceaamdomkjmlaaGreatDoor
open Go.RowKit Go.Sl Go.Num
theorem vPart_holds (m n : Int) (w : World) (h1 : -999999999999999 ≤ m) (h2 : m ≤ 999999999999999) (h3 : -999999999999999 ≤ n) (h4 : n ≤ 999999999999999) (h0 : n ≠ 0) :
    Calls Tryz.prog 78 #[.int .i64 m, .int .i64 n] w fun e w' => e = .returned (qA (rQ ((m : Rat) / (n : Rat)))) ∧ Below w.heap.size w w' := by
  have hm := fun w' (_ : Below w.heap.size w w') => make_holds m n w' h1 h2 h3 h4 h0
  generalize rQ ((m : Rat) / (n : Rat)) = Q at *
  refine enterA [(0, .int .i64 m), (1, .int .i64 n)] Tryz.func78 Tryz.ntmps78 ?_
  all_goals (refine go ?_; and_intros <;> (try exact trivial) <;> repeat (first | refine fun (Bk : Nat) => ?_ | intro h))
  repeat' ((first | (refine G.cvb hm ?_)) <;> (refine go ?_; and_intros <;> (try exact trivial) <;> repeat (first | refine fun (Bk : Nat) => ?_ | intro h)))
  all_goals refine ret1b Tryz.func78 Tryz.results78 ?_
  all_goals rfl
theorem eq_all {l m : List Int} (hl : l.length = m.length) (h : ∀ i (h : i < l.length) (h2 : i < m.length), i < l.length → l[i] = m[i]) : l = m := List.ext_getElem hl fun i h1 h2 => h i h1 h2 h1
end Go.Proofs.YtceaamdomkjmlaaGreatDoor
/-
  Contracts of rivers: the gauges directly above one; has, free.
-/
namespace Go.Proofs.YtceaamdomkjmlaaGreatDoor
open Go.RowKit Go.Sl Go.Num
/-- Of the first i gauges those directly above g. -/
def abU (l : List Rch) (i : Nat) (g : Int) : List Int := ((List.range i).filter fun k : Nat => decide (dnOf l k = g)).map fun k : Nat => (k : Int)
theorem abU_succ (l : List Rch) (i : Nat) (g : Int) : abU l (i + 1) g = abU l i g ++ if dnOf l i = g then [(i : Int)] else [] := by
  rw [abU, abU, List.range_succ, List.filter_append, List.map_append]
  congr 1
  rw [List.filter_cons]
  split
  · rename_i h
    rw [decide_eq_true_eq] at h
    rw [if_pos h]; rfl
  · rename_i h
    rw [decide_eq_true_eq] at h
    rw [if_neg h]; rfl
theorem abU_len (l : List Rch) (i : Nat) (g : Int) : (abU l i g).length ≤ i := by
  rw [abU, List.length_map]
  have := List.length_filter_le (fun k : Nat => decide (dnOf l k = g)) (List.range i)
  rwa [List.length_range] at this
theorem above_holds (a : Option Addr) (l : List Rch) (c : Nat) (g : Int) (w : World) (hA : SlAt w a 2 (l.map rcV)) (hn : l.length ≤ 1000000) :
    Calls Tryz.prog 52 #[.slice a l.length c, .int .i64 g] w (RetI (fun v => v) w (aboveL l g)) := by
  rw [show aboveL l g = abU l l.length g from rfl]
  refine enterA [(0, .slice a l.length c), (1, .int .i64 g)] Tryz.func52 Tryz.ntmps52 ?_
  all_goals (refine go ?_; and_intros <;> (try exact trivial) <;> repeat (first | refine fun (Bk : Nat) => ?_ | intro h))
  apply J.nilOwn (E := 3) (size := 1)
  refine J.loop (c := _) ((0, none, 0, 0) : Nat × Option Addr × Nat × Nat) (fun s => l.length - s.1) (fun s => [(1, .int .i64 g), (5, .slice s.2.1 s.2.2.2 s.2.2.1), (8, .slice a l.length c), (9, .int .i64 l.length), (10, .int .i64 s.1)]) (fun s => [.own 0 (.slice s.2.1 s.2.2.2 s.2.2.1) 3 1 s.2.2.2 (flat isV (abU l s.1 g))]) (fun s => s.1 ≤ l.length ∧ s.2.2.2 = (abU l s.1 g).length) ?_ sbT sbL ?_
  · exact ⟨Nat.zero_le _, rfl⟩
  intro ⟨i, au, cu, j⟩ ⟨h1, h2⟩ ih
  dsimp only at h1 h2 ⊢
  by_cases hi : i < l.length
  · obtain ⟨ba, oa, rfl, hra⟩ := SlAt.all hA (by omega)
    have hri := hra i hi
    have hl := abU_len l i g
    have hs := abU_succ l i g
    rw [dnOf_at hi] at hs
    have hap : flat isV (abU l i g) ++ isV i = flat isV (abU l i g ++ [(i : Int)]) := flat1 isV _ _
    clear hra
    by_cases hg : l[i].dn = g
    · rw [if_pos hg] at hs
      have ih := fun a2 c2 => ih (i + 1, a2, c2, j + 1) ⟨hi, by dsimp only; rw [hs, List.length_append, h2]; rfl⟩ (by dsimp only; omega)
      simp only [hs] at ih
      generalize l[i] = r at *
      obtain ⟨dn, ws, adr, cap⟩ := r
      dsimp only [rcV, isV] at *
      all_goals (refine go ?_; and_intros <;> (try exact trivial) <;> repeat (first | refine fun (Bk : Nat) => ?_ | intro h))
      repeat' ((first | (apply G.sliceL; rfl; rfl; rfl; rfl; rfl; rfl; rfl; rfl; intro Bs) | (apply G.apV; rfl; rfl; rfl; (repeat (first | exact RAt.head | apply RAt.tail)); exact SrcV.blk (by exact mm) rfl rfl; exact hap; omega; omega; intro a2 c2)) <;> (refine go ?_; and_intros <;> (try exact trivial) <;> repeat (first | refine fun (Bk : Nat) => ?_ | intro h)))
      exact J.fin (ih a2 c2)
    · rw [if_neg hg, List.append_nil] at hs
      have ih := ih (i + 1, au, cu, j) ⟨hi, by dsimp only; rw [hs, h2]⟩ (by dsimp only; omega)
      simp only [hs] at ih
      generalize l[i] = r at *
      obtain ⟨dn, ws, adr, cap⟩ := r
      dsimp only [rcV, isV] at *
      all_goals (refine go ?_; and_intros <;> (try exact trivial) <;> repeat (first | refine fun (Bk : Nat) => ?_ | intro h))
      exact J.fin ih
  · obtain rfl : i = l.length := by omega
    clear ih
    all_goals (refine go ?_; and_intros <;> (try exact trivial) <;> repeat (first | refine fun (Bk : Nat) => ?_ | intro h))
    (refine ret1 Tryz.func52 Tryz.results52 ?_; intro w' hw)
    subst h2
    exact satI hw (i := 0) rfl rfl fun v => v
end Go.Proofs.YtceaamdomkjmlaaGreatDoor
/-
  Contracts of rivers: few gauges.
-/
namespace Go.Proofs.YtceaamdomkjmlaaGreatDoor
open Go.RowKit Go.Sl Go.Num
def fewK (r : Rch) : Prop := ¬ (12 < r.ws.length ∧ r.ws.length ≤ 400 ∨ 402 < r.ws.length)
instance (r : Rch) : Decidable (fewK r) := by unfold fewK; exact inferInstance
def fewRv (most : Nat) (l : List Rch) : Prop := ¬ (most < l.length ∧ l.length ≤ 40 ∨ 50 < l.length) ∧ ∀ r ∈ l, fewK r
instance (most : Nat) (l : List Rch) : Decidable (fewRv most l) := by unfold fewRv; exact inferInstance
theorem fewRv_holds (a : Option Addr) (l : List Rch) (c most : Nat) (w : World) (hA : SlAt w a 2 (l.map rcV)) :
    Calls Tryz.prog 8 #[.slice a l.length c, .int .i64 most] w fun e w' => e = .returned (.bool (decide (fewRv most l))) ∧ Below w.heap.size w w' := by
  refine enterA [(0, .slice a l.length c), (1, .int .i64 most)] Tryz.func8 Tryz.ntmps8 ?_
  by_cases hl : most < l.length ∧ l.length ≤ 40 ∨ 50 < l.length
  · rw [decide_eq_false (fun h => h.1 hl)]
    all_goals (refine go ?_; and_intros <;> (try exact trivial) <;> repeat (first | refine fun (Bk : Nat) => ?_ | intro h))
    all_goals refine ret1b Tryz.func8 Tryz.results8 ?_
    all_goals rfl
  all_goals (refine go ?_; and_intros <;> (try exact trivial) <;> repeat (first | refine fun (Bk : Nat) => ?_ | intro h))
  all_goals
    refine J.loop (c := _) (0 : Nat) (fun s => l.length - s) (fun s => [(0, .slice a l.length c), (5, .int .i64 s)]) (fun s => []) (fun s => s ≤ l.length ∧ ∀ i (h : i < l.length), i < s → fewK l[i]) ?_ sbT sbL ?_
    · exact ⟨Nat.zero_le _, fun i h h2 => absurd h2 (Nat.not_lt_zero _)⟩
    intro k ⟨h1, h2⟩ ih
    by_cases hk : k < l.length
    · obtain ⟨ba, oa, rfl, hra⟩ := SlAt.all hA (by omega)
      have hr := hra k hk
      have h2 : fewK l[k] → ∀ i (h : i < l.length), i < k + 1 → fewK l[i] := fun hq i h h3 => by
        rcases Nat.lt_or_ge i k with h4 | h4
        · exact h2 i h h4
        · obtain rfl : i = k := by omega
          exact hq
      have h3 : ¬ fewK l[k] → decide (fewRv most l) = false := fun hq => decide_eq_false (fun h => hq (h.2 _ (List.getElem_mem hk)))
      have ih := fun hq => ih (k + 1) ⟨hk, h2 hq⟩ (by omega)
      clear hra h2
      generalize l[k] = s at *
      obtain ⟨dn, ws, adr, cap⟩ := s
      dsimp only [rcV, fewK] at *
      by_cases hq : 12 < ws.length ∧ ws.length ≤ 400 ∨ 402 < ws.length
      · rw [h3 (fun h => h hq)]
        clear ih
        all_goals (refine go ?_; and_intros <;> (try exact trivial) <;> repeat (first | refine fun (Bk : Nat) => ?_ | intro h))
        all_goals refine ret1b Tryz.func8 Tryz.results8 ?_
        all_goals rfl
      · have ih := ih hq
        all_goals (refine go ?_; and_intros <;> (try exact trivial) <;> repeat (first | refine fun (Bk : Nat) => ?_ | intro h))
        all_goals exact J.fin ih
    · rw [decide_eq_true ⟨by omega, fun p hp => by
        obtain ⟨i, h3, rfl⟩ := List.getElem_of_mem hp
        exact h2 i h3 (by omega)⟩]
      clear ih
      all_goals (refine go ?_; and_intros <;> (try exact trivial) <;> repeat (first | refine fun (Bk : Nat) => ?_ | intro h))
      all_goals refine ret1b Tryz.func8 Tryz.results8 ?_
      all_goals rfl
end Go.Proofs.YtceaamdomkjmlaaGreatDoor
/-
  Ranges over functions with one value that may go on for ever, unless a round leaves the loop.
-/
namespace Go.Sl
open Go.RowKit
variable {C : Ctx} {st : List (Nat × Value)} {M : List Row} {k : List Item} {q q' : Md} {all rest : List Oper} {d : Nat} {ty : TypeId} {pos : String} {after : Array Edge} {gd : Option (Nat × Bool)}
/-- The function f with the captures cap calls yield with each of es, until it says false; it ends behind them if fin holds. -/
def IterH (P : Program) (w0 : World) (K : List Row) (f : FuncId) (cap : Array Value) {E : Type} (enc : E → List Value) (es : List E) (fin : Prop) : Prop :=
  ∀ {X : Type} (Rs : X → List Row) (Inv : Nat → X → Prop) (Out : X → Prop) (fY : Fn) (cY : Array Value), (fin ∨ ∀ x, ¬ Inv es.length x) →
    (∀ i x e, Inv i x → es[i]? = some e → ∀ M' w, Sat w0 (Rs x ++ M') w → CallsV P (.func fY #[] cY) (enc e) w fun v w' => ∃ x', Sat w0 (Rs x' ++ M') w' ∧ (v = .bool true ∧ Inv (i + 1) x' ∨ v = .bool false ∧ Out x')) →
    ∀ x0, Inv 0 x0 → ∀ M1 w, Sat w0 (K ++ (Rs x0 ++ M1)) w →
      Calls P f (#[.func fY #[] cY] ++ cap) w fun e w' => e = .returned (.tuple #[]) ∧ ∃ x', Sat w0 (K ++ (Rs x' ++ M1)) w' ∧ (Inv es.length x' ∨ Out x')
/-- The statement, where a round may leave. -/
theorem J.rangeH1 {f : FuncId} [hF : Fun C.P f] {cap : Array Value} {g : Operand} {p1 : Tmp} {assign body : Code} {E : Type} {e1 : E → Value} {es : List E} {fin : Prop} {K : List Row} {X : Type} (Rs : X → List Row) (Inv : Nat → X → Prop) (Out : Code → X → Prop) (x0 : X) (M1 : List Row)
    (hIt : IterH C.P C.w0 K f cap (fun e => [e1 e]) es fin) (hfin : fin ∨ ∀ x, ¬ Inv es.length x) (hb : C.b.roundOf = none) (hg : evS st g = some (.func (.func f) #[] cap)) (hp1 : Nat.blt p1 C.N = true) (hM : M.Perm (K ++ (Rs x0 ++ M1))) (hI : Inv 0 x0)
    (hround : ∀ i x e, Inv i x → es[i]? = some e → ∀ L (r : Loop) M', r.state = .ready → r.pending = none →
      J (rctx C.P L C.b.fn C.N (RoundR C.w0 L r Rs M' (Inv (i + 1)) Out) C.w0) ((p1, e1 e) :: st) (.obj L (.loop r) :: Rs x ++ M') [.code assign, .beginRound, .code body])
    (h1 : ∀ Bd x, Inv es.length x → J { C with D := mark Bd :: C.D } st (.obj Bd (.deferred (some [])) :: (K ++ (Rs x ++ M1))) k)
    (h2 : ∀ Bd x c, Out c x → J { C with D := mark Bd :: C.D } st (.obj Bd (.deferred (some [])) :: (K ++ (Rs x ++ M1))) (.code c :: k)) :
    J C st M (.code (.rangeFunc g #[p1] assign body) :: k) := by
  refine J.perm hM (J.range (f := f) (cap := cap) (X := { x : X × Option Code // match x.2 with | none => Inv es.length x.1 | some c => Out c x.1 }) (fun x => K ++ (Rs x.1.1 ++ M1)) (fun x => x.1.2) (fun x => loopSt x.1.2) hb hg (fun x => by rcases x with ⟨⟨_, _ | _⟩, _⟩ <;> simp [loopSt]) ?_ fun Bd x => ?_)
  · intro tmps Bd L w r hr hfit hw
    have hrs : r.state = .ready := by rw [hr]
    have hrp : r.pending = none := by rw [hr]
    have hperm : ∀ (o : Obj) x, (Row.obj L o :: .obj Bd (.deferred (some [])) :: (K ++ (Rs x ++ M1))).Perm (K ++ ((.obj L o :: Rs x) ++ (.obj Bd (.deferred (some [])) :: M1))) := fun o x =>
      perm_cat [[Row.obj L o], [.obj Bd (.deferred (some []))], K, Rs x, M1] [0, 1, 2, 3, 4] [2, 0, 3, 1, 4] rfl
    have hmain := hIt (X := X × Option Code) (fun x => Row.obj L (.loop (loopAt r x.2)) :: Rs x.1) (fun i x => x.2 = none ∧ Inv i x.1) (fun x => ∃ c, x.2 = some c ∧ Out c x.1) (.yield L) #[] (hfin.imp id fun h x hx => h x.1 hx.2) ?_ (x0, none) ⟨rfl, hI⟩ (.obj Bd (.deferred (some [])) :: M1) w (hw.perm (hperm _ x0))
    · refine hmain.mono fun e w2 ⟨q1, ⟨x, o⟩, q2, q3⟩ => ?_
      have key : Sat C.w0 (.obj L (.loop { r with state := loopSt o, pending := o }) :: .obj Bd (.deferred (some [])) :: (K ++ (Rs x ++ M1))) w2 := by
        have h3 := q2.perm (hperm _ x).symm
        cases o with
        | none =>
          have hrr : ({ r with state := .ready, pending := none } : Loop) = r := by rw [hr]
          show Sat C.w0 (.obj L (.loop { r with state := .ready, pending := none }) :: _) w2
          rw [hrr]; exact h3
        | some c => exact h3
      rcases q3 with ⟨q4, q5⟩ | ⟨c, q4, q5⟩
      · dsimp only at q4; subst q4
        exact ⟨_, ⟨(x, none), q5⟩, q1, key⟩
      · dsimp only at q4; subst q4
        exact ⟨_, ⟨(x, some c), q5⟩, q1, key⟩
    · rintro i ⟨x, o⟩ e ⟨h3, h4⟩ h5 M' w1 hw1
      dsimp only at h3 h4 hw1; subst h3
      have h6 := hround i x e h4 h5 L r M' hrs hrp
      refine .yield L r rfl (hw1.hold _ (.head _)) (by rw [hr]; rfl) ?_
      have hf6 := hfit.put hp1 (e1 e)
      have e3 : (r.params.zip [e1 e].toArray).foldl (fun tmps (t, a) => tmps.setIfInBounds t a) r.tmps = (({ tmps := tmps, defers := [] } : Act).put (some p1) (e1 e)).tmps := by
        have e0 : ((#[p1] : Array Tmp).zip [e1 e].toArray) = #[(p1, e1 e)] := by simp
        rw [hr]; dsimp only; rw [e0]; simp [Act.put]
      rw [e3, show r.fn = C.b.fn by rw [hr], show r.assign = assign by rw [hr], show r.body = body by rw [hr]]
      have h7 := rounds_of hf6 hw1 h6
      intro c cs
      obtain ⟨v, w', ⟨x', h8⟩, h9⟩ := h7 c cs
      refine ⟨v, w', ?_, h9⟩
      rcases h8 with ⟨g1, g2, g3⟩ | ⟨cc, g1, g2, g3⟩
      · exact ⟨(x', none), g3, .inl ⟨g1, rfl, g2⟩⟩
      · exact ⟨(x', some cc), g3, .inr ⟨g1, cc, rfl, g2⟩⟩
  · rcases x with ⟨⟨x, _ | c⟩, hx⟩
    · exact h1 Bd x hx
    · exact h2 Bd x c hx
end Go.Sl
/-
  Calls that lay rows; rows brought to the front; what later chapters share.
-/
namespace Go.Sl
open Go.RowKit
variable {C : Ctx} {st : List (Nat × Value)} {M : List Row} {k : List Item} {q q' : Md} {all rest : List Oper} {d : Nat} {opn : Op} {ty : TypeId} {pos : String} {after : Array Edge} {gd : Option (Nat × Bool)}
/-- A call whose value is one of many. -/
theorem G.cX {X : Type} {g : FuncId} {args : List Operand} {vs : List Value} {at_ : Array TypeId} {v : X → Value} {w : World} [hF : Fun C.P g]
    (hc : ∀ w', Below w.heap.size w w' → Calls C.P g vs.toArray w' fun e w'' => ∃ x, e = .returned (v x) ∧ Below w'.heap.size w' w'') (h : ∀ x, G q' C all ((d, v x) :: st) M rest k) (hw : w = C.w0 := by rfl) (ha : evL st args = some vs := by rfl) (hs : sideB all st gd d C.N q.ext = some q' := by rfl) :
    G q C all st M ({ dst := some d, op := .call { callee := .value (.func g), args := args.toArray, argTypes := at_ }, type := ty, pos, after, guard := gd } :: rest) k := by
  subst hw
  obtain ⟨g1, g2, g3⟩ := sideB_ok hs
  exact G.call0 (X := X) (v := v) (Mn := fun _ => []) g1 g2 g3 ha (fun w hw => (hc w hw.below).mono fun e w' ⟨x, h1, h2⟩ => ⟨x, h1, hw.ext h2⟩) h
/-- A call that lays rows. -/
theorem G.cR {X : Type} {g : FuncId} {args : List Operand} {vs : List Value} {at_ : Array TypeId} {v : X → Value} {Mn : X → List Row} (ha : evL st args = some vs) (hs : sideB all st gd d C.N q.ext = some q') [hF : Fun C.P g]
    (hc : ∀ w, Sat C.w0 M w → Calls C.P g vs.toArray w fun e w' => ∃ x, e = .returned (v x) ∧ Sat C.w0 (Mn x ++ M) w') (h : ∀ x, G q' C all ((d, v x) :: st) (Mn x ++ M) rest k) :
    G q C all st M ({ dst := some d, op := .call { callee := .value (.func g), args := args.toArray, argTypes := at_ }, type := ty, pos, after, guard := gd } :: rest) k := by
  obtain ⟨g1, g2, g3⟩ := sideB_ok hs
  exact G.call0 g1 g2 g3 ha hc h
end Go.Sl
namespace Go.Sl
end Go.Sl
namespace Go.Sl
open Go.RowKit
end Go.Sl
namespace Go.Sl
open Go.RowKit Go.ChangeShapes Go.WideShapes
theorem list1 {A : Type} {l : List A} (h : l.length = 1) : ∃ a, l = [a] := by
  match l, h with
  | [a], _ => exact ⟨a, rfl⟩
theorem Reads.struct1 {P : Program} {T : TypeId} {A1 : Type} {f1 : A1 → List Value} {G1 : World → A1 → Prop} {d1 : Field} {n : Nat} (ht : P.underlying T = some (.struct #[d1])) (hn : P.cellsOf T = n) (hT : tight P #[d1] n = true) (h1 : Reads P d1.type f1 G1) :
    Reads P T f1 G1 := .mk fun enc w fuel cs x hx => by
  obtain ⟨hj, hl, hf⟩ := Reads.struct ht hn hT hx
  obtain ⟨p1, hp⟩ := list1 hl
  rw [hp] at hj hf
  obtain ⟨_, _, r1⟩ := hf 0 d1 p1 rfl rfl
  obtain ⟨a1, rfl, g1⟩ := h1.go enc w _ _ _ r1
  exact ⟨a1, by rw [hj]; simp, g1⟩
end Go.Sl
namespace Go.Sl
open Go.RowKit
end Go.Sl
namespace Go.Sl
open Go.RowKit
variable {C : Ctx} {st : List (Nat × Value)} {M : List Row} {k : List Item} {q q' : Md} {all rest : List Oper} {d : Nat} {opn : Op} {ty : TypeId} {pos : String} {after : Array Edge} {gd : Option (Nat × Bool)}
/-- A call that changes some rows, wherever they stand. -/
theorem G.cP {X : Type} {g : FuncId} {args : List Operand} {vs : List Value} {at_ : Array TypeId} (v : X → Value) (T : List Row) (Tn : X → List Row) {M1 : List Row} (ha : evL st args = some vs) (hs : sideB all st gd d C.N q.res = some q') [hF : Fun C.P g] (hp : M.Perm (T ++ M1))
    (hc : ∀ w, Sat C.w0 (T ++ M1) w → Calls C.P g vs.toArray w fun e w' => ∃ x, e = .returned (v x) ∧ Sat C.w0 (Tn x ++ M1) w') (h : ∀ x, G q' C all ((d, v x) :: st) (Tn x ++ M1) rest k) :
    G q C all st M ({ dst := some d, op := .call { callee := .value (.func g), args := args.toArray, argTypes := at_ }, type := ty, pos, after, guard := gd } :: rest) k :=
  G.cM v (fun x => Tn x ++ M1) hs ha (fun w hw => hc w (hw.perm hp)) h
/-- The same for a function value. -/
theorem G.cPf {X : Type} {g : FuncId} {f : Operand} {cap : Array Value} {args : List Operand} {vs : List Value} {at_ : Array TypeId} (v : X → Value) (T : List Row) (Tn : X → List Row) {M1 : List Row} (hf : evS st f = some (.func (.func g) #[] cap)) (ha : evL st args = some vs) (hs : sideB all st gd d C.N q.res = some q') [hF : Fun C.P g] (hp : M.Perm (T ++ M1))
    (hc : ∀ w, Sat C.w0 (T ++ M1) w → Calls C.P g (vs.toArray ++ cap) w fun e w' => ∃ x, e = .returned (v x) ∧ Sat C.w0 (Tn x ++ M1) w') (h : ∀ x, G q' C all ((d, v x) :: st) (Tn x ++ M1) rest k) :
    G q C all st M ({ dst := some d, op := .call { callee := .value f, args := args.toArray, argTypes := at_ }, type := ty, pos, after, guard := gd } :: rest) k := by
  obtain ⟨g1, g2, g3⟩ := sideB_ok hs
  refine G.res g1 rfl g3 fun a w hfit hw K hK => ?_
  rw [run_call (hfit.eval hf) (hfit.evals ha)]
  refine (hc w (hw.perm hp)).mono fun e w' hh => ?_
  obtain ⟨x, rfl, hs⟩ := hh
  exact hK _ _ _ _ (h x) (hfit.put g2 _) rfl hs
/-- A slice that is nil is the call's own. -/
theorem G.nilOwn {E size : Nat} (h : G .seq C all st (.own 0 (.slice none 0 0) E size 0 [] :: M) rest k) : G .seq C all st M rest k :=
  ⟨fun a w hf hd hw => h.go a w hf hd (hw.new (Below.refl _ _) ⟨by simp, .inl ⟨rfl, rfl⟩⟩ (Nat.zero_le _) fun b hb => by simp [Row.sup, Value.ownBlock] at hb)⟩
/-- A call that hands back a value with a new slice in it, of which more is known. -/
theorem G.cNq {g : FuncId} {args : List Operand} {vs : List Value} {at_ : Array TypeId} {sz : Nat} (Q : Option Addr → Nat → Prop) (v : Option Addr → Nat → Value) (L : List (List Value)) (ha : evL st args = some vs) (hs : sideB all st gd d C.N q.ext = some q') [hF : Fun C.P g]
    (hc : ∀ w, Sat C.w0 M w → Calls C.P g vs.toArray w fun e w' => ∃ a' c', e = .returned (v a' c') ∧ SlAt w' a' sz L ∧ (∀ p, a' = some p → w.heap.size ≤ p.block) ∧ Below w.heap.size w w' ∧ Q a' c')
    (h : ∀ a' c', (0 < L.length → ∃ b off, a' = some ⟨b, off, none⟩) → (∀ p, a' = some p → C.w0.heap.size ≤ p.block) → Q a' c' → G q' C all ((d, v a' c') :: st) (slRow C.w0.heap.size a' sz L :: M) rest k) :
    G q C all st M ({ dst := some d, op := .call { callee := .value (.func g), args := args.toArray, argTypes := at_ }, type := ty, pos, after, guard := gd } :: rest) k := by
  obtain ⟨g1, g2, g3⟩ := sideB_ok hs
  refine G.call0 (X := { x : Option Addr × Nat // (0 < L.length → ∃ b off, x.1 = some ⟨b, off, none⟩) ∧ (∀ p, x.1 = some p → C.w0.heap.size ≤ p.block) ∧ Q x.1 x.2 }) (v := fun x => v x.1.1 x.1.2) (Mn := fun x => [slRow C.w0.heap.size x.1.1 sz L]) g1 g2 g3 ha (fun w hw => (hc w hw).mono fun e w' he => ?_) fun x => h x.1.1 x.1.2 x.2.1 x.2.2.1 x.2.2.2
  obtain ⟨a', c', rfl, h1, h2, h3, hQ⟩ := he
  refine ⟨⟨(a', c'), fun h0 => (let ⟨b, off, e, _⟩ := h1 h0; ⟨b, off, e⟩), fun p hp => Nat.le_trans hw.size (h2 p hp), hQ⟩, rfl, (hw.ext h3).addFact (Nat.le_refl _) h1 fun b hb => ?_⟩
  obtain ⟨h0, p, h5, h6, h7⟩ := hb
  dsimp only at h5
  obtain ⟨b', off, h8, hr⟩ := h1 h0
  have hlt := (hr 0 _ (List.getElem?_eq_getElem h0)).1
  have := h2 p h5
  rw [h5] at h8; cases h8
  simp only at h6 this
  subst h6
  exact ⟨h7, hlt, hw.free (.inr (.inl this)) h7⟩
/-- A block becomes the call's own slice, in the midst of a region. -/
theorem G.blkCut {A : Type} {f : A → List Value} {g cap E size : Nat} {l l' : List A} (m : Nat) {F : Row → List Row} (hf : ∀ x, (f x).length = size) (hm : RAt (.blk g E (flat f l) (cap * size)) M F) (h1 : m ≤ cap) (h2 : cap ≤ maxLen) (h3 : m ≤ l.length) (h4 : l.take m = l') (h : G .seq C all st (F (.own 0 (.slice (some ⟨g, 0, none⟩) m cap) E size m (flat f l'))) rest k) : G .seq C all st M rest k :=
  ⟨fun a w hfit hd hw => by
    obtain ⟨i, h5, h6⟩ := hm.idx
    obtain ⟨rs, h7, h8⟩ := hw.hold _ (List.mem_of_getElem? h5)
    rw [← h6] at h
    refine h.go a w hfit hd (hw.swap h5 (r' := .own 0 (.slice (some ⟨g, 0, none⟩) m cap) E size m (flat f l')) ?_ rfl fun b hb => ?_)
    · subst h4
      have h9 : m * size ≤ (flat f l).length := by rw [flat_len hf]; exact Nat.mul_le_mul_right _ h3
      refine ⟨by rw [flat_len hf, List.length_take, Nat.min_eq_left h3], .inr ⟨g, cap, _, rfl, Nat.zero_le _, h7, h1, h2, by simp [h8], ?_⟩⟩
      rw [← flat_take hf l m, List.take_append_of_le_length h9]
    · cases hb; rfl⟩
/-- A slice of things that hold slices. -/
structure NstAt {A : Type} (f : A → List Value) (sz : Nat) (adr : A → Option Addr) (sz2 : Nat) (F2 : A → List (List Value)) (w : World) (a : Option Addr) (L : List A) : Prop where
  out : SlAt w a sz (L.map f)
  inn : ∀ r ∈ L, SlAt w (adr r) sz2 (F2 r)
section
variable {A : Type} {f : A → List Value} {sz : Nat} {adr : A → Option Addr} {sz2 : Nat} {F2 : A → List (List Value)}
theorem NstAt.below {w w' : World} {a : Option Addr} {L : List A} (h : NstAt f sz adr sz2 F2 w a L) (hb : Below w.heap.size w w') : NstAt f sz adr sz2 F2 w' a L := ⟨h.out.below hb, fun r hr => (h.inn r hr).below hb⟩
def nstRow (N : Nat) (f : A → List Value) (sz : Nat) (adr : A → Option Addr) (sz2 : Nat) (F2 : A → List (List Value)) (a : Option Addr) (L : List A) : Row :=
  .fact N (fun b => slSup N a (L.map f) b ∨ ∃ r ∈ L, slSup N (adr r) (F2 r) b) (fun w => NstAt f sz adr sz2 F2 w a L) fun w w' h hw =>
    ⟨slKeep w w' (fun b hb => h b (hb.imp id .inl)) hw.out, fun r hr => slKeep w w' (fun b hb => h b (hb.imp id fun hb => .inr ⟨r, hr, hb⟩)) (hw.inn r hr)⟩
theorem Sat.nst {w0 w : World} {N : Nat} {a : Option Addr} {L : List A} (h : Sat w0 M w) (hm : nstRow N f sz adr sz2 F2 a L ∈ M := by (repeat (first | exact List.Mem.head _ | apply List.Mem.tail))) : NstAt f sz adr sz2 F2 w a L := h.hold _ hm
theorem Sat.supN {C : Ctx} {w w' : World} {sz : Nat} {a : Option Addr} {L : List (List Value)} {b : Nat} (hw : Sat C.w0 M w) (h1 : SlAt w' a sz L) (h2 : ∀ p, a = some p → w.heap.size ≤ p.block) (hb : slSup C.w0.heap.size a L b) : C.w0.heap.size ≤ b ∧ b < w'.heap.size ∧ ∀ r ∈ M, ¬ r.lock b := by
  obtain ⟨h0, p, h5, h6, h7⟩ := hb
  obtain ⟨b', off, h8, hr⟩ := h1 h0
  have hlt := (hr 0 _ (List.getElem?_eq_getElem h0)).1
  have := h2 p h5
  rw [h5] at h8; cases h8
  simp only at h6 this
  subst h6
  exact ⟨h7, hlt, hw.free (.inr (.inl this)) h7⟩
/-- A new slice of things that hold new slices. -/
def RetN (f : A → List Value) (sz : Nat) (adr : A → Option Addr) (sz2 : Nat) (F2 : A → List (List Value)) (P : List A → Prop) (F : List A → Option Addr → Nat → Value) (w : World) (e : Ending) (w' : World) : Prop :=
  ∃ L a' c', P L ∧ e = .returned (F L a' c') ∧ NstAt f sz adr sz2 F2 w' a' L ∧ (∀ p, a' = some p → w.heap.size ≤ p.block) ∧ (∀ r ∈ L, ∀ p, adr r = some p → w.heap.size ≤ p.block) ∧ Below w.heap.size w w'
/-- A call that makes such a slice. -/
theorem G.cNst {g : FuncId} {args : List Operand} {vs : List Value} {at_ : Array TypeId} (v : List A → Option Addr → Nat → Value) (P : List A → Prop) (ha : evL st args = some vs) (hs : sideB all st gd d C.N q.ext = some q') [hF : Fun C.P g]
    (hc : ∀ w, Sat C.w0 M w → Calls C.P g vs.toArray w (RetN f sz adr sz2 F2 P v w))
    (h : ∀ L a' c', P L → (∀ p, a' = some p → C.w0.heap.size ≤ p.block) → (∀ r ∈ L, ∀ p, adr r = some p → C.w0.heap.size ≤ p.block) → G q' C all ((d, v L a' c') :: st) (nstRow C.w0.heap.size f sz adr sz2 F2 a' L :: M) rest k) :
    G q C all st M ({ dst := some d, op := .call { callee := .value (.func g), args := args.toArray, argTypes := at_ }, type := ty, pos, after, guard := gd } :: rest) k := by
  obtain ⟨g1, g2, g3⟩ := sideB_ok hs
  refine G.call0 (X := { x : List A × Option Addr × Nat // P x.1 ∧ (∀ p, x.2.1 = some p → C.w0.heap.size ≤ p.block) ∧ ∀ r ∈ x.1, ∀ p, adr r = some p → C.w0.heap.size ≤ p.block }) (v := fun x => v x.1.1 x.1.2.1 x.1.2.2) (Mn := fun x => [nstRow C.w0.heap.size f sz adr sz2 F2 x.1.2.1 x.1.1]) g1 g2 g3 ha (fun w hw => (hc w hw).mono fun e w' he => ?_) fun x => h x.1.1 x.1.2.1 x.1.2.2 x.2.1 x.2.2.1 x.2.2.2
  obtain ⟨L, a', c', hP, rfl, h1, h2, h3, h4⟩ := he
  refine ⟨⟨(L, a', c'), hP, fun p hp => Nat.le_trans hw.size (h2 p hp), fun r hr p hp => Nat.le_trans hw.size (h3 r hr p hp)⟩, rfl, (hw.ext h4).addFact (Nat.le_refl _) h1 fun b hb => ?_⟩
  rcases hb with hb | ⟨r, hr, hb⟩
  · exact hw.supN h1.out h2 hb
  · exact hw.supN (h1.inn r hr) (h3 r hr) hb
end
end Go.Sl
/-
  A region that draws its order, cut in two: operations in any order, then others in a row. The latter may call a loop's round.
-/
namespace Go.Sl
open Go.RowKit
variable {C : Ctx} {st : List (Nat × Value)} {M : List Row} {k : List Item}
/-- From n on each operation waits for all before it; those before n wait for earlier ones alone. -/
def cutB (l : List Oper) (n : Nat) : Bool :=
  (List.range l.length).all fun j => match l[j]? with
    | none => true
    | some o => (o.after.all fun e => !Region.binds .any e || decide (e.on < j)) && (if j < n then (match o.guard with | some (g, _) => decide (g < n) | none => true) else (List.range j).all fun i => ((Region.before l.toArray).getD j 0).testBit i)
structure CutOk (l : List Oper) (n : Nat) : Prop where
  back : ∀ j o, l[j]? = some o → ∀ e ∈ o.after, Region.binds .any e = true → e.on < j
  gd : ∀ j o g v, l[j]? = some o → j < n → o.guard = some (g, v) → g < n
  wait : ∀ j i, j < l.length → n ≤ j → i < j → Path l.toArray j i
theorem cut_ok {l : List Oper} {n : Nat} (h : cutB l n = true) : CutOk l n := by
  have key : ∀ j o, l[j]? = some o → (∀ e ∈ o.after, Region.binds .any e = true → e.on < j) ∧ (if j < n then (match o.guard with | some (g, _) => decide (g < n) | none => true) else (List.range j).all fun i => ((Region.before l.toArray).getD j 0).testBit i) = true := fun j o ho => by
    have hj := (List.getElem?_eq_some_iff.1 ho).1
    have := List.all_eq_true.1 h j (List.mem_range.2 hj)
    rw [ho] at this
    dsimp only at this
    rw [Bool.and_eq_true] at this
    refine ⟨fun e he hb => ?_, this.2⟩
    have h2 := (Array.all_eq_true_iff_forall_mem.1 this.1) e he
    rw [hb] at h2
    simpa using h2
  refine ⟨fun j o ho => (key j o ho).1, fun j o g v ho hj hg => ?_, fun j i hj hn hi => ?_⟩
  · have := (key j o ho).2
    rw [if_pos hj, hg] at this
    exact of_decide_eq_true this
  · have ho : l[j]? = some l[j] := List.getElem?_eq_getElem hj
    have := (key j _ ho).2
    rw [if_neg (by omega)] at this
    exact before_path (List.all_eq_true.1 this i (List.mem_range.2 hi))
theorem lin_cons {ops : Array Oper} {F t : Nat} {listed : Array Bool} : (Region.ready .any ops listed = [] ∧ Region.linearise.go .any ops (F + 1) t listed [] = []) ∨ ∃ i t', i ∈ Region.ready .any ops listed ∧ Region.linearise.go .any ops (F + 1) t listed [] = i :: Region.linearise.go .any ops F t' (listed.setIfInBounds i true) [] := by
  cases hi : (Region.ready .any ops listed)[t % (Region.ready .any ops listed).length]? with
  | none =>
    left
    have hnil : Region.ready .any ops listed = [] := by
      cases hr : Region.ready .any ops listed with
      | nil => rfl
      | cons x xs =>
        rw [hr] at hi
        have hlt : t % (x :: xs).length < (x :: xs).length := Nat.mod_lt _ (by simp)
        simp at hi
        simp at hlt
        omega
    refine ⟨hnil, ?_⟩
    simp only [Region.linearise.go]
    change (match (Region.ready .any ops listed)[t % (Region.ready .any ops listed).length]? with
      | some i => Region.linearise.go .any ops F (t / (Region.ready .any ops listed).length) (listed.setIfInBounds i true) [i]
      | none => [].reverse) = []
    rw [hi]; rfl
  | some i =>
    right
    refine ⟨i, t / (Region.ready .any ops listed).length, List.mem_of_getElem? hi, ?_⟩
    simp only [Region.linearise.go]
    change (match (Region.ready .any ops listed)[t % (Region.ready .any ops listed).length]? with
      | some i => Region.linearise.go .any ops F (t / (Region.ready .any ops listed).length) (listed.setIfInBounds i true) [i]
      | none => [].reverse) = _
    rw [hi]
    simp only []
    rw [linearise_go_acc, List.reverse_singleton, List.singleton_append]
/-- What is still to come, when the first j are listed. -/
theorem lin_rest {l : List Oper} {n : Nat} (hc : CutOk l n) : ∀ (F j t : Nat) (listed : Array Bool), n ≤ j → j ≤ l.length → l.length - j ≤ F → listed.size = l.length → (∀ i, i < l.length → listed.getD i false = decide (i < j)) → DC l.toArray listed →
    Region.linearise.go .any l.toArray F t listed [] = List.range' j (l.length - j)
  | 0, j, t, listed, h1, h2, h3, _, _, _ => by
    rw [show l.length - j = 0 by omega]; rfl
  | F + 1, j, t, listed, h1, h2, h3, hz, h4, hdc => by
    have hget : ∀ i, i < l.length → listed.getD i true = decide (i < j) := fun i hi => by
      rw [← h4 i hi, Array.getD_eq_getD_getElem?, Array.getD_eq_getD_getElem?, Array.getElem?_eq_getElem (by omega)]; rfl
    have hrd : ∀ i, i ∈ Region.ready .any l.toArray listed → i = j ∧ j < l.length := fun i hi => by
      obtain ⟨q1, o, q2, _⟩ := mem_ready.1 hi
      have q3 := (Array.getElem?_eq_some_iff.1 q2).1
      rw [List.size_toArray] at q3
      rw [hget i q3, decide_eq_false_iff_not] at q1
      rcases Nat.lt_or_ge j i with q4 | q4
      · have := (hc.wait i j q3 (by omega) q4).listed hdc hi
        rw [h4 j (by omega), decide_eq_true_eq] at this
        omega
      · exact ⟨by omega, by omega⟩
    rcases lin_cons (ops := l.toArray) (F := F) (t := t) (listed := listed) with ⟨q1, q2⟩ | ⟨i, t', q1, q2⟩
    · rcases Nat.lt_or_ge j l.length with hj | hj
      · have : j ∈ Region.ready .any l.toArray listed := mem_ready.2 ⟨by rw [hget j hj]; simp, l[j], by simp [hj], fun e he hb => by
          have := hc.back j _ (List.getElem?_eq_getElem hj) e he hb
          rw [h4 _ (by omega)]; simpa using this⟩
        rw [q1] at this; cases this
      · rw [q2, show l.length - j = 0 by omega]; rfl
    · obtain ⟨rfl, hj⟩ := hrd i q1
      rw [q2, lin_rest hc F (i + 1) t' _ (by omega) (by omega) (by omega) (by simpa using hz) (fun m hm => ?_) (hdc.set q1), show l.length - i = l.length - (i + 1) + 1 by omega, List.range'_succ]
      by_cases e : i = m
      · subst e
        rw [Array.getD_eq_getD_getElem?, Array.getElem?_setIfInBounds_self_of_lt (by omega)]; simp
      · rw [getD_set_ne false e, h4 m hm]
        exact decide_eq_decide.2 (by omega)
theorem wanted_take {l : List Oper} {n j : Nat} (hc : CutOk l n) {o : Oper} (ho : l[j]? = some o) (hj : j < n) (tmps : Array Value) : Region.wanted o (yielded (l.take n).toArray tmps) = Region.wanted o (yielded l.toArray tmps) := by
  unfold Region.wanted
  cases hg : o.guard with
  | none => rfl
  | some p =>
    obtain ⟨g, v⟩ := p
    have := hc.gd j o g v ho hj hg
    have e : yielded (l.take n).toArray tmps g = yielded l.toArray tmps g := by
      unfold yielded
      rw [List.getElem?_toArray, List.getElem?_toArray, List.getElem?_take_of_lt this]
    dsimp only
    rw [e]
/-- The first n in any order, then the rest. -/
theorem run_cut {l : List Oper} {n : Nat} (hn : n ≤ l.length) (hc : CutOk l n) (hnd : noDefer l = true) : ∀ (c F t : Nat) (listed listed' : Array Bool) (a : Act) (w : World), listed.size = l.length → listed'.size = n → (∀ i, i < n → listed'.getD i false = listed.getD i false) → (∀ i, n ≤ i → listed.getD i false = false) → DC l.toArray listed →
    ((List.range l.length).filter fun i => !listed.getD i true).length ≤ F →
    wpAny C.P .any (l.take n).toArray (Qk C (.inRegion l.toArray (List.range' n (l.length - n)) :: k)) c listed' a w → Run C.P C.b C.PHI (.inRegion l.toArray (Region.linearise.go .any l.toArray F t listed []) :: k) a w := by
  have hopn : ∀ i, i < n → (l.take n).toArray[i]? = l.toArray[i]? := fun i hi => by
    rw [List.getElem?_toArray, List.getElem?_toArray, List.getElem?_take_of_lt hi]
  -- ready in the first part
  have hrdy : ∀ (listed listed' : Array Bool), listed.size = l.length → listed'.size = n → (∀ i, i < n → listed'.getD i false = listed.getD i false) → ∀ i, i < n → i ∈ Region.ready .any l.toArray listed → i ∈ Region.ready .any (l.take n).toArray listed' := fun listed listed' z1 z2 h1 i hi hr => by
    obtain ⟨q1, o, q2, q3⟩ := mem_ready.1 hr
    refine mem_ready.2 ⟨?_, o, by rw [hopn i hi]; exact q2, fun e he hb => ?_⟩
    · have := h1 i hi
      rw [Array.getD_eq_getD_getElem?, Array.getElem?_eq_getElem (by omega)] at q1 this ⊢
      rw [Array.getD_eq_getD_getElem?, Array.getElem?_eq_getElem (by omega)] at this
      simp only [Option.getD_some] at q1 this ⊢
      rw [this]; exact q1
    · have q4 := hc.back i o (by rw [← List.getElem?_toArray]; exact q2) e he hb
      rw [h1 _ (by omega)]; exact q3 e he hb
  -- some one is ready
  have hleast : ∀ (listed : Array Bool), listed.size = l.length → ∀ m, m < n → listed.getD m false = false → ∃ i, i < n ∧ i ∈ Region.ready .any l.toArray listed := fun listed hz m => by
    induction m using Nat.strongRecOn with
    | _ m ih =>
      intro hm hl
      by_cases hx : ∃ m', m' < m ∧ listed.getD m' false = false
      · obtain ⟨m', h1, h2⟩ := hx
        exact ih m' h1 (by omega) h2
      · refine ⟨m, hm, mem_ready.2 ⟨?_, l[m], by simp [show m < l.length by omega], fun e he hb => ?_⟩⟩
        · rw [Array.getD_eq_getD_getElem?, Array.getElem?_eq_getElem (by omega)] at hl ⊢; exact hl
        · have := hc.back m _ (List.getElem?_eq_getElem (by omega)) e he hb
          by_cases h3 : listed.getD e.on false = true
          · exact h3
          · rw [Bool.not_eq_true] at h3
            exact absurd ⟨_, this, h3⟩ hx
  have hdone : ∀ (F t : Nat) (listed : Array Bool) (a : Act) (w : World), listed.size = l.length → (∀ i, n ≤ i → listed.getD i false = false) → DC l.toArray listed → ((List.range l.length).filter fun i => !listed.getD i true).length ≤ F → (∀ m, m < n → listed.getD m false = true) →
      Qk C (.inRegion l.toArray (List.range' n (l.length - n)) :: k) .normal a w → Run C.P C.b C.PHI (.inRegion l.toArray (Region.linearise.go .any l.toArray F t listed []) :: k) a w := fun F t listed a w hz h2 hdc hF hall hQ => by
    have hl : ∀ i, i < l.length → listed.getD i false = decide (i < n) := fun i hi => by
      by_cases h : i < n
      · rw [hall i h]; simp [h]
      · rw [h2 i (by omega)]; simp [h]
    have hF2 : l.length - n ≤ F := by
      refine Nat.le_trans ?_ hF
      have : (List.range l.length).filter (fun i => !listed.getD i true) = (List.range l.length).filter (fun i => decide (n ≤ i)) := List.filter_congr fun i hi => by
        rw [List.mem_range] at hi
        have := hl i hi
        rw [Array.getD_eq_getD_getElem?, Array.getElem?_eq_getElem (by omega)] at this ⊢
        simp only [Option.getD_some] at this ⊢
        rw [this]
        by_cases h : i < n
        · simp [h]
        · simp [h, Nat.le_of_not_lt h]
      rw [this]
      have e : (List.range' n (l.length - n)).Sublist ((List.range l.length).filter fun i => decide (n ≤ i)) := by
        have h3 : (List.range' n (l.length - n)).filter (fun i => decide (n ≤ i)) = List.range' n (l.length - n) := List.filter_eq_self.2 fun i hi => by
          rw [List.mem_range'_1] at hi; exact decide_eq_true hi.1
        rw [← h3]
        refine List.Sublist.filter _ ?_
        rw [List.range_eq_range', show l.length = n + (l.length - n) by omega, List.range'_append_1.symm]
        rw [show n + (l.length - n) - n = l.length - n by omega, Nat.zero_add]
        exact List.sublist_append_right ..
      have := e.length_le
      rwa [List.length_range'] at this
    rw [lin_rest hc F n t listed (Nat.le_refl _) hn hF2 hz hl hdc]
    exact hQ.2
  intro c
  induction c with
  | zero =>
    intro F t listed listed' a w z1 z2 h1 h2 hdc hF hw
    refine hdone F t listed a w z1 h2 hdc hF (fun m hm => ?_) hw.2
    by_cases h : listed.getD m false = true
    · exact h
    · rw [Bool.not_eq_true] at h
      obtain ⟨i, q1, q2⟩ := hleast listed z1 m hm h
      have := hrdy listed listed' z1 z2 h1 i q1 q2
      rw [hw.1] at this; cases this
  | succ c ih =>
    intro F t listed listed' a w z1 z2 h1 h2 hdc hF hw
    by_cases hall : ∀ m, m < n → listed.getD m false = true
    · refine hdone F t listed a w z1 h2 hdc hF hall (hw.1 ?_)
      refine List.eq_nil_iff_forall_not_mem.2 fun i hi => ?_
      obtain ⟨q1, o, q2, _⟩ := mem_ready.1 hi
      have q3 := (Array.getElem?_eq_some_iff.1 q2).1
      rw [List.size_toArray, List.length_take] at q3
      have := h1 i (by omega)
      rw [hall i (by omega), Array.getD_eq_getD_getElem?, Array.getElem?_eq_getElem (by omega)] at this
      rw [Array.getD_eq_getD_getElem?, Array.getElem?_eq_getElem (by omega)] at q1
      simp only [Option.getD_some] at q1 this
      rw [this] at q1; cases q1
    · have hex : ∃ m, m < n ∧ listed.getD m false = false := by
        by_cases h : ∃ m, m < n ∧ listed.getD m false = false
        · exact h
        · exact absurd (fun m hm => by
            by_cases h3 : listed.getD m false = true
            · exact h3
            · rw [Bool.not_eq_true] at h3; exact absurd ⟨m, hm, h3⟩ h) hall
      obtain ⟨m, hm, hml⟩ := hex
      obtain ⟨i0, p1, p2⟩ := hleast listed z1 m hm hml
      cases F with
      | zero =>
        have : i0 ∈ (List.range l.length).filter fun i => !listed.getD i true := by
          obtain ⟨q1, o, q2, _⟩ := mem_ready.1 p2
          exact List.mem_filter.2 ⟨List.mem_range.2 (by omega), by rw [q1]; rfl⟩
        rw [List.length_eq_zero_iff.1 (Nat.le_zero.1 hF)] at this; cases this
      | succ F =>
        rcases lin_cons (ops := l.toArray) (F := F) (t := t) (listed := listed) with ⟨q1, _⟩ | ⟨i, t', q1, q2⟩
        · rw [q1] at p2; cases p2
        · have hin : i < n := by
            rcases Nat.lt_or_ge i n with h | h
            · exact h
            · have hil : i < l.length := by
                obtain ⟨_, o, q3, _⟩ := mem_ready.1 q1
                have := (Array.getElem?_eq_some_iff.1 q3).1
                rwa [List.size_toArray] at this
              have := (hc.wait i m hil h (by omega)).listed hdc q1
              rw [hml] at this; cases this
          rw [q2]
          have hrun : ∀ a' w', wpAny C.P .any (l.take n).toArray (Qk C (.inRegion l.toArray (List.range' n (l.length - n)) :: k)) c (listed'.setIfInBounds i true) a' w' → Run C.P C.b C.PHI (.inRegion l.toArray (Region.linearise.go .any l.toArray F t' (listed.setIfInBounds i true) []) :: k) a' w' := fun a' w' hw' => by
            refine ih F t' _ _ a' w' (by simpa using z1) (by simpa using z2) (fun j hj => ?_) (fun j hj => ?_) (hdc.set q1) ?_ hw'
            · by_cases e : i = j
              · subst e
                rw [Array.getD_eq_getD_getElem?, Array.getElem?_setIfInBounds_self_of_lt (by omega), Array.getD_eq_getD_getElem?, Array.getElem?_setIfInBounds_self_of_lt (by omega)]
              · rw [getD_set_ne false e, getD_set_ne false e, h1 j hj]
            · rw [getD_set_ne false (by omega), h2 j hj]
            · have hlt : ((List.range l.length).filter fun x => !(listed.setIfInBounds i true).getD x true).length < ((List.range l.length).filter fun x => !listed.getD x true).length := by
                have hsub : ((List.range l.length).filter fun x => !(listed.setIfInBounds i true).getD x true) = ((List.range l.length).filter fun x => !listed.getD x true).filter fun x => decide (x ≠ i) := by
                  rw [List.filter_filter]
                  refine List.filter_congr fun x hx => ?_
                  by_cases e : i = x
                  · subst e
                    rw [Array.getD_eq_getD_getElem?, Array.getElem?_setIfInBounds_self_of_lt (by omega)]; simp
                  · rw [getD_set_ne true e]; simp [show x ≠ i from fun h => e h.symm]
                rw [hsub]
                refine List.length_filter_lt_length_iff_exists.2 ⟨i, ?_, by simp⟩
                obtain ⟨r1, o, r2, _⟩ := mem_ready.1 q1
                exact List.mem_filter.2 ⟨List.mem_range.2 (by omega), by rw [r1]; rfl⟩
              omega
          have hop := hw.2 i (hrdy listed listed' z1 z2 h1 i hin q1)
          unfold wpOp at hop
          obtain ⟨_, o, r2, _⟩ := mem_ready.1 q1
          have hlo : l[i]? = some o := by rw [← List.getElem?_toArray]; exact r2
          rw [hopn i hin, r2] at hop
          dsimp only at hop
          rw [wanted_take hc hlo hin] at hop
          by_cases hwn : Region.wanted o (yielded l.toArray a.tmps) = true
          · rw [if_pos hwn] at hop
            rcases hop with hop | ⟨-, _, _, hq⟩
            · exact Run.op r2 hwn (.inr (noDefer_mem hnd (List.mem_of_getElem? hlo))) (Oper.upon_imp hrun (fun e a w hq => hq.1) hop)
            · exact absurd hq.1 (by simp)
          · rw [if_neg hwn] at hop
            exact Run.opSkip r2 (by simpa using hwn) (hrun _ _ hop)
/-- The region's first n operations by a plan, then the rest in a row. -/
theorem J.regY {id : Nat} {l : List Oper} (n : Nat) (p : Pt) (hm : C.P.follows .mixedOrders = true)
    (hB : ((decide (n ≤ l.length) && cutB l n) && (decide (p.size = (l.take n).length) && (planB (l.take n).toArray (Array.replicate (l.take n).length false) p && (Region.noSelect (l.take n).toArray && noDefer l)))) = true)
    (h : G (.any p) C (l.take n) st M (opsOf (l.take n) p) (.inRegion l.toArray (List.range' n (l.length - n)) :: k)) : J C st M (.code (.region id l.toArray true) :: k) := by
  simp only [Bool.and_eq_true, decide_eq_true_eq] at hB
  obtain ⟨⟨h1, h2⟩, h3, h4, h5, h6⟩ := hB
  have hlen : (l.take n).length = n := by rw [List.length_take]; omega
  refine .mk fun a w hf hd hw => ?_
  refine Run.step (a' := a) (w' := { w with drawn := w.drawn + 1 }) (fun cs => stepR_region_draw) ?_
  simp only [Region.schedule, hm, Bool.true_or, if_true]
  have h7 := h.go rfl h5 (Array.replicate (l.take n).length false) (DC.start _ _) h4 a _ hf hd hw.drawn
  rw [h3, hlen] at h7
  refine run_cut (n := n) h1 (cut_ok h2) h6 n _ _ _ (Array.replicate n false) a _ (by simp) (by simp) (fun i hi => ?_) (fun i hi => ?_) (DC.start _ _) ?_ ?_
  · rw [Array.getD_eq_getD_getElem?, Array.getD_eq_getD_getElem?, Array.getElem?_replicate, Array.getElem?_replicate, if_pos hi, if_pos (by rw [List.size_toArray]; omega)]
  · rw [Array.getD_eq_getD_getElem?, Array.getElem?_replicate]
    split <;> rfl
  · have := List.length_filter_le (fun i => !(Array.replicate l.toArray.size false).getD i true) (List.range l.length)
    rw [List.length_range] at this
    simpa using this
  · exact wpAny_of_wpK (fun a w hr => ⟨rfl, hr⟩) n _ _ _ _ h7
theorem J.inReg {l r : List Oper} {n : Nat} (hl : l.drop n = r) (h : G .seq C l st M r k) : J C st M (.inRegion l.toArray (List.range' n (l.length - n)) :: k) := by
  subst hl
  refine .mk fun a w hf hd hw => h.go a w hf hd hw _ ?_
  refine List.ext_getElem? fun i => ?_
  rw [List.getElem?_map, List.getElem?_map, List.getElem?_drop]
  by_cases hi : i < l.length - n
  · rw [List.getElem?_eq_getElem (by rw [List.length_range']; exact hi), List.getElem_range', Nat.one_mul]
    simp
    rw [List.getElem?_eq_getElem (by omega)]; rfl
  · rw [List.getElem?_eq_none (by rw [List.length_range']; omega), List.getElem?_eq_none (by omega)]; rfl
end Go.Sl
/-
  Contracts of rivers: the way down as an iterator.
-/
namespace Go.Proofs.YtceaamdomkjmlaaGreatDoor
open Go.RowKit Go.Sl Go.Num
/-- The first K gauges from one on down. -/
def dnS (l : List Rch) (g : Int) (K : Nat) : List Int := (List.range K).map fun i => itr l i g
theorem dnS_len (l : List Rch) (g : Int) (K : Nat) : (dnS l g K).length = K := by rw [dnS, List.length_map, List.length_range]
theorem dnS_get (l : List Rch) (g : Int) {K i : Nat} (h : i < K) : (dnS l g K)[i]? = some (itr l i g) := by
  rw [dnS, List.getElem?_map, List.getElem?_range h]; rfl
theorem down_iter (w0 : World) (Bg Bl : Nat) (a : Option Addr) (l : List Rch) (c : Nat) (g : Int) (K : Nat) (hA : SlAt w0 a 2 (l.map rcV)) (hn : l.length ≤ 1000000) (hk : ∀ i, i < K → 0 ≤ itr l i g ∧ itr l i g < l.length) :
    IterH Tryz.prog w0 [.blk Bg 3 [.int .i64 g] 1, .blk Bl 22 [.slice a l.length c] 1] 81 #[.pointer (some ⟨Bg, 0, none⟩), .pointer (some ⟨Bl, 0, none⟩)] (fun e : Int => [.int .i64 e]) (dnS l g K) (itr l K g < 0) := by
  intro X Rs Inv Out fY cY hfin hY x0 hI0 M1 w hw
  rw [dnS_len] at hfin ⊢
  refine enterR [(0, .func fY #[] cY), (1, .pointer (some ⟨Bg, 0, none⟩)), (2, .pointer (some ⟨Bl, 0, none⟩))] hw Tryz.func81 Tryz.ntmps81 ?_
  all_goals (refine go ?_; and_intros <;> (try exact trivial) <;> repeat (first | refine fun (Bk : Nat) => ?_ | intro h))
  refine J.loop (c := _) ((0, x0) : Nat × X) (fun s => K + 1 - s.1) (fun s => [(0, .func fY #[] cY), (1, .pointer (some ⟨Bg, 0, none⟩)), (2, .pointer (some ⟨Bl, 0, none⟩)), (4, .int .i64 (itr l s.1 g))]) (fun s => .blk Bg 3 [.int .i64 g] 1 :: .blk Bl 22 [.slice a l.length c] 1 :: (Rs s.2 ++ M1)) (fun s => s.1 ≤ K ∧ Inv s.1 s.2) ?_ sbT sbL ?_
  · exact ⟨Nat.zero_le _, hI0⟩
  clear hI0 hw
  intro ⟨i, x⟩ ⟨h1, h2⟩ ih
  dsimp only at h1 h2 ⊢
  by_cases hi : i < K
  · obtain ⟨h3, h4⟩ := hk i hi
    have hy := hY i x _ h2 (dnS_get l g hi)
    have ih := fun x' h => ih (i + 1, x') ⟨hi, h⟩ (by dsimp only; omega)
    simp only [itr_succ] at ih
    clear hk
    generalize itr l i g = y at *
    obtain ⟨j, rfl⟩ : ∃ j : Nat, y = j := ⟨y.toNat, by omega⟩
    have hj : j < l.length := by omega
    obtain ⟨ba, oa, rfl, hra⟩ := SlAt.all hA (by omega)
    have hrj := hra j hj
    rw [dnOf_at hj] at ih
    clear hra
    generalize l[j] = r at *
    obtain ⟨dn, ws, adr, cap⟩ := r
    dsimp only [rcV] at *
    all_goals (refine go ?_; and_intros <;> (try exact trivial) <;> repeat (first | refine fun (Bk : Nat) => ?_ | intro h))
    repeat' ((first | (refine G.callG (Rs := Rs) (x := x) (M1 := M1) (Inv (i + 1)) Out hy rfl rfl rfl rfl (by (repeat (first | exact Splt.nil | apply Splt.cons))) ?_ ?_; all_goals intro x' hx')) <;> (refine go ?_; and_intros <;> (try exact trivial) <;> repeat (first | refine fun (Bk : Nat) => ?_ | intro h)))
    · exact J.fin (ih x' hx')
    · refine ret0 Tryz.func81 Tryz.results81 ?_
      exact fun w' hw' => ⟨rfl, x', hw'.forget sbL, .inr hx'⟩
  · obtain rfl : i = K := by omega
    have hf := hfin.resolve_right fun h => h x h2
    clear ih hk
    generalize itr l i g = y at *
    all_goals (refine go ?_; and_intros <;> (try exact trivial) <;> repeat (first | refine fun (Bk : Nat) => ?_ | intro h))
    refine end0 Tryz.func81 Tryz.results81 ?_
    exact fun w' hw' => ⟨rfl, x, hw', .inl h2⟩
theorem down_holds (w0 : World) (M : List Row) (w : World) (a : Option Addr) (l : List Rch) (c : Nat) (g : Int) (hw : Sat w0 M w) :
    Calls Tryz.prog 50 #[.slice a l.length c, .int .i64 g] w fun e w' => ∃ x : Nat × Nat, e = .returned (.func (.func 81) #[] #[.pointer (some ⟨x.1, 0, none⟩), .pointer (some ⟨x.2, 0, none⟩)]) ∧ Sat w0 (.blk x.1 3 [.int .i64 g] 1 :: .blk x.2 22 [.slice a l.length c] 1 :: M) w' := by
  refine enterR [(0, .slice a l.length c), (1, .int .i64 g)] hw Tryz.func50 Tryz.ntmps50 ?_
  all_goals (refine go ?_; and_intros <;> (try exact trivial) <;> repeat (first | refine fun (Bk : Nat) => ?_ | intro h))
  refine ret1 Tryz.func50 Tryz.results50 ?_
  exact fun w' hw' => ⟨(_, _), rfl, hw'⟩
end Go.Proofs.YtceaamdomkjmlaaGreatDoor
/-
  Contracts of rivers: the program's Check.
-/
namespace Go.Proofs.YtceaamdomkjmlaaGreatDoor
open Go.RowKit Go.Sl Go.Num
/-- The kernels of a river stand in memory. -/
def KerAt (w : World) (l : List Rch) : Prop := ∀ r ∈ l, SlAt w r.adr 1 (r.ws.map isV)
theorem KerAt.below {w w' : World} {l : List Rch} (h : KerAt w l) (hb : Below w.heap.size w w') : KerAt w' l := fun r hr => (h r hr).below hb
theorem badRs_step {n i : Nat} {l : List Rch} (hi : i < l.length) : badRs n i (l.drop i) = if badR1 n i l[i] ≠ 0 then badR1 n i l[i] else badRs n (i + 1) (l.drop (i + 1)) := by
  rw [List.drop_eq_getElem_cons hi, badRs]
theorem inR_of {l : List Rch} (h : badRs l.length 0 l = 0) : InR l := fun g hg => by
  have := badRs_ok h g hg
  rw [badR1] at this
  split at this
  · cases this
  · omega
theorem least {p : Nat → Prop} : ∀ n, p n → ∃ K, K ≤ n ∧ p K ∧ ∀ k, k < K → ¬ p k := fun n => by
  induction n using Nat.strongRecOn with
  | _ n ih =>
    intro h
    by_cases hc : ∃ m, m < n ∧ p m
    · obtain ⟨m, h1, h2⟩ := hc
      obtain ⟨K, h3, h4, h5⟩ := ih m h1 h2
      exact ⟨K, by omega, h4, h5⟩
    · exact ⟨n, Nat.le_refl _, h, fun k hk h2 => hc ⟨k, hk, h2⟩⟩
/-- How far a check goes down. -/
theorem ways {l : List Rch} (h : InR l) {g : Int} (h0 : 0 ≤ g) (h1 : g < l.length) : ∃ K, (∀ i, i < K → 0 ≤ itr l i g ∧ itr l i g < l.length) ∧ (K ≤ l.length ∧ itr l K g < 0 ∧ itr l l.length g < 0 ∨ K = l.length + 1 ∧ 0 ≤ itr l l.length g) := by
  by_cases hc : itr l l.length g < 0
  · obtain ⟨K, h2, h3, h4⟩ := least (p := fun k => itr l k g < 0) _ hc
    exact ⟨K, fun i hi => ⟨by have := h4 i hi; omega, (h.in_ i h1 (by omega)).2⟩, .inl ⟨h2, h3, hc⟩⟩
  · exact ⟨l.length + 1, fun i hi => ⟨itr_round h h1 (by omega) i, (h.in_ i h1 (by omega)).2⟩, .inr ⟨rfl, by omega⟩⟩
theorem riv_no {l : List Rch} (h1 : l.length ≤ 40) (h2 : badRs l.length 0 l = 0) {g : Nat} (hg : g < l.length) (h : 0 ≤ itr l l.length g) : rivErr l = 4 := by
  rw [rivErr, if_neg (by omega), if_neg (by rw [h2]; decide), if_neg]
  intro hc
  have := of_decide_eq_true (List.all_eq_true.1 hc g (List.mem_range.2 hg))
  omega
theorem riv_yes {l : List Rch} (h1 : l.length ≤ 40) (h2 : badRs l.length 0 l = 0) (h : ∀ g : Nat, g < l.length → itr l l.length g < 0) : rivErr l = 0 := by
  rw [rivErr, if_neg (by omega), if_neg (by rw [h2]; decide), if_pos]
  exact List.all_eq_true.2 fun g hg => decide_eq_true (h g (List.mem_range.1 hg))
theorem vCheckR_holds (a : Option Addr) (l : List Rch) (c : Nat) (w : World) (hA : SlAt w a 2 (l.map rcV)) (hK : KerAt w l) :
    Calls Tryz.prog 25 #[.slice a l.length c] w fun e w' => e = .returned (.int .i64 (rivErr l)) ∧ Below w.heap.size w w' := by
  refine enterA [(0, .slice a l.length c)] Tryz.func25 Tryz.ntmps25 ?_
  by_cases hl : 40 < l.length
  · rw [rivErr, if_pos hl]
    all_goals (refine go ?_; and_intros <;> (try exact trivial) <;> repeat (first | refine fun (Bk : Nat) => ?_ | intro h))
    all_goals refine ret1b Tryz.func25 Tryz.results25 ?_
    all_goals rfl
  all_goals (refine go ?_; and_intros <;> (try exact trivial) <;> repeat (first | refine fun (Bk : Nat) => ?_ | intro h))
  rename_i B1
  revert Bk; intro B2
  refine J.loop (c := _) (0 : Nat) (fun s => l.length - s) (fun s => [(1, .pointer (some ⟨B1, 0, none⟩)), (2, .pointer (some ⟨B2, 0, none⟩)), (10, .slice a l.length c), (11, .int .i64 l.length), (12, .int .i64 s)]) (fun s => [.blk B2 30 [.int .i64 0] 1, .blk B1 22 [.slice a l.length c] 1]) (fun s => s ≤ l.length ∧ badRs l.length 0 l = badRs l.length s (l.drop s)) ?_ sbT sbL ?_
  · exact ⟨Nat.zero_le _, rfl⟩
  intro i ⟨h1, h2⟩ ih
  by_cases hi : i < l.length
  · obtain ⟨ba, oa, rfl, hra⟩ := SlAt.all hA (by omega)
    have hri := hra i hi
    rw [badRs_step hi] at h2
    have hkk := hK _ (List.getElem_mem hi)
    have hk := fun w' (hb : Below w.heap.size w w') => kCheck_holds l[i].adr l[i].ws l[i].cap w' (hkk.below hb)
    have he : badR1 l.length i l[i] ≠ 0 → rivErr l = badR1 l.length i l[i] := fun h => by
      rw [if_pos h] at h2
      rw [rivErr, if_neg hl, if_pos (by rw [h2]; exact h), h2]
    have ih := fun (h : badR1 l.length i l[i] = 0) => ih (i + 1) ⟨hi, by rw [if_neg (fun h3 => h3 h)] at h2; exact h2⟩ (by omega)
    clear hra h2 hkk
    generalize l[i] = r at *
    obtain ⟨dn, ws, adr, cap⟩ := r
    dsimp only [rcV, badR1] at *
    generalize kerErr ws = ke at *
    generalize rivErr l = rv at *
    by_cases h3 : dn < -1 ∨ (l.length : Int) ≤ dn
    · rw [if_pos h3] at he
      obtain rfl := he (by decide)
      clear ih he
      all_goals (refine go ?_; and_intros <;> (try exact trivial) <;> repeat (first | refine fun (Bk : Nat) => ?_ | intro h))
      repeat' ((first | (refine G.cvb hk ?_)) <;> (refine go ?_; and_intros <;> (try exact trivial) <;> repeat (first | refine fun (Bk : Nat) => ?_ | intro h)))
      all_goals refine ret1b Tryz.func25 Tryz.results25 ?_
      all_goals rfl
    rw [if_neg h3] at he ih
    by_cases h4 : dn = i ∨ dn < 0 ∧ 0 < ws.length ∨ 0 ≤ dn ∧ ke ≠ 0
    · rw [if_pos h4] at he
      obtain rfl := he (by decide)
      clear ih he
      all_goals (refine go ?_; and_intros <;> (try exact trivial) <;> repeat (first | refine fun (Bk : Nat) => ?_ | intro h))
      repeat' ((first | (refine G.cvb hk ?_)) <;> (refine go ?_; and_intros <;> (try exact trivial) <;> repeat (first | refine fun (Bk : Nat) => ?_ | intro h)))
      all_goals refine ret1b Tryz.func25 Tryz.results25 ?_
      all_goals rfl
    · rw [if_neg h4] at ih
      have ih := ih rfl
      clear he
      all_goals (refine go ?_; and_intros <;> (try exact trivial) <;> repeat (first | refine fun (Bk : Nat) => ?_ | intro h))
      repeat' ((first | (refine G.cvb hk ?_)) <;> (refine go ?_; and_intros <;> (try exact trivial) <;> repeat (first | refine fun (Bk : Nat) => ?_ | intro h)))
      all_goals exact J.fin ih
  · obtain rfl : i = l.length := by omega
    rw [List.drop_length, badRs] at h2
    clear ih
    have hin := inR_of h2
    all_goals (refine go ?_; and_intros <;> (try exact trivial) <;> repeat (first | refine fun (Bk : Nat) => ?_ | intro h))
    refine J.loopD (c := _) ((0, []) : Nat × List Nat) (fun x => l.length - x.1) (fun x => x.2.map Sl.mark) (fun x => [(1, .pointer (some ⟨B1, 0, none⟩)), (2, .pointer (some ⟨B2, 0, none⟩)), (56, .int .i64 l.length), (57, .int .i64 x.1)]) (fun x => .blk B2 30 [.int .i64 0] 1 :: .blk B1 22 [.slice a l.length c] 1 :: Sl.mk x.2) (fun x => x.1 ≤ l.length ∧ ∀ i : Nat, i < x.1 → itr l l.length i < 0) ?_ rfl (by (repeat' (first | exact trivial | refine ⟨rfl, ?_⟩))) (List.Sublist.refl _) ?_
    · exact ⟨Nat.zero_le _, fun i h => absurd h (Nat.not_lt_zero _)⟩
    intro ⟨g, ds⟩ ⟨h3, h4⟩ ih
    dsimp only at h3 h4 ⊢
    by_cases hg : g < l.length
    · obtain ⟨K, hk1, hk2⟩ := ways hin (g := (g : Int)) (by omega) (by omega)
      have hno := riv_no (by omega) h2 hg
      have ih := fun (h : itr l l.length g < 0) Bd => ih (g + 1, Bd :: ds) ⟨hg, fun i hi => by
        rcases Nat.lt_or_ge i g with h5 | h5
        · exact h4 i h5
        · obtain rfl : i = g := by omega
          exact h⟩ (by dsimp only; omega)
      clear h4
      all_goals (refine goR ?_; and_intros <;> (try exact trivial) <;> repeat (first | refine fun (Bk : Nat) => ?_ | intro h))
      repeat' ((first | (apply G.cR (g := 50) (v := fun x : Nat × Nat => .func (.func 81) #[] #[.pointer (some ⟨x.1, 0, none⟩), .pointer (some ⟨x.2, 0, none⟩)]) (Mn := fun x => [.blk x.1 3 [.int .i64 g] 1, .blk x.2 22 [.slice a l.length c] 1]); rfl; rfl; exact fun w' hw' => down_holds _ _ w' a l c g hw'; rintro ⟨Bg, Bl⟩) | (apply J.regQ; exact Tryz.mixed; decide +kernel) | (apply J.regL'; exact Tryz.mixed; decide +kernel)) <;> (refine goR ?_; and_intros <;> (try exact trivial) <;> repeat (first | refine fun (Bk : Nat) => ?_ | intro h)))
      refine J.rangeH1 (e1 := fun e : Int => .int .i64 e) (es := dnS l g K) (fin := itr l K g < 0) (fun s : Nat × Int => [.blk Bk 3 [.int .i64 s.1] 1, .blk B2 30 [.int .i64 s.2] 1, .blk B1 22 [.slice a l.length c] 1]) (fun i s => s.1 = i ∧ s.2 = 0 ∧ i ≤ l.length) (fun cc s => cc = .ret ∧ s.2 = 4 ∧ K = l.length + 1 ∧ 0 ≤ itr l l.length g) (0, 0) (Sl.mk ds) (down_iter w Bg Bl a l c g K hA (by omega) hk1) (by
        rw [dnS_len]
        rcases hk2 with h | h
        · exact .inl h.2.1
        · exact .inr fun x hx => by omega) rfl rfl rfl (List.Perm.refl _) ⟨rfl, rfl, Nat.zero_le _⟩ ?_ ?_ ?_
      · intro i ⟨n, e⟩ y ⟨i1, i2, i3⟩ he L rr M' hrs hrp
        dsimp only at i1 i2 i3 ⊢
        subst i1 i2
        have hnK : n < K := by
          have := (List.getElem?_eq_some_iff.1 he).1
          rwa [dnS_len] at this
        clear he ih
        by_cases hn : n = l.length
        · have hk3 : K = l.length + 1 ∧ 0 ≤ itr l l.length g := hk2.resolve_left fun h => by omega
          all_goals (refine goR ?_; and_intros <;> (try exact trivial) <;> repeat (first | refine fun (Bk : Nat) => ?_ | intro h))
          repeat' ((first | (refine J.beginR rfl (i := 0) rfl hrs ?_) | (apply J.regQ; exact Tryz.mixed; decide +kernel) | (apply J.regL'; exact Tryz.mixed; decide +kernel)) <;> (refine goR ?_; and_intros <;> (try exact trivial) <;> repeat (first | refine fun (Bk : Nat) => ?_ | intro h)))
          exact J.sel (leaveGret (n + 1, 4) ⟨rfl, rfl, hk3⟩ rfl)
        · skip
          all_goals (refine goR ?_; and_intros <;> (try exact trivial) <;> repeat (first | refine fun (Bk : Nat) => ?_ | intro h))
          repeat' ((first | (refine J.beginR rfl (i := 0) rfl hrs ?_) | (apply J.regQ; exact Tryz.mixed; decide +kernel) | (apply J.regL'; exact Tryz.mixed; decide +kernel)) <;> (refine goR ?_; and_intros <;> (try exact trivial) <;> repeat (first | refine fun (Bk : Nat) => ?_ | intro h)))
          exact J.sel (leaveG hrs hrp (n + 1, 0) ⟨rfl, rfl, by omega⟩ rfl)
      · intro Bd ⟨n, e⟩ ⟨i1, i2, i3⟩
        dsimp only at i1 i2 i3 ⊢
        subst i2
        rw [dnS_len] at i1 i3
        have ih := ih (hk2.resolve_right (fun h => by omega)).2.2 Bd
        all_goals (refine go ?_; and_intros <;> (try exact trivial) <;> repeat (first | refine fun (Bk : Nat) => ?_ | intro h))
        exact J.finS ih
      · intro Bd ⟨n, e⟩ cc ⟨i1, i2, i3, i4⟩
        dsimp only at i1 i2 i3 i4 ⊢
        subst i1 i2
        rw [hno i4]
        all_goals (refine go ?_; and_intros <;> (try exact trivial) <;> repeat (first | refine fun (Bk : Nat) => ?_ | intro h))
        refine J.sel (T := .blk B2 30 [.int .i64 4] 1 :: Sl.mk (Bd :: ds)) ?_
        refine leaveM (v := .int .i64 4) (ds := Bd :: ds) (M0 := [.blk B2 30 [.int .i64 4] 1]) Tryz.func25 rfl rfl rfl rfl (RunsTo.one Tryz.results25 (by (first | (apply ResV.tmp; rfl) | (apply ResV.cell; rfl; (first | (apply LdV.one; (first | exact CellV.row0 (by assumption) rfl | exact CellV.rowS (by assumption) rfl | exact CellV.rowSS (by assumption) rfl | (apply CellV.blk; exact mm; rfl))) | (apply LdV.aggBlk; exact mm; rfl) | (apply LdV.part; exact mm; rfl; rfl) | (apply LdV.aggRow; assumption; rfl) | (apply LdV.partRow; assumption; rfl; rfl)))))) (List.perm_append_comm (l₁ := [_])) fun w' hw' => ?_
        exact ⟨rfl, hw'.below⟩
    · rw [riv_yes (by omega) h2 fun i hi => h4 i (by omega)]
      clear ih
      all_goals (refine go ?_; and_intros <;> (try exact trivial) <;> repeat (first | refine fun (Bk : Nat) => ?_ | intro h))
      refine J.sel (T := .blk B2 30 [.int .i64 0] 1 :: Sl.mk ds) ?_
      refine leaveM (v := .int .i64 0) (ds := ds) (M0 := [.blk B2 30 [.int .i64 0] 1]) Tryz.func25 rfl rfl rfl rfl (RunsTo.one Tryz.results25 (by (first | (apply ResV.tmp; rfl) | (apply ResV.cell; rfl; (first | (apply LdV.one; (first | exact CellV.row0 (by assumption) rfl | exact CellV.rowS (by assumption) rfl | exact CellV.rowSS (by assumption) rfl | (apply CellV.blk; exact mm; rfl))) | (apply LdV.aggBlk; exact mm; rfl) | (apply LdV.part; exact mm; rfl; rfl) | (apply LdV.aggRow; assumption; rfl) | (apply LdV.partRow; assumption; rfl; rfl)))))) (List.perm_append_comm (l₁ := [_])) fun w' hw' => ?_
      exact ⟨rfl, hw'.below⟩
end Go.Proofs.YtceaamdomkjmlaaGreatDoor
/-
  Contracts of rivers: the specification's Check; the first error.
-/
namespace Go.Proofs.YtceaamdomkjmlaaGreatDoor
open Go.RowKit Go.Sl Go.Num
def outG (n : Nat) (g : Int) : Bool := decide (g < 0) || decide ((n : Int) ≤ g)
/-- The first error of a river and of gauges. -/
def firstE (l : List Rch) (gs : List Int) : Int := if rivErr l ≠ 0 then rivErr l else if gs.any (outG l.length) = true then 3 else 0
theorem firstV_holds (a b : Option Addr) (l : List Rch) (gs : List Int) (c d : Nat) (w : World) (hA : SlAt w a 2 (l.map rcV)) (hK : KerAt w l) (hB : SlAt w b 1 (gs.map isV)) (hg : gs.length ≤ 1000000) :
    Calls Tryz.prog 49 #[.slice a l.length c, .slice b gs.length d] w fun e w' => e = .returned (.int .i64 (firstE l gs)) ∧ Below w.heap.size w w' := by
  refine enterA [(0, .slice a l.length c), (1, .slice b gs.length d)] Tryz.func49 Tryz.ntmps49 ?_
  have hc := fun w' (hb : Below w.heap.size w w') => vCheckR_holds a l c w' (hA.below hb) (hK.below hb)
  rw [firstE]
  have hle : rivErr l = 0 → l.length ≤ 40 := fun h => (riv_of h).len
  by_cases he : rivErr l = 0
  · have hle := hle he
    rw [if_neg (fun h => h he)]
    rw [he] at hc
    all_goals (refine go ?_; and_intros <;> (try exact trivial) <;> repeat (first | refine fun (Bk : Nat) => ?_ | intro h))
    repeat' ((first | (refine G.cvb hc ?_)) <;> (refine go ?_; and_intros <;> (try exact trivial) <;> repeat (first | refine fun (Bk : Nat) => ?_ | intro h)))
    refine J.loop (c := _) (0 : Nat) (fun s => gs.length - s) (fun s => [(0, .slice a l.length c), (13, .slice b gs.length d), (14, .int .i64 gs.length), (15, .int .i64 s)]) (fun s => []) (fun s => s ≤ gs.length ∧ ∀ i (h : i < gs.length), i < s → outG l.length gs[i] = false) ?_ sbT sbL ?_
    · exact ⟨Nat.zero_le _, fun i _ h => absurd h (Nat.not_lt_zero _)⟩
    intro i ⟨h1, h2⟩ ih
    by_cases hi : i < gs.length
    · obtain ⟨bb, ob, rfl, hrb⟩ := SlAt.all hB (by omega)
      have hri := hrb i hi
      have hno : outG l.length gs[i] = true → gs.any (outG l.length) = true := fun h => List.any_eq_true.2 ⟨_, List.getElem_mem hi, h⟩
      have ih := fun (h : outG l.length gs[i] = false) => ih (i + 1) ⟨hi, fun j q1 q3 => by
        rcases Nat.lt_or_ge j i with h5 | h5
        · exact h2 j q1 h5
        · obtain rfl : j = i := by omega
          exact h⟩ (by omega)
      clear hrb h2
      generalize gs[i] = y at *
      dsimp only [isV] at hri
      by_cases hy : outG l.length y = true
      · rw [if_pos (hno hy)]
        rw [outG, Bool.or_eq_true, decide_eq_true_eq, decide_eq_true_eq] at hy
        clear ih hno
        all_goals (refine go ?_; and_intros <;> (try exact trivial) <;> repeat (first | refine fun (Bk : Nat) => ?_ | intro h))
        all_goals refine ret1b Tryz.func49 Tryz.results49 ?_
        all_goals rfl
      · rw [Bool.not_eq_true] at hy
        have ih := ih hy
        rw [outG, Bool.or_eq_false_iff, decide_eq_false_iff_not, decide_eq_false_iff_not] at hy
        all_goals (refine go ?_; and_intros <;> (try exact trivial) <;> repeat (first | refine fun (Bk : Nat) => ?_ | intro h))
        exact J.fin ih
    · rw [if_neg (by
        rw [Bool.not_eq_true, List.any_eq_false]
        intro x hx
        obtain ⟨j, hj, rfl⟩ := List.getElem_of_mem hx
        rw [h2 j hj (by omega)]; decide)]
      clear ih
      all_goals (refine go ?_; and_intros <;> (try exact trivial) <;> repeat (first | refine fun (Bk : Nat) => ?_ | intro h))
      all_goals refine ret1b Tryz.func49 Tryz.results49 ?_
      all_goals rfl
  · rw [if_pos he]
    generalize rivErr l = rv at *
    all_goals (refine go ?_; and_intros <;> (try exact trivial) <;> repeat (first | refine fun (Bk : Nat) => ?_ | intro h))
    repeat' ((first | (refine G.cvb hc ?_)) <;> (refine go ?_; and_intros <;> (try exact trivial) <;> repeat (first | refine fun (Bk : Nat) => ?_ | intro h)))
    all_goals refine ret1b Tryz.func49 Tryz.results49 ?_
    all_goals rfl
end Go.Proofs.YtceaamdomkjmlaaGreatDoor
/-
  Contracts of rivers: Above and Path of both.
-/
namespace Go.Proofs.YtceaamdomkjmlaaGreatDoor
open Go.RowKit Go.Sl Go.Num
theorem errG_first (l : List Rch) (g : Int) : firstE l [g] = errG l g := by
  rw [firstE, errG]
  split
  · rfl
  · simp only [List.any_cons, List.any_nil, Bool.or_false, outG, Bool.or_eq_true, decide_eq_true_eq]
def aboveE (l : List Rch) (g : Int) : List Int × Int := if errG l g ≠ 0 then ([], errG l g) else (aboveL l g, 0)
theorem errG_ok {l : List Rch} {g : Int} (h : errG l g = 0) : rivErr l = 0 ∧ 0 ≤ g ∧ g < l.length := by
  rw [errG] at h
  split at h
  · rename_i h1; exact absurd h h1
  · rename_i h1
    split at h
    · cases h
    · exact ⟨Decidable.not_not.1 h1, by omega, by omega⟩
theorem vAbove_holds (a : Option Addr) (l : List Rch) (c : Nat) (g : Int) (w : World) (hA : SlAt w a 2 (l.map rcV)) (hK : KerAt w l) :
    Calls Tryz.prog 13 #[.slice a l.length c, .int .i64 g] w (RetI (fun v => .tuple #[v, .int .i64 (aboveE l g).2]) w (aboveE l g).1) := by
  have hf := fun w' (hb : Below w.heap.size w w') b hB => firstV_holds a b l [g] c 1 w' (hA.below hb) (hK.below hb) hB (show 1 ≤ 1000000 by decide)
  simp only [errG_first] at hf
  rw [aboveE]
  by_cases h0 : errG l g = 0
  · have hl := (riv_of (errG_ok h0).1).len
    have ha := fun w' (hb : Below w.heap.size w w') => above_holds a l c g w' (hA.below hb) (by omega)
    rw [if_neg (fun h => h h0)]
    rw [h0] at hf
    dsimp only
    refine enterA [(0, .slice a l.length c), (1, .int .i64 g)] Tryz.func13 Tryz.ntmps13 ?_
    all_goals (refine go ?_; and_intros <;> (try exact trivial) <;> repeat (first | refine fun (Bk : Nat) => ?_ | intro h))
    repeat' ((first | (apply G.sliceL; rfl; rfl; rfl; rfl; rfl; rfl; rfl; rfl; intro Bs) | (apply G.cV (g := 49); rfl; rfl; exact fun w' hw' => hf w' hw'.below _ (blkSlA (f := isV) (sz := 1) (l := [g]) hw' isV_len).1) | (apply G.cN (g := 52) (fun a' c' => .slice a' (aboveL l g).length c') ((aboveL l g).map isV); rfl; rfl; exact fun w' hw' => ha w' hw'.below; intro a1 c1 hp1 hq1)) <;> (refine go ?_; and_intros <;> (try exact trivial) <;> repeat (first | refine fun (Bk : Nat) => ?_ | intro h)))
    (refine ret2 Tryz.func13 Tryz.results13 ?_; intro w' hw)
    exact ⟨a1, c1, rfl, hw.sl (by exact mm), hq1, hw.below⟩
  · rw [if_pos h0]
    dsimp only
    generalize errG l g = E at *
    refine enterA [(0, .slice a l.length c), (1, .int .i64 g)] Tryz.func13 Tryz.ntmps13 ?_
    all_goals (refine go ?_; and_intros <;> (try exact trivial) <;> repeat (first | refine fun (Bk : Nat) => ?_ | intro h))
    repeat' ((first | (apply G.sliceL; rfl; rfl; rfl; rfl; rfl; rfl; rfl; rfl; intro Bs) | (apply G.cV (g := 49); rfl; rfl; exact fun w' hw' => hf w' hw'.below _ (blkSlA (f := isV) (sz := 1) (l := [g]) hw' isV_len).1)) <;> (refine go ?_; and_intros <;> (try exact trivial) <;> repeat (first | refine fun (Bk : Nat) => ?_ | intro h)))
    (refine ret2 Tryz.func13 Tryz.results13 ?_; intro w' hw)
    exact retI_nil (fun v => .tuple #[v, .int .i64 E]) hw.below
end Go.Proofs.YtceaamdomkjmlaaGreatDoor
/-
  Contracts of rivers: Path of both.
-/
namespace Go.Proofs.YtceaamdomkjmlaaGreatDoor
open Go.RowKit Go.Sl Go.Num
/-- A new slice of numbers, with the room that it has. -/
def RetJ (F : Value → Value) (w : World) (L : List Int) (e : Ending) (w' : World) : Prop := ∃ a' c', e = .returned (F (.slice a' L.length c')) ∧ SlAt w' a' 1 (L.map isV) ∧ (∀ p, a' = some p → w.heap.size ≤ p.block) ∧ Below w.heap.size w w' ∧ L.length ≤ c'
theorem RetJ.toI {F : Value → Value} {w : World} {L : List Int} {e : Ending} {w' : World} (h : RetJ F w L e w') : RetI F w L e w' := by
  obtain ⟨a, c, h1, h2, h3, h4, _⟩ := h
  exact ⟨a, c, h1, h2, h3, h4⟩
theorem retJ_nil {w w' : World} (F : Value → Value) (hb : Below w.heap.size w w') : RetJ F w [] (.returned (F (.slice none 0 0))) w' := ⟨none, 0, rfl, SlAt.nil, (fun p hp => by cases hp), hb, Nat.le_refl _⟩
theorem satJ {w0 w : World} {M : List Row} {i E base : Nat} {a : Option Addr} {n c : Nat} {l : List Int} (hw : Sat w0 M w) (hm : M[i]? = some (.own base (.slice a n c) E 1 n (flat isV l))) (hn : l.length = n) (F : Value → Value) : RetJ F w0 l (.returned (F (.slice a n c))) w := by
  have hmem := List.mem_of_getElem? hm
  refine ⟨a, c, by rw [hn], SlAt.ofOwn isV_len (hw.hold _ hmem) hn, fun p hp => ((hw.old _ hmem).2 p.block (by subst hp; rfl)).1, hw.below, ?_⟩
  obtain ⟨_, hv⟩ := hw.hold _ hmem
  rcases hv with ⟨h1, h2⟩ | ⟨g, cap, cur, h1, _, _, h3, _⟩
  · omega
  · cases h1; omega
theorem firstE_two {l : List Rch} {fr to : Int} : firstE l [fr, to] = if errG l fr ≠ 0 then errG l fr else errG l to := by
  rw [firstE, errG, errG]
  by_cases h : rivErr l = 0
  · simp only [h, ne_eq, not_true_eq_false, ↓reduceIte, List.any_cons, List.any_nil, Bool.or_false, outG, Bool.or_eq_true, decide_eq_true_eq]
    by_cases h1 : fr < 0 ∨ (l.length : Int) ≤ fr
    · simp [h1]
    · simp [h1]
  · simp [h]
theorem pathE_bad {l : List Rch} {fr to : Int} (h : firstE l [fr, to] ≠ 0) : pathE l fr to = ([], firstE l [fr, to]) := by
  rw [firstE_two] at h ⊢
  rw [pathE]
  by_cases h1 : errG l fr = 0
  · simp only [h1, ne_eq, not_true_eq_false, ↓reduceIte] at h ⊢
    rw [if_pos h]
  · simp [h1]
theorem first_ok {l : List Rch} {fr to : Int} (h : firstE l [fr, to] = 0) : rivErr l = 0 ∧ (0 ≤ fr ∧ fr < l.length) ∧ 0 ≤ to ∧ to < l.length := by
  rw [firstE_two] at h
  by_cases h1 : errG l fr = 0
  · rw [if_neg (fun h2 => h2 h1)] at h
    have h2 := errG_ok h1
    have h3 := errG_ok h
    exact ⟨h2.1, h2.2, h3.2⟩
  · rw [if_pos h1] at h; exact absurd h h1
theorem pathE_none {l : List Rch} (h : rivErr l = 0) {fr to : Int} (h1 : 0 ≤ fr ∧ fr < l.length) (h2 : 0 ≤ to ∧ to < l.length) {K : Nat} (hK : itr l K fr < 0) (hn : ∀ i, i < K → itr l i fr ≠ to) : pathE l fr to = ([], 8) := by
  have e1 : errG l fr = 0 := by rw [errG, if_neg (fun h3 => h3 h), if_neg (by omega)]
  have e2 : errG l to = 0 := by rw [errG, if_neg (fun h3 => h3 h), if_neg (by omega)]
  rw [pathE, if_neg (fun h3 => h3 e1), if_neg (fun h3 => h3 e2)]
  rw [pathF_none _ fun d e => ?_]
  rcases Nat.lt_or_ge d K with h3 | h3
  · exact hn d h3 e
  · have := itr_add l K (d - K) fr
    rw [show K + (d - K) = d by omega] at this
    have := itr_neg (l := l) (k := d - K) hK
    omega
theorem dnS_succ (l : List Rch) (g : Int) (K : Nat) : dnS l g (K + 1) = dnS l g K ++ [itr l K g] := by
  rw [dnS, dnS, List.range_succ, List.map_append]; rfl
theorem vPathJ_holds (a : Option Addr) (l : List Rch) (c : Nat) (fr to : Int) (w : World) (hA : SlAt w a 2 (l.map rcV)) (hK : KerAt w l) :
    Calls Tryz.prog 11 #[.slice a l.length c, .int .i64 fr, .int .i64 to] w (RetJ (fun v => .tuple #[v, .int .i64 (pathE l fr to).2]) w (pathE l fr to).1) := by
  have hf := fun w' (hb : Below w.heap.size w w') b hB => firstV_holds a b l [fr, to] c 2 w' (hA.below hb) (hK.below hb) hB (show 2 ≤ 1000000 by decide)
  by_cases h0 : firstE l [fr, to] = 0
  · rw [h0] at hf
    obtain ⟨h1, h2, h3⟩ := first_ok h0
    have hR := riv_of h1
    have hl := hR.len
    have hd := hR.dep h2.2
    have hnone := pathE_none h1 h2 h3 hd.1
    have hsome := fun d (e : itr l d fr = to) => Riv.pathE h1 h2 h3 e
    refine enterA [(0, .slice a l.length c), (1, .int .i64 fr), (2, .int .i64 to)] Tryz.func11 Tryz.ntmps11 ?_
    all_goals (refine go ?_; and_intros <;> (try exact trivial) <;> repeat (first | refine fun (Bk : Nat) => ?_ | intro h))
    repeat' ((first | (apply G.sliceL; rfl; rfl; rfl; rfl; rfl; rfl; rfl; rfl; intro Bs) | (apply G.cV (g := 49); rfl; rfl; exact fun w' hw' => hf w' hw'.below _ (blkSlA (f := isV) (sz := 1) (l := [fr, to]) hw' isV_len).1)) <;> (refine go ?_; and_intros <;> (try exact trivial) <;> repeat (first | refine fun (Bk : Nat) => ?_ | intro h)))
    revert Bk; intro B9
    all_goals (refine goR ?_; and_intros <;> (try exact trivial) <;> repeat (first | refine fun (Bk : Nat) => ?_ | intro h))
    repeat' ((first | (apply G.cR (g := 50) (v := fun x : Nat × Nat => .func (.func 81) #[] #[.pointer (some ⟨x.1, 0, none⟩), .pointer (some ⟨x.2, 0, none⟩)]) (Mn := fun x => [.blk x.1 3 [.int .i64 fr] 1, .blk x.2 22 [.slice a l.length c] 1]); rfl; rfl; exact fun w' hw' => down_holds _ _ w' a l c fr hw'; rintro ⟨Bg, Bl⟩) | (apply J.regQ; exact Tryz.mixed; decide +kernel) | (apply J.regL'; exact Tryz.mixed; decide +kernel)) <;> (refine goR ?_; and_intros <;> (try exact trivial) <;> repeat (first | refine fun (Bk : Nat) => ?_ | intro h)))
    apply J.nilOwn (E := 3) (size := 1)
    refine J.rangeH1 (e1 := fun e : Int => .int .i64 e) (es := dnS l fr (dpt l fr)) (fin := itr l (dpt l fr) fr < 0) (fun s : (Option Addr × Nat × Nat) × Value × Int => [.own 0 (.slice s.1.1 s.1.2.2 s.1.2.1) 3 1 s.1.2.2 (flat isV (dnS l fr s.1.2.2)), .blk B9 29 [.slice s.1.1 s.1.2.2 s.1.2.1] 1, .blk _ 3 [.int .i64 to] 1, .blk _ 29 [s.2.1] 1, .blk _ 30 [.int .i64 s.2.2] 1]) (fun i s => s.1.2.2 = i ∧ s.2.1 = .slice none 0 0 ∧ s.2.2 = 0 ∧ ∀ j, j < i → itr l j fr ≠ to) (fun cc s => cc = .ret ∧ s.2.1 = .slice s.1.1 s.1.2.2 s.1.2.1 ∧ s.2.2 = 0 ∧ ∃ d, s.1.2.2 = d + 1 ∧ itr l d fr = to) ((none, 0, 0), .slice none 0 0, 0) _ (down_iter w Bg Bl a l c fr (dpt l fr) hA (by omega) fun i hi => ⟨hd.2.2 i hi, (hR.in_ i h2.2 (by omega)).2⟩) (.inl hd.1) rfl rfl rfl (by (repeat (first | exact List.Perm.refl _ | (refine pickT (by (repeat (first | exact Pick.head | apply Pick.tail))) ?_)))) ⟨rfl, rfl, rfl, fun j h => absurd h (Nat.not_lt_zero _)⟩ ?_ ?_ ?_
    · intro i ⟨⟨au, cu, n⟩, v, e⟩ y ⟨i1, i2, i3, i4⟩ he L rr M' hrs hrp
      dsimp only at i1 i2 i3 i4 ⊢
      subst i1 i2 i3
      have hy1 := (List.getElem?_eq_some_iff.1 he).1
      rw [dnS_len] at hy1
      rw [dnS_get l fr hy1] at he
      cases he
      have hs := dnS_succ l fr n
      have hap : flat isV (dnS l fr n) ++ isV (itr l n fr) = flat isV (dnS l fr n ++ [itr l n fr]) := flat1 isV _ _
      have hdl := hd.2.1
      have hdl2 := hR.len
      by_cases ht : itr l n fr = to
      · clear hd hnone hsome
        generalize hy9 : itr l n fr = y at hs hap ht ⊢
        all_goals (refine goR ?_; and_intros <;> (try exact trivial) <;> repeat (first | refine fun (Bk : Nat) => ?_ | intro h))
        repeat' ((first | (refine J.beginR rfl (i := 0) rfl hrs ?_) | (apply G.sliceL; rfl; rfl; rfl; rfl; rfl; rfl; rfl; rfl; intro Bs) | (apply G.apV; rfl; rfl; rfl; (repeat (first | exact RAt.head | apply RAt.tail)); exact SrcV.blk (by exact mm) rfl rfl; exact hap; omega; omega; intro a2 c2) | (apply J.regQ; exact Tryz.mixed; decide +kernel) | (apply J.regL'; exact Tryz.mixed; decide +kernel)) <;> (refine goR ?_; and_intros <;> (try exact trivial) <;> repeat (first | refine fun (Bk : Nat) => ?_ | intro h)))
        rw [← hs]
        exact J.sel (leaveGret ((a2, c2, n + 1), .slice a2 (n + 1) c2, 0) ⟨rfl, rfl, rfl, n, rfl, hy9.trans ht⟩ rfl)
      · have i4 : ∀ j, j < n + 1 → itr l j fr ≠ to := fun j hj => by
          rcases Nat.lt_or_ge j n with h | h
          · exact i4 j h
          · obtain rfl : j = n := by omega
            exact ht
        clear hd hnone hsome
        generalize itr l n fr = y at hs hap ht ⊢
        all_goals (refine goR ?_; and_intros <;> (try exact trivial) <;> repeat (first | refine fun (Bk : Nat) => ?_ | intro h))
        repeat' ((first | (refine J.beginR rfl (i := 0) rfl hrs ?_) | (apply G.sliceL; rfl; rfl; rfl; rfl; rfl; rfl; rfl; rfl; intro Bs) | (apply G.apV; rfl; rfl; rfl; (repeat (first | exact RAt.head | apply RAt.tail)); exact SrcV.blk (by exact mm) rfl rfl; exact hap; omega; omega; intro a2 c2) | (apply J.regQ; exact Tryz.mixed; decide +kernel) | (apply J.regL'; exact Tryz.mixed; decide +kernel)) <;> (refine goR ?_; and_intros <;> (try exact trivial) <;> repeat (first | refine fun (Bk : Nat) => ?_ | intro h)))
        rw [← hs]
        exact J.sel (leaveG hrs hrp ((a2, c2, n + 1), .slice none 0 0, 0) ⟨rfl, rfl, rfl, i4⟩ rfl)
    · intro Bd ⟨⟨au, cu, n⟩, v, e⟩ ⟨i1, i2, i3, i4⟩
      dsimp only at i1 i2 i3 i4 ⊢
      subst i2 i3
      rw [hnone fun i hi => i4 i (by rwa [dnS_len])]
      all_goals (refine go ?_; and_intros <;> (try exact trivial) <;> repeat (first | refine fun (Bk : Nat) => ?_ | intro h))
      refine leaveM (v := .tuple #[.slice none 0 0, .int .i64 8]) (ds := [Bd]) Tryz.func11 rfl rfl rfl rfl (RunsTo.two Tryz.results11 (by (first | (apply ResV.tmp; rfl) | (apply ResV.cell; rfl; (first | (apply LdV.one; (first | exact CellV.row0 (by assumption) rfl | exact CellV.rowS (by assumption) rfl | exact CellV.rowSS (by assumption) rfl | (apply CellV.blk; exact mm; rfl))) | (apply LdV.aggBlk; exact mm; rfl) | (apply LdV.part; exact mm; rfl; rfl) | (apply LdV.aggRow; assumption; rfl) | (apply LdV.partRow; assumption; rfl; rfl))))) (by (first | (apply ResV.tmp; rfl) | (apply ResV.cell; rfl; (first | (apply LdV.one; (first | exact CellV.row0 (by assumption) rfl | exact CellV.rowS (by assumption) rfl | exact CellV.rowSS (by assumption) rfl | (apply CellV.blk; exact mm; rfl))) | (apply LdV.aggBlk; exact mm; rfl) | (apply LdV.part; exact mm; rfl; rfl) | (apply LdV.aggRow; assumption; rfl) | (apply LdV.partRow; assumption; rfl; rfl)))))) (List.Perm.refl _) fun w' hw' => ?_
      exact retJ_nil (fun v => .tuple #[v, .int .i64 8]) hw'.below
    · intro Bd ⟨⟨au, cu, n⟩, v, e⟩ cc ⟨i1, i2, i3, d, i4, i5⟩
      dsimp only at i1 i2 i3 i4 i5 ⊢
      subst i1 i2 i3 i4
      rw [hsome d i5]
      all_goals (refine go ?_; and_intros <;> (try exact trivial) <;> repeat (first | refine fun (Bk : Nat) => ?_ | intro h))
      refine leaveM (v := .tuple #[.slice au (d + 1) cu, .int .i64 0]) (ds := [Bd]) Tryz.func11 rfl rfl rfl rfl (RunsTo.two Tryz.results11 (by (first | (apply ResV.tmp; rfl) | (apply ResV.cell; rfl; (first | (apply LdV.one; (first | exact CellV.row0 (by assumption) rfl | exact CellV.rowS (by assumption) rfl | exact CellV.rowSS (by assumption) rfl | (apply CellV.blk; exact mm; rfl))) | (apply LdV.aggBlk; exact mm; rfl) | (apply LdV.part; exact mm; rfl; rfl) | (apply LdV.aggRow; assumption; rfl) | (apply LdV.partRow; assumption; rfl; rfl))))) (by (first | (apply ResV.tmp; rfl) | (apply ResV.cell; rfl; (first | (apply LdV.one; (first | exact CellV.row0 (by assumption) rfl | exact CellV.rowS (by assumption) rfl | exact CellV.rowSS (by assumption) rfl | (apply CellV.blk; exact mm; rfl))) | (apply LdV.aggBlk; exact mm; rfl) | (apply LdV.part; exact mm; rfl; rfl) | (apply LdV.aggRow; assumption; rfl) | (apply LdV.partRow; assumption; rfl; rfl)))))) (List.Perm.refl _) fun w' hw' => ?_
      exact satJ hw' (i := 2) rfl (dnS_len l fr (d + 1)) fun v => .tuple #[v, .int .i64 0]
  · rw [pathE_bad h0]
    dsimp only
    generalize firstE l [fr, to] = E at *
    refine enterA [(0, .slice a l.length c), (1, .int .i64 fr), (2, .int .i64 to)] Tryz.func11 Tryz.ntmps11 ?_
    all_goals (refine go ?_; and_intros <;> (try exact trivial) <;> repeat (first | refine fun (Bk : Nat) => ?_ | intro h))
    repeat' ((first | (apply G.sliceL; rfl; rfl; rfl; rfl; rfl; rfl; rfl; rfl; intro Bs) | (apply G.cV (g := 49); rfl; rfl; exact fun w' hw' => hf w' hw'.below _ (blkSlA (f := isV) (sz := 1) (l := [fr, to]) hw' isV_len).1)) <;> (refine go ?_; and_intros <;> (try exact trivial) <;> repeat (first | refine fun (Bk : Nat) => ?_ | intro h)))
    (refine ret2 Tryz.func11 Tryz.results11 ?_; intro w' hw)
    exact retJ_nil (fun v => .tuple #[v, .int .i64 E]) hw.below
theorem vPath_holds (a : Option Addr) (l : List Rch) (c : Nat) (fr to : Int) (w : World) (hA : SlAt w a 2 (l.map rcV)) (hK : KerAt w l) :
    Calls Tryz.prog 11 #[.slice a l.length c, .int .i64 fr, .int .i64 to] w (RetI (fun v => .tuple #[v, .int .i64 (pathE l fr to).2]) w (pathE l fr to).1) := (vPathJ_holds a l c fr to w hA hK).mono fun _ _ h => h.toI
end Go.Proofs.YtceaamdomkjmlaaGreatDoor
/-
  Windows of a list that are brought into another order; insertion.
-/
namespace Go.Proofs.YtceaamdomkjmlaaGreatDoor
open Go.RowKit Go.Sl Go.Num
/-- From a to b the list is in order. -/
def Srt (S : List Int) (a b : Nat) : Prop := ∀ x y, a ≤ x → x < y → y < b → S.getD x 0 ≤ S.getD y 0
/-- Only the window from a to b has changed, and only its order. -/
structure WP (S : List Int) (a b : Nat) (S' : List Int) : Prop where
  len : S'.length = S.length
  out : ∀ z, z < a ∨ b ≤ z → S'.getD z 0 = S.getD z 0
  per : S'.Perm S
theorem WP.refl (S : List Int) (a b : Nat) : WP S a b S := ⟨rfl, fun _ _ => rfl, .refl _⟩
theorem WP.trans {S T U : List Int} {a b : Nat} (h : WP S a b T) (h2 : WP T a b U) : WP S a b U := ⟨h2.len.trans h.len, fun z hz => (h2.out z hz).trans (h.out z hz), h2.per.trans h.per⟩
theorem WP.mono {S T : List Int} {a b c d : Nat} (h : WP S a b T) (h1 : c ≤ a) (h2 : b ≤ d) : WP S c d T := ⟨h.len, fun z hz => h.out z (by omega), h.per⟩
theorem WP.swp {S : List Int} {a b x y : Nat} (hx : a ≤ x ∧ x < b) (hy : a ≤ y ∧ y < b) (hb : b ≤ S.length) : WP S a b (swp S x y) :=
  ⟨swp_len S x y, fun z hz => swp_oth (by omega) (by omega) (by omega) (by omega), swp_perm (by omega) (by omega)⟩
theorem getD_ext {S T : List Int} (hl : S.length = T.length) (h : ∀ z, z < S.length → S.getD z 0 = T.getD z 0) : S = T := List.ext_getElem hl fun i h1 h2 => by
  have := h i h1
  rwa [getD_eq h1, getD_eq h2] at this
theorem WP.win {S T : List Int} {a b : Nat} (h : WP S a b T) (hab : a ≤ b) (hb : b ≤ S.length) : ((T.drop a).take (b - a)).Perm ((S.drop a).take (b - a)) := by
  have e1 : T.take a = S.take a := by
    refine getD_ext (by rw [List.length_take, List.length_take, h.len]) fun z hz => ?_
    rw [List.length_take] at hz
    have := h.out z (.inl (by omega))
    rw [List.getD_eq_getElem?_getD, List.getD_eq_getElem?_getD, List.getElem?_take_of_lt (by omega), List.getElem?_take_of_lt (by omega), ← List.getD_eq_getElem?_getD, ← List.getD_eq_getElem?_getD, this]
  have e2 : T.drop b = S.drop b := by
    refine getD_ext (by rw [List.length_drop, List.length_drop, h.len]) fun z hz => ?_
    have := h.out (b + z) (.inr (by omega))
    rw [List.getD_eq_getElem?_getD, List.getD_eq_getElem?_getD, List.getElem?_drop, List.getElem?_drop, ← List.getD_eq_getElem?_getD, ← List.getD_eq_getElem?_getD, this]
  have hS : S = S.take a ++ ((S.drop a).take (b - a) ++ S.drop b) := by
    have := (List.take_append_drop a S).symm
    have h2 := (List.take_append_drop (b - a) (S.drop a)).symm
    rw [List.drop_drop, show a + (b - a) = b by omega] at h2
    rw [h2] at this
    exact this
  have hT : T = T.take a ++ ((T.drop a).take (b - a) ++ T.drop b) := by
    have := (List.take_append_drop a T).symm
    have h2 := (List.take_append_drop (b - a) (T.drop a)).symm
    rw [List.drop_drop, show a + (b - a) = b by omega] at h2
    rw [h2] at this
    exact this
  have hp := h.per
  rw [hS, hT, e1, e2] at hp
  exact (List.perm_append_right_iff _).1 ((List.perm_append_left_iff _).1 hp)
/-- What holds of all elements of the window holds of them in the other order. -/
theorem WP.all {S T : List Int} {a b : Nat} (h : WP S a b T) (hb : b ≤ S.length) {P : Int → Prop} (hP : ∀ z, a ≤ z → z < b → P (S.getD z 0)) : ∀ z, a ≤ z → z < b → P (T.getD z 0) := fun z h1 h2 => by
  have hw := h.win (by omega) hb
  have hm : T.getD z 0 ∈ (T.drop a).take (b - a) := by
    refine List.mem_iff_getElem?.2 ⟨z - a, ?_⟩
    rw [List.getElem?_take_of_lt (by omega), List.getElem?_drop, show a + (z - a) = z by omega, List.getD_eq_getElem?_getD, List.getElem?_eq_getElem (by rw [h.len]; omega)]; rfl
  obtain ⟨i, hi⟩ := List.mem_iff_getElem?.1 (hw.mem_iff.1 hm)
  have hil : i < b - a := by
    have := (List.getElem?_eq_some_iff.1 hi).1
    rw [List.length_take] at this; omega
  rw [List.getElem?_take_of_lt hil, List.getElem?_drop] at hi
  have := hP (a + i) (by omega) (by omega)
  rw [List.getD_eq_getElem?_getD, hi] at this
  exact this
/-! ### insertion -/
/-- Up to i, all but the element at j are in order, and this one is not greater than those behind it. -/
def InsW (S : List Int) (a i j : Nat) : Prop := (∀ x y, a ≤ x → x < y → y ≤ i → x ≠ j → y ≠ j → S.getD x 0 ≤ S.getD y 0) ∧ ∀ y, j < y → y ≤ i → S.getD j 0 ≤ S.getD y 0
theorem InsW.start {S : List Int} {a i : Nat} (h : Srt S a i) : InsW S a i i := ⟨fun x y h1 h2 h3 _ h5 => h x y h1 h2 (by omega), fun y h1 h2 => by omega⟩
theorem InsW.step {S : List Int} {a i j : Nat} (h : InsW S a i (j + 1)) (ha : a ≤ j) (hi : i < S.length) (hj : j + 1 ≤ i) (hlt : S.getD (j + 1) 0 < S.getD j 0) : InsW (Proofs.YtceaamdomkjmlaaGreatDoor.swp S (j + 1) j) a i j := by
  have e1 := swp_fst (S := S) (x := j + 1) (y := j) (by omega) (by omega)
  have e2 := swp_snd (S := S) (x := j + 1) (y := j) (by omega) (by omega)
  have e3 : ∀ z, z ≠ j + 1 → z ≠ j → (Proofs.YtceaamdomkjmlaaGreatDoor.swp S (j + 1) j).getD z 0 = S.getD z 0 := fun z h1 h2 => swp_oth (by omega) (by omega) h1 h2
  refine ⟨fun x y h1 h2 h3 h4 h5 => ?_, fun y h1 h2 => ?_⟩
  · by_cases hx : x = j + 1
    · subst hx
      rw [e1, e3 y (by omega) h5]
      exact h.1 j y ha (by omega) h3 (by omega) (by omega)
    · by_cases hy : y = j + 1
      · subst hy
        rw [e1, e3 x hx h4]
        exact h.1 x j h1 (by omega) (by omega) hx (by omega)
      · rw [e3 x hx h4, e3 y hy h5]
        exact h.1 x y h1 h2 h3 hx hy
  · rw [e2]
    by_cases hy : y = j + 1
    · subst hy; rw [e1]; omega
    · rw [e3 y hy (by omega)]
      exact h.2 y (by omega) h2
theorem InsW.end_ {S : List Int} {a i j : Nat} (h : InsW S a i j) (hj : j = a ∨ a < j ∧ ¬ S.getD j 0 < S.getD (j - 1) 0) : Srt S a (i + 1) := fun x y h1 h2 h3 => by
  by_cases hx : x = j
  · subst hx; exact h.2 y h2 (by omega)
  · by_cases hy : y = j
    · subst hy
      rcases hj with rfl | ⟨h4, h5⟩
      · omega
      · by_cases h6 : x = y - 1
        · subst h6; omega
        · have := h.1 x (y - 1) h1 (by omega) (by omega) hx (by omega)
          omega
    · exact h.1 x y h1 h2 (by omega) hx hy
theorem Srt.short {S : List Int} {a b : Nat} (h : b ≤ a + 1) : Srt S a b := fun x y h1 h2 h3 => by omega
theorem srt_pair {S : List Int} (h : Srt S 0 S.length) : S.Pairwise (· ≤ ·) := by
  rw [List.pairwise_iff_getElem]
  intro i j hi hj hij
  have := h i j (Nat.zero_le _) hij hj
  rwa [getD_eq hi, getD_eq hj] at this
end Go.Proofs.YtceaamdomkjmlaaGreatDoor
/-
  Contracts: the insertion sort of the library.
-/
namespace Go.Proofs.YtceaamdomkjmlaaGreatDoor
open Go.RowKit Go.Sl Go.Num
theorem lessI_holds (x y : Int) (w : World) : Calls Tryz.prog 93 #[.int .i64 x, .int .i64 y] w fun e w' => e = .returned (.bool (decide (x < y))) ∧ Below w.heap.size w w' := by
  have hn := fun v w' => isNaNi_holds v w'
  refine enterA [(0, .int .i64 x), (1, .int .i64 y)] Tryz.func93 Tryz.ntmps93 ?_
  by_cases h0 : x < y
  · rw [decide_eq_true h0]
    all_goals (refine go ?_; and_intros <;> (try exact trivial) <;> repeat (first | refine fun (Bk : Nat) => ?_ | intro h))
    repeat' ((first | (apply G.cV (g := 115); rfl; rfl; exact fun w' _ => hn _ w')) <;> (refine go ?_; and_intros <;> (try exact trivial) <;> repeat (first | refine fun (Bk : Nat) => ?_ | intro h)))
    all_goals refine ret1b Tryz.func93 Tryz.results93 ?_
    all_goals rfl
  · rw [decide_eq_false h0]
    all_goals (refine go ?_; and_intros <;> (try exact trivial) <;> repeat (first | refine fun (Bk : Nat) => ?_ | intro h))
    repeat' ((first | (apply G.cV (g := 115); rfl; rfl; exact fun w' _ => hn _ w')) <;> (refine go ?_; and_intros <;> (try exact trivial) <;> repeat (first | refine fun (Bk : Nat) => ?_ | intro h)))
    all_goals refine ret1b Tryz.func93 Tryz.results93 ?_
    all_goals rfl
theorem gI {S : List Int} {j : Nat} (h : j < S.length) : (flat isV S)[0 + j * 1]? = some (.int .i64 (S.getD j 0)) := by rw [is_get h, getD_eq h]
theorem sI {S : List Int} {j : Nat} {v : Int} (h : j < S.length) : setL (flat isV S) (0 + j * 1) [.int .i64 v] = flat isV (S.set j v) := is_set h
theorem insSort_holds (w0 : World) (M : List Row) (w : World) (g tot n cp : Nat) (S : List Int) (a b : Nat) (hw : Sat w0 (.blk g 3 (flat isV S) tot :: M) w) (hb : b ≤ n) (hn : n = S.length) (hl : n ≤ 1000000000) (ha : a ≤ n) :
    Calls Tryz.prog 87 #[.slice (some ⟨g, 0, none⟩) n cp, .int .i64 a, .int .i64 b] w fun e w' => ∃ S', e = .returned (.tuple #[]) ∧ (WP S a b S' ∧ Srt S' a b) ∧ Sat w0 (.blk g 3 (flat isV S') tot :: M) w' := by
  refine enterR [(0, .slice (some ⟨g, 0, none⟩) n cp), (1, .int .i64 a), (2, .int .i64 b)] hw Tryz.func87 Tryz.ntmps87 ?_
  all_goals (refine go ?_; and_intros <;> (try exact trivial) <;> repeat (first | refine fun (Bk : Nat) => ?_ | intro h))
  refine J.loop (c := _) ((a + 1, S) : Nat × List Int) (fun s => b + 1 - s.1) (fun s => [(0, .slice (some ⟨g, 0, none⟩) n cp), (1, .int .i64 a), (2, .int .i64 b), (6, .int .i64 s.1)]) (fun s => .blk g 3 (flat isV s.2) tot :: M) (fun s => a + 1 ≤ s.1 ∧ (s.1 ≤ b ∨ s.1 = a + 1) ∧ WP S a b s.2 ∧ Srt s.2 a s.1) ?_ sbT sbL ?_
  · exact ⟨Nat.le_refl _, .inr rfl, WP.refl _ _ _, Srt.short (Nat.le_refl _)⟩
  intro ⟨i, S1⟩ ⟨h1, h2, h3, h4⟩ ih
  dsimp only at h1 h2 h3 h4 ⊢
  have hl1 := h3.len
  by_cases hi : i < b
  · have ih := fun S2 h5 h6 => ih (i + 1, S2) ⟨by dsimp only; omega, .inl hi, h5, h6⟩ (by dsimp only; omega)
    all_goals (refine go ?_; and_intros <;> (try exact trivial) <;> repeat (first | refine fun (Bk : Nat) => ?_ | intro h))
    refine J.loop (c := _) ((i, S1) : Nat × List Int) (fun s => s.1) (fun s => [(0, .slice (some ⟨g, 0, none⟩) n cp), (1, .int .i64 a), (2, .int .i64 b), (6, .int .i64 i), (7, .int .i64 s.1)]) (fun s => .blk g 3 (flat isV s.2) tot :: M) (fun s => a ≤ s.1 ∧ s.1 ≤ i ∧ WP S a b s.2 ∧ InsW s.2 a i s.1) ?_ sbT sbL ?_
    · exact ⟨by dsimp only; omega, Nat.le_refl _, h3, InsW.start h4⟩
    clear h3 h4 hl1
    intro ⟨j, S2⟩ ⟨j1, j2, j3, j4⟩ ih2
    dsimp only at j1 j2 j3 j4 ⊢
    have hl2 := j3.len
    by_cases hj : a < j
    · obtain ⟨k, rfl⟩ : ∃ k, j = k + 1 := ⟨j - 1, by omega⟩
      have q1 := gI (S := S2) (j := k + 1) (by omega)
      have q2 := gI (S := S2) (j := k) (by omega)
      have hle := fun w' => lessI_holds (S2.getD (k + 1) 0) (S2.getD k 0) w'
      by_cases hc : S2.getD (k + 1) 0 < S2.getD k 0
      · rw [decide_eq_true hc] at hle
        have ih2 := ih2 (k, swp S2 (k + 1) k) ⟨by dsimp only; omega, by dsimp only; omega, j3.trans (WP.swp ⟨by omega, by omega⟩ ⟨by omega, by omega⟩ (by omega)), j4.step (by omega) (by omega) (by omega) hc⟩ (by dsimp only; omega)
        have r1 := sI (S := S2) (j := k + 1) (v := S2.getD k 0) (by omega)
        have r2 := sI (S := S2.set (k + 1) (S2.getD k 0)) (j := k) (v := S2.getD (k + 1) 0) (by rw [List.length_set]; omega)
        have l1 : 0 + (k + 1) * 1 < (flat isV S2).length := by rw [isLen]; omega
        have l2 : 0 + k * 1 < (flat isV (S2.set (k + 1) (S2.getD k 0))).length := by rw [isLen, List.length_set]; omega
        dsimp only [swp] at ih2
        clear j3 j4 ih
        generalize S2.getD (k + 1) 0 = x at *
        generalize S2.getD k 0 = y at *
        generalize S2.set (k + 1) y = S3 at *
        generalize S3.set k x = S4 at *
        all_goals (refine goR ?_; and_intros <;> (try exact trivial) <;> repeat (first | refine fun (Bk : Nat) => ?_ | intro h))
        repeat' ((first | (apply G.ld; rfl; (apply LdV.one; exact CellV.blk (by exact mm) q1); rfl) | (apply G.ld; rfl; (apply LdV.one; exact CellV.blk (by exact mm) q2); rfl) | (apply G.cV (g := 93); rfl; rfl; exact fun w' _ => hle w') | (apply J.regA (.q 0 <| .q 1 <| .q 2 <| .q 3 <| .q 4 <| .q 5 <| .q 6 <| .q 7 <| .q 8 <| .q 9 <| .q 10 <| .q 11 <| .q 12 <| .q 13 <| .q 14 <| .nil); exact Tryz.mixed; decide +kernel) | (apply J.regX 0 [2, 3, 4] (.q 0 <| .q 1 <| .q 2 <| .q 3 <| .q 4 <| .q 5 <| .q 6 <| .q 7 <| .q 8 <| .q 9 <| .q 10 <| .q 11 <| .q 12 <| .q 13 <| .q 14 <| .e 15 <| .q 16 <| .e 17 <| .nil); exact Tryz.mixed; decide +kernel) | (apply G.s1n (n := 0); rfl; rfl; rfl; exact rfl; exact ⟨rfl, rfl⟩; exact l1; exact r1) | (apply G.s1n (n := 0); rfl; rfl; rfl; exact rfl; exact ⟨rfl, rfl⟩; exact l2; exact r2) | (apply J.regQ; exact Tryz.mixed; decide +kernel) | (apply J.regL'; exact Tryz.mixed; decide +kernel)) <;> (refine goR ?_; and_intros <;> (try exact trivial) <;> repeat (first | refine fun (Bk : Nat) => ?_ | intro h)))
        rw [show ((k + 1 : Nat) : Int) - 1 = (k : Int) by omega]
        exact J.fin ih2
      · rw [decide_eq_false hc] at hle
        have ih := ih S2 j3 (j4.end_ (.inr ⟨by omega, hc⟩))
        clear j3 j4 ih2
        generalize S2.getD (k + 1) 0 = x at *
        generalize S2.getD k 0 = y at *
        all_goals (refine goR ?_; and_intros <;> (try exact trivial) <;> repeat (first | refine fun (Bk : Nat) => ?_ | intro h))
        repeat' ((first | (apply G.ld; rfl; (apply LdV.one; exact CellV.blk (by exact mm) q1); rfl) | (apply G.ld; rfl; (apply LdV.one; exact CellV.blk (by exact mm) q2); rfl) | (apply G.cV (g := 93); rfl; rfl; exact fun w' _ => hle w') | (apply J.regA (.q 0 <| .q 1 <| .q 2 <| .q 3 <| .q 4 <| .q 5 <| .q 6 <| .q 7 <| .q 8 <| .q 9 <| .q 10 <| .q 11 <| .q 12 <| .q 13 <| .q 14 <| .nil); exact Tryz.mixed; decide +kernel) | (apply J.regQ; exact Tryz.mixed; decide +kernel) | (apply J.regL'; exact Tryz.mixed; decide +kernel)) <;> (refine goR ?_; and_intros <;> (try exact trivial) <;> repeat (first | refine fun (Bk : Nat) => ?_ | intro h)))
        exact J.fin ih
    · obtain rfl : j = a := by omega
      have ih := ih S2 j3 (j4.end_ (.inl rfl))
      clear j3 j4 ih2
      all_goals (refine goR ?_; and_intros <;> (try exact trivial) <;> repeat (first | refine fun (Bk : Nat) => ?_ | intro h))
      repeat' ((first | (apply J.regA (.q 0 <| .q 1 <| .q 2 <| .q 3 <| .q 4 <| .q 5 <| .q 6 <| .q 7 <| .q 8 <| .q 9 <| .q 10 <| .q 11 <| .q 12 <| .q 13 <| .q 14 <| .nil); exact Tryz.mixed; decide +kernel) | (apply J.regQ; exact Tryz.mixed; decide +kernel) | (apply J.regL'; exact Tryz.mixed; decide +kernel)) <;> (refine goR ?_; and_intros <;> (try exact trivial) <;> repeat (first | refine fun (Bk : Nat) => ?_ | intro h)))
      exact J.fin ih
  · have h5 : Srt S1 a b := fun x y q1 q2 q3 => h4 x y q1 q2 (by omega)
    clear ih
    all_goals (refine go ?_; and_intros <;> (try exact trivial) <;> repeat (first | refine fun (Bk : Nat) => ?_ | intro h))
    refine end0 Tryz.func87 Tryz.results87 ?_
    exact fun w' hw' => ⟨S1, rfl, ⟨h3, h5⟩, hw'⟩
end Go.Proofs.YtceaamdomkjmlaaGreatDoor
/-
  Contracts: how many bits a number has; the sort of short lists.
-/
namespace Go.Sl
open Go.RowKit
variable {C : Ctx} {st : List (Nat × Value)} {M : List Row} {k : List Item} {q q' : Md} {all rest : List Oper} {d : Nat} {ty : TypeId} {pos : String} {after : Array Edge} {gd : Option (Nat × Bool)}
/-- A byte of a string, whichever it is. -/
theorem G.sxa {T : TypeId} {x y : Operand} {l : List UInt8} {ki : IntKind} {e : Int} {i : Nat} (hx : evS st x = some (.string (bs l))) (hy : evS st y = some (.int ki e)) (he : e = (i : Int)) (hi : i < l.length) [hT : TString C.P T] (hs : sideB all st gd d C.N q.calm = some q') (h : ∀ t : Nat, t < 256 → G q' C all ((d, .int .u8 (t : Int)) :: st) M rest k) :
    G q C all st M ({ dst := some d, op := .index T x y, type := ty, pos, after, guard := gd } :: rest) k := G.sx hx hy he (List.getElem?_eq_getElem hi) hs (h _ (UInt8.toNat_lt _))
end Go.Sl
namespace Go.Proofs.YtceaamdomkjmlaaGreatDoor
open Go.RowKit Go.Sl Go.Num
theorem len64_holds (x : Nat) (w : World) (hx : x < 18446744073709551616) : Calls Tryz.prog 97 #[.int .u64 x] w fun e w' => ∃ z : Int, (0 ≤ z ∧ z ≤ 1000) ∧ e = .returned (.int .i64 z) ∧ Below w.heap.size w w' := by
  refine enterA [(0, .int .u64 x)] Tryz.func97 Tryz.ntmps97 ?_
  all_goals (refine go ?_; and_intros <;> (try exact trivial) <;> repeat (first | refine fun (Bk : Nat) => ?_ | intro h))
  repeat' ((first | (apply G.shrK (n := 32) (k1 := .u64); rfl; rfl; rfl; exact shr_n (k := 4294967296) rfl rfl; rfl; rfl; rfl) | (apply G.shrK (n := 16) (k1 := .u64); rfl; rfl; rfl; exact shr_n (k := 65536) rfl rfl; rfl; rfl; rfl) | (apply G.shrK (n := 8) (k1 := .u64); rfl; rfl; rfl; exact shr_n (k := 256) rfl rfl; rfl; rfl; rfl) | (apply G.sxa; rfl; rfl; rfl; exact Nat.lt_of_lt_of_eq (m := 256) (by omega) (by decide +kernel); rfl; intro tt ht)) <;> (refine go ?_; and_intros <;> (try exact trivial) <;> repeat (first | refine fun (Bk : Nat) => ?_ | intro h)))
  all_goals refine ret1 Tryz.func97 Tryz.results97 fun w' hw => ⟨_, ?_, rfl, hw.below⟩
  all_goals omega
theorem len_holds (x : Nat) (w : World) (hx : x < 18446744073709551616) : Calls Tryz.prog 68 #[.int .u64 x] w fun e w' => ∃ z : Int, (0 ≤ z ∧ z ≤ 1000) ∧ e = .returned (.int .i64 z) ∧ Below w.heap.size w w' := by
  have hl := fun w' (_ : Below w.heap.size w w') => len64_holds x w' hx
  refine enterA [(0, .int .u64 x)] Tryz.func68 Tryz.ntmps68 ?_
  all_goals (refine go ?_; and_intros <;> (try exact trivial) <;> repeat (first | refine fun (Bk : Nat) => ?_ | intro h))
  repeat' ((first | (refine G.cX (X := { z : Int // 0 ≤ z ∧ z ≤ 1000 }) (v := fun z => .int .i64 z.1) (fun w' hb => (hl w' hb).mono fun e w2 ⟨z, h1, h2, h3⟩ => ⟨⟨z, h1⟩, h2, h3⟩) ?_; intro z)) <;> (refine go ?_; and_intros <;> (try exact trivial) <;> repeat (first | refine fun (Bk : Nat) => ?_ | intro h)))
  refine ret1 Tryz.func68 Tryz.results68 fun w' hw => ⟨_, z.2, rfl, hw.below⟩
/-- The sort of at most twelve numbers. -/
theorem pdq12_holds (w0 : World) (M : List Row) (w : World) (g tot n cp : Nat) (S : List Int) (a b : Nat) (L : Int) (hw : Sat w0 (.blk g 3 (flat isV S) tot :: M) w) (hb : b ≤ n) (hn : n = S.length) (hl : n ≤ 1000000000) (ha : a ≤ n) (h12 : b ≤ a + 12) :
    Calls Tryz.prog 67 #[.slice (some ⟨g, 0, none⟩) n cp, .int .i64 a, .int .i64 b, .int .i64 L] w fun e w' => ∃ S', e = .returned (.tuple #[]) ∧ (WP S a b S' ∧ Srt S' a b) ∧ Sat w0 (.blk g 3 (flat isV S') tot :: M) w' := by
  refine enterR [(0, .slice (some ⟨g, 0, none⟩) n cp), (1, .int .i64 a), (2, .int .i64 b), (3, .int .i64 L)] hw Tryz.func67 Tryz.ntmps67 ?_
  all_goals (refine go ?_; and_intros <;> (try exact trivial) <;> repeat (first | refine fun (Bk : Nat) => ?_ | intro h))
  refine J.loop (c := _) () (fun _ => 0) (fun _ => [(0, .slice (some ⟨g, 0, none⟩) n cp), (1, .int .i64 a), (2, .int .i64 b), (3, .int .i64 L), (8, .bool true), (9, .bool true)]) (fun _ => .blk g 3 (flat isV S) tot :: M) (fun _ => True) trivial sbT sbL ?_
  intro _ _ ih
  clear ih
  all_goals (refine go ?_; and_intros <;> (try exact trivial) <;> repeat (first | refine fun (Bk : Nat) => ?_ | intro h))
  repeat' ((first | (refine G.cP (X := { S' // WP S a b S' ∧ Srt S' a b }) (fun _ => .tuple #[]) [.blk g 3 (flat isV S) tot] (fun x => [.blk g 3 (flat isV x.1) tot]) rfl rfl (List.Perm.refl _) (fun w' hw' => (insSort_holds _ _ w' g tot n cp S a b hw' hb hn hl ha).mono fun e w2 ⟨S', h1, h2, h3⟩ => ⟨⟨S', h2⟩, h1, h3⟩) ?_; rintro ⟨S', hS'⟩)) <;> (refine go ?_; and_intros <;> (try exact trivial) <;> repeat (first | refine fun (Bk : Nat) => ?_ | intro h)))
  refine ret0 Tryz.func67 Tryz.results67 ?_
  exact fun w' hw' => ⟨S', rfl, hS', hw'⟩
end Go.Proofs.YtceaamdomkjmlaaGreatDoor
/-
  Contract: the sort of a short slice of the caller's own.
-/
namespace Go.Proofs.YtceaamdomkjmlaaGreatDoor
open Go.RowKit Go.Sl Go.Num
theorem pdq0_holds (w0 : World) (M : List Row) (w : World) (v : Value) (L : Int) (hw : Sat w0 M w) :
    Calls Tryz.prog 67 #[v, .int .i64 0, .int .i64 0, .int .i64 L] w fun e w' => e = .returned (.tuple #[]) ∧ Sat w0 M w' := by
  refine enterR [(0, v), (1, .int .i64 0), (2, .int .i64 0), (3, .int .i64 L)] hw Tryz.func67 Tryz.ntmps67 ?_
  all_goals (refine go ?_; and_intros <;> (try exact trivial) <;> repeat (first | refine fun (Bk : Nat) => ?_ | intro h))
  refine J.loop (c := _) () (fun _ => 0) (fun _ => [(0, v), (1, .int .i64 0), (2, .int .i64 0), (3, .int .i64 L), (8, .bool true), (9, .bool true)]) (fun _ => M) (fun _ => True) trivial sbT sbL ?_
  intro _ _ ih
  clear ih
  have hI : ∀ (M : List Row) (w : World), Sat w0 M w → Calls Tryz.prog 87 #[v, .int .i64 0, .int .i64 0] w fun e w' => e = .returned (.tuple #[]) ∧ Sat w0 M w' := fun M w hw => by
    refine enterR [(0, v), (1, .int .i64 0), (2, .int .i64 0)] hw Tryz.func87 Tryz.ntmps87 ?_
    all_goals (refine go ?_; and_intros <;> (try exact trivial) <;> repeat (first | refine fun (Bk : Nat) => ?_ | intro h))
    refine J.loop (c := _) () (fun _ => 0) (fun _ => [(0, v), (1, .int .i64 0), (2, .int .i64 0), (6, .int .i64 1)]) (fun _ => M) (fun _ => True) trivial sbT sbL ?_
    intro _ _ ih
    clear ih
    all_goals (refine go ?_; and_intros <;> (try exact trivial) <;> repeat (first | refine fun (Bk : Nat) => ?_ | intro h))
    refine end0 Tryz.func87 Tryz.results87 ?_
    exact fun w' hw' => ⟨rfl, hw'⟩
  all_goals (refine go ?_; and_intros <;> (try exact trivial) <;> repeat (first | refine fun (Bk : Nat) => ?_ | intro h))
  repeat' ((first | (refine G.cI (v := .tuple #[]) rfl rfl (List.Perm.refl _) (fun w' hw' => hI _ w' hw') ?_)) <;> (refine go ?_; and_intros <;> (try exact trivial) <;> repeat (first | refine fun (Bk : Nat) => ?_ | intro h)))
  refine ret0 Tryz.func67 Tryz.results67 ?_
  exact fun w' hw' => ⟨rfl, hw'⟩
theorem sort12_holds (w0 : World) (M : List Row) (w : World) (au : Option Addr) (n cu : Nat) (S : List Int) (hw : Sat w0 (.own 0 (.slice au n cu) 3 1 n (flat isV S) :: M) w) (hn : n = S.length) (h12 : n ≤ 12) :
    Calls Tryz.prog 34 #[.slice au n cu] w fun e w' => ∃ S', e = .returned (.tuple #[]) ∧ (S'.Perm S ∧ S'.Pairwise (· ≤ ·)) ∧ Sat w0 (.own 0 (.slice au n cu) 3 1 n (flat isV S') :: M) w' := by
  have hlen := fun w' (_ : Below w0.heap.size w0 w') => len_holds n w' (by omega)
  refine enterR [(0, .slice au n cu)] hw Tryz.func34 Tryz.ntmps34 ?_
  rcases Nat.eq_zero_or_pos n with rfl | h0
  · obtain rfl : S = [] := List.length_eq_zero_iff.1 hn.symm
    all_goals (refine go ?_; and_intros <;> (try exact trivial) <;> repeat (first | refine fun (Bk : Nat) => ?_ | intro h))
    repeat' ((first | (refine G.cX (X := { z : Int // 0 ≤ z ∧ z ≤ 1000 }) (v := fun z => .int .i64 z.1) (fun w' hb => (hlen w' hb).mono fun e w2 ⟨z, h1, h2, h3⟩ => ⟨⟨z, h1⟩, h2, h3⟩) ?_; intro z) | (refine G.cI (v := .tuple #[]) rfl rfl (List.Perm.refl _) (fun w' hw' => pdq0_holds _ _ w' _ _ hw') ?_)) <;> (refine go ?_; and_intros <;> (try exact trivial) <;> repeat (first | refine fun (Bk : Nat) => ?_ | intro h)))
    refine end0 Tryz.func34 Tryz.results34 ?_
    exact fun w' hw' => ⟨[], rfl, ⟨.refl _, .nil⟩, hw'⟩
  · refine J.ownOpen RAt.head h0 fun g cap h1 h2 h3 => ?_
    cases h3
    all_goals (refine go ?_; and_intros <;> (try exact trivial) <;> repeat (first | refine fun (Bk : Nat) => ?_ | intro h))
    repeat' ((first | (refine G.cX (X := { z : Int // 0 ≤ z ∧ z ≤ 1000 }) (v := fun z => .int .i64 z.1) (fun w' hb => (hlen w' hb).mono fun e w2 ⟨z, h1, h2, h3⟩ => ⟨⟨z, h1⟩, h2, h3⟩) ?_; intro z) | (refine G.cP (X := { S' // WP S 0 n S' ∧ Srt S' 0 n }) (fun _ => .tuple #[]) [.blk g 3 (flat isV S) (cu * 1)] (fun x => [.blk g 3 (flat isV x.1) (cu * 1)]) rfl rfl (List.Perm.refl _) (fun w' hw' => (pdq12_holds _ _ w' g (cu * 1) n cu S 0 n z.1 hw' (Nat.le_refl _) hn (by omega) (by omega) (by omega)).mono fun e w2 ⟨S', h1, h2, h3⟩ => ⟨⟨S', h2⟩, h1, h3⟩) ?_; rintro ⟨S', hS', hs⟩)) <;> (refine go ?_; and_intros <;> (try exact trivial) <;> repeat (first | refine fun (Bk : Nat) => ?_ | intro h)))
    have hl := hS'.len
    dsimp only
    refine J.blkCut (g := g) (l' := S') n isV_len RAt.head h1 h2 (by omega) (List.take_of_length_le (by omega)) ?_
    refine end0 Tryz.func34 Tryz.results34 ?_
    exact fun w' hw' => ⟨S', rfl, ⟨hS'.per, srt_pair (by rw [show S'.length = n by omega]; exact hs)⟩, hw'⟩
end Go.Proofs.YtceaamdomkjmlaaGreatDoor
/-
  Contracts of rivers: the gauges of a basin, collected.
-/
namespace Go.Proofs.YtceaamdomkjmlaaGreatDoor
open Go.RowKit Go.Sl Go.Num
/-- What a collection writes, and reads. -/
def colR (B2 B7 B8 : Nat) (a : Option Addr) (l : List Rch) (c : Nat) (x : Option Addr × Nat × Nat) (L : List Int) : List Row :=
  [.own 0 (.slice x.1 x.2.1 x.2.2) 3 1 x.2.1 (flat isV L), .blk B7 29 [.slice x.1 x.2.1 x.2.2] 1, .blk B2 22 [.slice a l.length c] 1, .blk B8 106 [.func (.func 53) #[] #[.pointer (some ⟨B2, 0, none⟩), .pointer (some ⟨B7, 0, none⟩), .pointer (some ⟨B8, 0, none⟩)]] 1]
/-- The collection of a gauge puts F behind what is there. -/
def Col (w0 : World) (B2 B7 B8 : Nat) (a : Option Addr) (l : List Rch) (c : Nat) (g : Int) (F : List Int) : Prop := ∀ (L : List Int) (x : Option Addr × Nat × Nat) (M : List Row) (w : World), x.2.1 = L.length → L.length + F.length ≤ 1000000 → Sat w0 (colR B2 B7 B8 a l c x L ++ M) w →
  Calls Tryz.prog 53 #[.int .i64 g, .pointer (some ⟨B2, 0, none⟩), .pointer (some ⟨B7, 0, none⟩), .pointer (some ⟨B8, 0, none⟩)] w fun e w' => ∃ x' : Option Addr × Nat × Nat, e = .returned (.tuple #[]) ∧ x'.2.1 = (L ++ F).length ∧ Sat w0 (colR B2 B7 B8 a l c x' (L ++ F) ++ M) w'
theorem take_flat {f : Int → List Int} {L : List Int} {i : Nat} (h : i < L.length) : (L.take (i + 1)).flatMap f = (L.take i).flatMap f ++ f L[i] := by
  rw [List.take_add_one, List.getElem?_eq_getElem h, List.flatMap_append]
  simp
theorem flat_le {f : Int → List Int} (L : List Int) (i : Nat) : ((L.take i).flatMap f).length ≤ (L.flatMap f).length := by
  have := congrArg (fun l => (List.flatMap f l).length) (List.take_append_drop i L)
  simp only [List.flatMap_append, List.length_append] at this
  omega
theorem col_step (w0 : World) (B2 B7 B8 : Nat) (a : Option Addr) (l : List Rch) (c : Nat) (hA : SlAt w0 a 2 (l.map rcV)) (hl : l.length ≤ 40) (F : Int → List Int) (g : Int) (hF : ∀ u ∈ aboveL l g, Col w0 B2 B7 B8 a l c u (F u)) :
    Col w0 B2 B7 B8 a l c g ((aboveL l g).flatMap fun u => u :: F u) := by
  intro L ⟨au, n, cu⟩ M w hn hb hw
  dsimp only at hn
  have ha := fun w' (hb : Below w0.heap.size w0 w') => above_holds a l c g w' (hA.below hb) (by omega)
  have hul : (aboveL l g).length ≤ 40 := by have := abU_len l l.length g; rw [show aboveL l g = abU l l.length g from rfl]; omega
  refine enterR [(0, .int .i64 g), (1, .pointer (some ⟨B2, 0, none⟩)), (2, .pointer (some ⟨B7, 0, none⟩)), (3, .pointer (some ⟨B8, 0, none⟩))] hw Tryz.func53 Tryz.ntmps53 ?_
  dsimp only [colR, List.cons_append, List.nil_append]
  generalize hup : aboveL l g = up at *
  all_goals (refine go ?_; and_intros <;> (try exact trivial) <;> repeat (first | refine fun (Bk : Nat) => ?_ | intro h))
  repeat' ((first | (apply G.cN (g := 52) (fun a' c' => .slice a' up.length c') (up.map isV); rfl; rfl; exact fun w' hw' => ha w' hw'.below; intro a1 c1 hp1 hq1)) <;> (refine go ?_; and_intros <;> (try exact trivial) <;> repeat (first | refine fun (Bk : Nat) => ?_ | intro h)))
  refine J.loop (c := _) ((0, (au, n, cu), L) : Nat × (Option Addr × Nat × Nat) × List Int) (fun s => up.length - s.1) (fun s => [(2, .pointer (some ⟨B7, 0, none⟩)), (3, .pointer (some ⟨B8, 0, none⟩)), (9, .slice a1 up.length c1), (10, .int .i64 up.length), (11, .int .i64 s.1)]) (fun s => slRow w0.heap.size a1 1 (up.map isV) :: .own 0 (.slice s.2.1.1 s.2.1.2.1 s.2.1.2.2) 3 1 s.2.1.2.1 (flat isV s.2.2) :: .blk B7 29 [.slice s.2.1.1 s.2.1.2.1 s.2.1.2.2] 1 :: .blk B2 22 [.slice a l.length c] 1 :: .blk B8 106 [.func (.func 53) #[] #[.pointer (some ⟨B2, 0, none⟩), .pointer (some ⟨B7, 0, none⟩), .pointer (some ⟨B8, 0, none⟩)]] 1 :: M) (fun s => s.1 ≤ up.length ∧ s.2.1.2.1 = s.2.2.length ∧ s.2.2 = L ++ (up.take s.1).flatMap fun u => u :: F u) ?_ sbT sbL ?_
  · exact ⟨Nat.zero_le _, hn, by simp⟩
  clear hn hw
  intro ⟨i, ⟨au, n, cu⟩, L1⟩ ⟨h1, h2, h3⟩ ih
  dsimp only at h1 h2 h3 ⊢
  by_cases hi : i < up.length
  · obtain ⟨b1, o1, rfl⟩ := hp1 (by rw [List.length_map]; omega)
    have hcol := hF _ (List.getElem_mem hi)
    have hlen := flat_le (f := fun u => u :: F u) up (i + 1)
    have hs := take_flat (f := fun u => u :: F u) hi
    rw [hs] at hlen
    have h4 : L1 ++ [up[i]] ++ F up[i] = L ++ (up.take (i + 1)).flatMap fun u => u :: F u := by
      rw [hs, h3]; simp [List.append_assoc]
    have ih := fun x (h : x.2.1 = (L1 ++ [up[i]] ++ F up[i]).length) => ih (i + 1, x, L1 ++ [up[i]] ++ F up[i]) ⟨hi, h, h4⟩ (by dsimp only; omega)
    have hle : (L1 ++ [up[i]]).length + (F up[i]).length ≤ 1000000 := by
      have := congrArg List.length h4
      rw [hs] at this
      simp only [List.length_append, List.length_cons, List.length_nil] at this hlen ⊢
      omega
    have hap : flat isV L1 ++ isV up[i] = flat isV (L1 ++ [up[i]]) := flat1 isV _ _
    have hn1 : n + 1 = (L1 ++ [up[i]]).length := by rw [List.length_append, h2]; rfl
    have hnb : n ≤ 1000000 := by rw [List.length_append] at hle; omega
    have hg0 := fun {C M} (hm : slRow w0.heap.size (some ⟨b1, o1, none⟩) 1 (up.map isV) ∈ M) => CellV.sl0 (C := C) (M := M) (f := isV) (l := up) hm hi rfl
    clear h4 hlen hs
    generalize up[i] = u at *
    dsimp only [isV] at hap
    all_goals (refine go ?_; and_intros <;> (try exact trivial) <;> repeat (first | refine fun (Bk : Nat) => ?_ | intro h))
    repeat' ((first | (apply G.ld; rfl; (apply LdV.one; exact hg0 (by exact mm)); rfl) | (apply G.sliceL; rfl; rfl; rfl; rfl; rfl; rfl; rfl; rfl; intro Bs) | (apply G.apV; rfl; rfl; rfl; (repeat (first | exact RAt.head | apply RAt.tail)); exact SrcV.blk (by exact mm) rfl rfl; exact hap; omega; omega; intro a2 c2) | (refine G.cPf (X := { x : Option Addr × Nat × Nat // x.2.1 = (L1 ++ [u] ++ F u).length }) (g := 53) (fun _ => .tuple #[]) (colR B2 B7 B8 a l c (a2, n + 1, c2) (L1 ++ [u])) (fun x => colR B2 B7 B8 a l c x.1 (L1 ++ [u] ++ F u)) rfl rfl rfl (by (repeat (first | exact List.Perm.refl _ | (refine pickT (by (repeat (first | exact Pick.head | apply Pick.tail))) ?_)))) ?_ ?_; exact fun w' hw' => (hcol (L1 ++ [u]) (a2, n + 1, c2) _ w' hn1 hle hw').mono fun e w2 ⟨x', h1, h2, h3⟩ => ⟨⟨x', h2⟩, h1, h3⟩; rintro ⟨x', hx'⟩; dsimp only [colR, List.cons_append, List.nil_append])) <;> (refine go ?_; and_intros <;> (try exact trivial) <;> repeat (first | refine fun (Bk : Nat) => ?_ | intro h)))
    exact J.finS (ih x' hx')
  · obtain rfl : i = up.length := by omega
    rw [List.take_length] at h3
    clear ih
    all_goals (refine go ?_; and_intros <;> (try exact trivial) <;> repeat (first | refine fun (Bk : Nat) => ?_ | intro h))
    refine end0 Tryz.func53 Tryz.results53 ?_
    subst h3
    exact fun w' hw' => ⟨(au, n, cu), rfl, h2, hw'.sel⟩
theorem col_holds (w0 : World) (B2 B7 B8 : Nat) (a : Option Addr) (l : List Rch) (c : Nat) (hA : SlAt w0 a 2 (l.map rcV)) (hR : Riv l) : ∀ (k : Nat) (g : Int), 0 ≤ g → g < l.length → l.length ≤ dpt l g + k → Col w0 B2 B7 B8 a l c g (basR l k g)
  | 0, g, h0, h1, h2 => by
    have : aboveL l g = [] := List.eq_nil_iff_forall_not_mem.2 fun u hu => by
      obtain ⟨u1, u2, u3⟩ := mem_above.1 hu
      have := hR.ddn u1 u2
      have := (hR.dep u2).2.1
      rw [u3] at *; omega
    have h := col_step w0 B2 B7 B8 a l c hA hR.len (fun _ => []) g (fun u hu => by rw [this] at hu; cases hu)
    rw [this] at h
    exact h
  | k + 1, g, h0, h1, h2 => by
    rw [basR]
    refine col_step w0 B2 B7 B8 a l c hA hR.len (basR l k) g fun u hu => ?_
    obtain ⟨u1, u2, u3⟩ := mem_above.1 hu
    have := hR.ddn u1 u2
    rw [u3] at this
    exact col_holds w0 B2 B7 B8 a l c hA hR k u u1 u2 (by omega)
def basinE (l : List Rch) (g : Int) : List Int × Int := if errG l g ≠ 0 then ([], errG l g) else (basinL l g, 0)
theorem basin_len (l : List Rch) (g : Int) : (basinL l g).length ≤ l.length := by
  rw [basinL, List.length_map]
  have := List.length_filter_le (fun k : Nat => decide ((k : Int) ≠ g) && (pathF l g (l.length + 1) k).isSome) (List.range l.length)
  rwa [List.length_range] at this
theorem vBasin_holds (a : Option Addr) (l : List Rch) (c : Nat) (g : Int) (w : World) (hA : SlAt w a 2 (l.map rcV)) (hK : KerAt w l) (h12 : errG l g = 0 → l.length ≤ 12) :
    Calls Tryz.prog 15 #[.slice a l.length c, .int .i64 g] w (RetI (fun v => .tuple #[v, .int .i64 (basinE l g).2]) w (basinE l g).1) := by
  have hf := fun w' (hb : Below w.heap.size w w') b hB => firstV_holds a b l [g] c 1 w' (hA.below hb) (hK.below hb) hB (show 1 ≤ 1000000 by decide)
  simp only [errG_first] at hf
  rw [basinE]
  by_cases h0 : errG l g = 0
  · obtain ⟨h1, h2, h3⟩ := errG_ok h0
    have hR := riv_of h1
    have hlt := h12 h0
    clear h12
    have hcol := fun B2 B7 B8 => col_holds w B2 B7 B8 a l c hA hR l.length g h2 h3 (by omega)
    have hpm := basin_perm hR h2
    have hbl := basin_len l g
    have hbe := fun L hp hs => basin_eq hR h2 (L := L) hp hs
    rw [if_neg (fun h => h h0)]
    rw [h0] at hf
    dsimp only
    generalize basinL l g = T at *
    generalize basR l l.length g = R at *
    have hRl := hpm.length_eq
    refine enterA [(0, .slice a l.length c), (1, .int .i64 g)] Tryz.func15 Tryz.ntmps15 ?_
    all_goals (refine go ?_; and_intros <;> (try exact trivial) <;> repeat (first | refine fun (Bk : Nat) => ?_ | intro h))
    repeat' ((first | (apply G.sliceL; rfl; rfl; rfl; rfl; rfl; rfl; rfl; rfl; intro Bs) | (apply G.cV (g := 49); rfl; rfl; exact fun w' hw' => hf w' hw'.below _ (blkSlA (f := isV) (sz := 1) (l := [g]) hw' isV_len).1)) <;> (refine go ?_; and_intros <;> (try exact trivial) <;> repeat (first | refine fun (Bk : Nat) => ?_ | intro h)))
    rename_i B2 B7
    revert Bk; intro B8
    apply G.nilOwn (E := 3) (size := 1)
    refine G.cPf (X := { x : Option Addr × Nat × Nat // x.2.1 = R.length }) (g := 53) (fun _ => .tuple #[]) (colR B2 B7 B8 a l c (none, 0, 0) []) (fun x => colR B2 B7 B8 a l c x.1 R) rfl rfl rfl (by (repeat (first | exact List.Perm.refl _ | (refine pickT (by (repeat (first | exact Pick.head | apply Pick.tail))) ?_)))) ?_ ?_
    · exact fun w' hw' => (hcol B2 B7 B8 [] (none, 0, 0) _ w' rfl (by rw [List.length_nil]; omega) hw').mono fun e w2 ⟨x', h1, h2, h3⟩ => ⟨⟨x', h2⟩, h1, h3⟩
    rintro ⟨⟨au, n, cu⟩, hx⟩
    dsimp only at hx
    dsimp only [colR, List.cons_append, List.nil_append]
    all_goals (refine go ?_; and_intros <;> (try exact trivial) <;> repeat (first | refine fun (Bk : Nat) => ?_ | intro h))
    repeat' ((first | (refine G.cP (X := { S' : List Int // S'.Perm R ∧ S'.Pairwise (· ≤ ·) }) (fun _ => .tuple #[]) [.own 0 (.slice au n cu) 3 1 n (flat isV R)] (fun x => [.own 0 (.slice au n cu) 3 1 n (flat isV x.1)]) rfl rfl (by (repeat (first | exact List.Perm.refl _ | (refine pickT (by (repeat (first | exact Pick.head | apply Pick.tail))) ?_)))) ?_ ?_; exact fun w' hw' => (sort12_holds _ _ w' au n cu R hw' hx (by omega)).mono fun e w2 ⟨S', h1, h2, h3⟩ => ⟨⟨S', h2⟩, h1, h3⟩; rintro ⟨S', hS1, hS2⟩)) <;> (refine go ?_; and_intros <;> (try exact trivial) <;> repeat (first | refine fun (Bk : Nat) => ?_ | intro h)))
    (refine ret2 Tryz.func15 Tryz.results15 ?_; intro w' hw)
    obtain rfl := hbe S' hS1 hS2
    exact satI hw (i := 0) rfl (hS1.length_eq.trans hx.symm) fun v => .tuple #[v, .int .i64 0]
  · rw [if_pos h0]
    dsimp only
    generalize errG l g = E at *
    refine enterA [(0, .slice a l.length c), (1, .int .i64 g)] Tryz.func15 Tryz.ntmps15 ?_
    all_goals (refine go ?_; and_intros <;> (try exact trivial) <;> repeat (first | refine fun (Bk : Nat) => ?_ | intro h))
    repeat' ((first | (apply G.sliceL; rfl; rfl; rfl; rfl; rfl; rfl; rfl; rfl; intro Bs) | (apply G.cV (g := 49); rfl; rfl; exact fun w' hw' => hf w' hw'.below _ (blkSlA (f := isV) (sz := 1) (l := [g]) hw' isV_len).1)) <;> (refine go ?_; and_intros <;> (try exact trivial) <;> repeat (first | refine fun (Bk : Nat) => ?_ | intro h)))
    (refine ret2 Tryz.func15 Tryz.results15 ?_; intro w' hw)
    exact retI_nil (fun v => .tuple #[v, .int .i64 E]) hw.below
end Go.Proofs.YtceaamdomkjmlaaGreatDoor
/-
  Contracts of rivers: Order of the program.
-/
namespace Go.Proofs.YtceaamdomkjmlaaGreatDoor
open Go.RowKit Go.Sl Go.Num
def blV (b : Bool) : List Value := [.bool b]
theorem blV_len (b : Bool) : (blV b).length = 1 := rfl
theorem bl_get : ∀ {p : List Bool} {j : Nat} (h : j < p.length), (flat blV p)[0 + j * 1]? = some (.bool p[j])
  | b :: p, 0, _ => rfl
  | b :: p, j + 1, h => by
    have := bl_get (p := p) (j := j) (by simpa using h)
    rw [Nat.zero_add, Nat.mul_one] at this ⊢
    rw [flat_cons]; simpa [blV] using this
theorem bl_set {p : List Bool} {j : Nat} {v : Bool} (h : j < p.length) : setL (flat blV p) (0 + j * 1) [.bool v] = flat blV (p.set j v) := flat_set1 blV_len h rfl
theorem bl_len (p : List Bool) : (flat blV p).length = p.length := by rw [flat_len blV_len, Nat.mul_one]
theorem bl_zero (N : Nat) : flat (fun x : List Value => x) (List.replicate N [Value.bool false]) = flat blV (List.replicate N false) := by
  induction N with
  | zero => rfl
  | succ N ih => rw [List.replicate_succ, List.replicate_succ, flat_cons, flat_cons, ih]; rfl
def ordE (l : List Rch) : List Int × Int := if rivErr l ≠ 0 then ([], rivErr l) else (ordL l, 0)
theorem ordF_next {l : List Rch} {O : List Int} {g : Nat} (hg : g < l.length) (hf : freeB l O g = true) (hb : ∀ k, k < g → freeB l O k = false) (m : Nat) : ordF l (m + 1) O = ordF l m (O ++ [(g : Int)]) := by
  have : nextO l O = some g := by
    rw [nextO, List.find?_range_eq_some]
    exact ⟨hf, List.mem_range.2 hg, fun j hj => by rw [hb j hj]; rfl⟩
  rw [ordF, this]
theorem vOrder_holds (a : Option Addr) (l : List Rch) (c : Nat) (w : World) (hA : SlAt w a 2 (l.map rcV)) (hK : KerAt w l) :
    Calls Tryz.prog 17 #[.slice a l.length c] w (RetI (fun v => .tuple #[v, .int .i64 (ordE l).2]) w (ordE l).1) := by
  have hc := fun w' (hb : Below w.heap.size w w') => vCheckR_holds a l c w' (hA.below hb) (hK.below hb)
  rw [ordE]
  by_cases h0 : rivErr l = 0
  case neg =>
    rw [if_pos h0]
    dsimp only
    generalize rivErr l = E at *
    refine enterA [(0, .slice a l.length c)] Tryz.func17 Tryz.ntmps17 ?_
    all_goals (refine go ?_; and_intros <;> (try exact trivial) <;> repeat (first | refine fun (Bk : Nat) => ?_ | intro h))
    repeat' ((first | (refine G.cvb hc ?_)) <;> (refine go ?_; and_intros <;> (try exact trivial) <;> repeat (first | refine fun (Bk : Nat) => ?_ | intro h)))
    (refine ret2 Tryz.func17 Tryz.results17 ?_; intro w' hw)
    exact retI_nil (fun v => .tuple #[v, .int .i64 E]) hw.below
  rw [if_neg (fun h => h h0)]
  rw [h0] at hc
  have hR := riv_of h0
  have hl := hR.len
  dsimp only
  refine enterA [(0, .slice a l.length c)] Tryz.func17 Tryz.ntmps17 ?_
  all_goals (refine go ?_; and_intros <;> (try exact trivial) <;> repeat (first | refine fun (Bk : Nat) => ?_ | intro h))
  repeat' ((first | (refine G.cvb hc ?_) | (apply G.mkm; rfl; intro bq)) <;> (refine go ?_; and_intros <;> (try exact trivial) <;> repeat (first | refine fun (Bk : Nat) => ?_ | intro h)))
  refine J.loop (c := _) ((0, #[], 0, []) : Nat × Array MapEntry × Nat × List (Int × Int)) (fun s => l.length - s.1) (fun s => [(0, .slice a l.length c), (5, .map (some bq)), (18, .slice a l.length c), (19, .int .i64 l.length), (20, .int .i64 s.1)]) (fun s => [.obj bq (.map s.2.1 s.2.2.1)]) (fun s => s.1 ≤ l.length ∧ MapIs (Value.int .i64) s.2.1 s.2.2.1 (s.2.2.2.map iv) ∧ ∀ x, cnt x s.2.2.2 = wu l s.1 x) ?_ sbT sbL ?_
  · exact ⟨Nat.zero_le _, MapIs.nil, fun x => rfl⟩
  intro ⟨i, es, ck, Lc⟩ ⟨h1, hI, hcn⟩ ih
  dsimp only at h1 hI hcn ⊢
  by_cases hi : i < l.length
  · obtain ⟨ba, oa, rfl, hra⟩ := SlAt.all hA (by omega)
    have hri := hra i hi
    have hs := wu_succ l i
    rw [dnOf_at hi] at hs
    have hlk := get_iv l[i].dn Lc
    have ih := fun es2 c2 (h : MapIs (Value.int .i64) es2 c2 ((setC l[i].dn (cnt l[i].dn Lc + 1) Lc).map iv)) => ih (i + 1, es2, c2, setC l[i].dn (cnt l[i].dn Lc + 1) Lc) ⟨hi, h, fun x => by
      rw [cnt_setC, hs, hcn, hcn]
      by_cases e : x = l[i].dn
      · subst e; rw [if_pos rfl, if_pos rfl]
      · rw [if_neg e, if_neg (fun h => e h.symm)]; omega⟩ (by dsimp only; omega)
    have hb : 0 ≤ cnt l[i].dn Lc ∧ cnt l[i].dn Lc ≤ 1000000 := by
      rw [hcn, wu]
      have := List.length_filter_le (fun i_1 : Nat => decide (dnOf l i_1 = l[i].dn)) (List.range i)
      rw [List.length_range] at this
      omega
    clear hra hs hcn
    generalize l[i] = r at *
    obtain ⟨dn, ws, adr, cap⟩ := r
    dsimp only [rcV] at *
    have hpt := put_setC dn (cnt dn Lc + 1) Lc
    generalize setC dn (cnt dn Lc + 1) Lc = L2 at *
    generalize cnt dn Lc = n0 at *
    all_goals (refine go ?_; and_intros <;> (try exact trivial) <;> repeat (first | refine fun (Bk : Nat) => ?_ | intro h))
    repeat' ((first | (apply G.lk (kf := Value.int .i64) (a := dn) hI; rfl; rfl; exact mm; exact hlk; rfl) | (apply G.mu (kf := Value.int .i64) (a := dn) hI hpt; rfl; rfl; rfl; rfl; (repeat (first | exact RAt.head | apply RAt.tail)); intro es2 c2 hI2)) <;> (refine go ?_; and_intros <;> (try exact trivial) <;> repeat (first | refine fun (Bk : Nat) => ?_ | intro h)))
    exact J.fin (ih es2 c2 hI2)
  obtain rfl : i = l.length := by omega
  clear ih
  all_goals (refine go ?_; and_intros <;> (try exact trivial) <;> repeat (first | refine fun (Bk : Nat) => ?_ | intro h))
  repeat' ((first | (apply G.make (n := l.length) [.bool false]; rfl; rfl; rfl; rfl; rfl; rfl; rfl; rfl; omega; omega; intro B)) <;> (refine go ?_; and_intros <;> (try exact trivial) <;> repeat (first | refine fun (Bk : Nat) => ?_ | intro h)))
  rw [bl_zero]
  apply J.nilOwn (E := 3) (size := 1)
  have hcn : ∀ x, cnt x Lc = wl l [] x := fun x => by rw [hcn, wu_all]
  have hT : ordF l (l.length - 0) [] = ordL l := rfl
  have hTl := (ord_ok hR).2
  generalize ordL l = T at *
  refine J.loop (c := _) ((((none, 0, 0), [], List.replicate l.length false, es, ck, Lc)) : (Option Addr × Nat × Nat) × List Int × List Bool × Array MapEntry × Nat × List (Int × Int)) (fun s => l.length - s.1.2.1) (fun s => [(0, .slice a l.length c), (5, .map (some bq)), (8, .slice (some ⟨B, 0, none⟩) l.length l.length), (9, .slice s.1.1 s.1.2.1 s.1.2.2)]) (fun s => [.own 0 (.slice s.1.1 s.1.2.1 s.1.2.2) 3 1 s.1.2.1 (flat isV s.2.1), .blk B 4 (flat blV s.2.2.1) (l.length * 1), .obj bq (.map s.2.2.2.1 s.2.2.2.2.1)]) (fun s => s.1.2.1 = s.2.1.length ∧ s.1.2.1 ≤ l.length ∧ s.2.2.1.length = l.length ∧ (∀ g (h : g < s.2.2.1.length), s.2.2.1[g] = s.2.1.contains (g : Int)) ∧ MapIs (Value.int .i64) s.2.2.2.1 s.2.2.2.2.1 (s.2.2.2.2.2.map iv) ∧ (∀ x, cnt x s.2.2.2.2.2 = wl l s.2.1 x) ∧ Ordd l s.2.1 ∧ ordF l (l.length - s.1.2.1) s.2.1 = T) ?_ sbT sbL ?_
  · refine ⟨rfl, Nat.zero_le _, List.length_replicate, fun g h => ?_, hI, hcn, ⟨List.nodup_nil, fun x hx => by (cases hx), fun p hp => absurd hp (Nat.not_lt_zero _)⟩, hT⟩
    rw [List.getElem_replicate]; rfl
  clear hI hcn hT
  intro ⟨⟨au, m, cu⟩, O, D, es, ck, Lc⟩ ⟨h1, h2, h3, h4, hI, hcn, hO, hT⟩ ih
  dsimp only at h1 h2 h3 h4 hI hcn hO hT ⊢
  by_cases hm : m < l.length
  · skip
    all_goals (refine go ?_; and_intros <;> (try exact trivial) <;> repeat (first | refine fun (Bk : Nat) => ?_ | intro h))
    refine J.loop (c := _) (0 : Nat) (fun s => l.length - s) (fun s => [(0, .slice a l.length c), (5, .map (some bq)), (8, .slice (some ⟨B, 0, none⟩) l.length l.length), (9, .slice au m cu), (38, .slice a l.length c), (39, .int .i64 l.length), (40, .int .i64 s)]) (fun s => [.own 0 (.slice au m cu) 3 1 m (flat isV O), .blk B 4 (flat blV D) (l.length * 1), .obj bq (.map es ck)]) (fun s => s ≤ l.length ∧ ∀ j, j < s → freeB l O j = false) ?_ sbT sbL ?_
    · exact ⟨Nat.zero_le _, fun j h => absurd h (Nat.not_lt_zero _)⟩
    intro k ⟨k1, k2⟩ ih2
    by_cases hk : k < l.length
    · have hfr := wl_free l O k
      have q1 := bl_get (p := D) (j := k) (by omega)
      rw [h4] at q1
      obtain ⟨ba, oa, rfl, hra⟩ := SlAt.all hA (by omega)
      have hrk := hra k hk
      have hlk0 := get_iv k Lc
      rw [hcn] at hlk0
      have hwn := wl_nn l O k
      have hwl := wl_le l O k
      by_cases hf : freeB l O k = true
      · rw [hf, eq_comm, Bool.and_eq_true, Bool.not_eq_true', decide_eq_true_eq] at hfr
        obtain ⟨f1, f2⟩ := hfr
        have f3 : (k : Int) ∉ O := by rwa [List.contains_eq_mem, decide_eq_false_iff_not] at f1
        rw [f1] at q1
        have hsn := fun x => wl_snoc hk f3 x
        rw [dnOf_at hk] at hsn
        have hw1 := wl_nn l O l[k].dn
        have hw2 := wl_le l O l[k].dn
        have hlk := get_iv l[k].dn Lc
        rw [hcn] at hlk
        have hpt := put_setC l[k].dn (wl l O l[k].dn - 1) Lc
        have hap : flat isV O ++ isV k = flat isV (O ++ [(k : Int)]) := flat1 isV _ _
        have r1 := bl_set (p := D) (j := k) (v := true) (by omega)
        have l1 : 0 + k * 1 < (flat blV D).length := by rw [bl_len]; omega
        have hsu := ordF_next hk hf k2 (l.length - (m + 1))
        rw [show l.length - (m + 1) + 1 = l.length - m by omega, hT] at hsu
        have ih := fun a2 c2 es2 ck2 (h : MapIs (Value.int .i64) es2 ck2 ((setC l[k].dn (wl l O l[k].dn - 1) Lc).map iv)) => ih ((a2, m + 1, c2), O ++ [(k : Int)], D.set k true, es2, ck2, setC l[k].dn (wl l O l[k].dn - 1) Lc) ⟨by dsimp only; rw [List.length_append, h1]; rfl, hm, by rw [List.length_set]; exact h3, fun g hg => by
          dsimp only at hg ⊢
          rw [List.length_set] at hg
          rw [List.getElem_set, List.contains_eq_mem]
          by_cases e : k = g
          · subst e; rw [if_pos rfl]; exact (decide_eq_true (List.mem_append_right _ (List.mem_singleton.2 rfl))).symm
          · rw [if_neg e, h4, List.contains_eq_mem]
            refine decide_eq_decide.2 ⟨fun h => List.mem_append_left _ h, fun h => (List.mem_append.1 h).resolve_right fun h2 => ?_⟩
            rw [List.mem_singleton] at h2
            omega, h, fun x => by
          dsimp only
          rw [cnt_setC, hsn, hcn]
          by_cases e : x = l[k].dn
          · subst e; rw [if_pos rfl, if_pos rfl]
          · rw [if_neg e, if_neg (fun h => e h.symm)]; omega, hO.snoc hk hf, hsu.symm⟩ (by dsimp only; omega)
        clear hra hcn hsn h4 hT hsu hO ih2 hf k2
        generalize l[k] = r at *
        obtain ⟨dn, ws, adr, cap⟩ := r
        dsimp only [rcV] at *
        generalize setC dn (wl l O dn - 1) Lc = L2 at *
        generalize wl l O dn = n0 at *
        generalize wl l O k = n1 at *
        dsimp only [isV] at hap
        all_goals (refine go ?_; and_intros <;> (try exact trivial) <;> repeat (first | refine fun (Bk : Nat) => ?_ | intro h))
        repeat' ((first | (apply G.ld; rfl; (apply LdV.one; exact CellV.blk (by exact mm) q1); rfl) | (apply G.lk (kf := Value.int .i64) (a := (k : Int)) hI; rfl; rfl; exact mm; exact hlk0; rfl) | (apply G.lk (kf := Value.int .i64) (a := dn) hI; rfl; rfl; exact mm; exact hlk; rfl) | (apply G.mu (kf := Value.int .i64) (a := dn) hI hpt; rfl; rfl; rfl; rfl; (repeat (first | exact RAt.head | apply RAt.tail)); intro es2 c2 hI2) | (apply G.s1; rfl; rfl; rfl; (repeat (first | exact RAt.head | apply RAt.tail)); exact ⟨rfl, rfl⟩; exact l1; exact r1) | (apply G.sliceL; rfl; rfl; rfl; rfl; rfl; rfl; rfl; rfl; intro Bs) | (apply G.apV; rfl; rfl; rfl; (repeat (first | exact RAt.head | apply RAt.tail)); exact SrcV.blk (by exact mm) rfl rfl; exact hap; omega; omega; intro a2 c2)) <;> (refine go ?_; and_intros <;> (try exact trivial) <;> repeat (first | refine fun (Bk : Nat) => ?_ | intro h)))
        exact J.finS (ih a2 c2 es2 _ hI2)
      · rw [Bool.not_eq_true] at hf
        have ih2 := ih2 (k + 1) ⟨hk, fun j hj => by
          rcases Nat.lt_or_ge j k with h | h
          · exact k2 j h
          · obtain rfl : j = k := by omega
            exact hf⟩ (by omega)
        rw [hf] at hfr
        clear hra hcn h4 hT hO ih hf k2
        generalize l[k] = r at *
        obtain ⟨dn, ws, adr, cap⟩ := r
        dsimp only [rcV] at *
        generalize wl l O k = n1 at *
        generalize O.contains (k : Int) = b at *
        cases b with
        | true =>
          all_goals (refine go ?_; and_intros <;> (try exact trivial) <;> repeat (first | refine fun (Bk : Nat) => ?_ | intro h))
          repeat' ((first | (apply G.ld; rfl; (apply LdV.one; exact CellV.blk (by exact mm) q1); rfl) | (apply G.lk (kf := Value.int .i64) (a := (k : Int)) hI; rfl; rfl; exact mm; exact hlk0; rfl)) <;> (refine go ?_; and_intros <;> (try exact trivial) <;> repeat (first | refine fun (Bk : Nat) => ?_ | intro h)))
          exact J.finS ih2
        | false =>
          rw [Bool.not_false, Bool.true_and, eq_comm, decide_eq_false_iff_not] at hfr
          all_goals (refine go ?_; and_intros <;> (try exact trivial) <;> repeat (first | refine fun (Bk : Nat) => ?_ | intro h))
          repeat' ((first | (apply G.ld; rfl; (apply LdV.one; exact CellV.blk (by exact mm) q1); rfl) | (apply G.lk (kf := Value.int .i64) (a := (k : Int)) hI; rfl; rfl; exact mm; exact hlk0; rfl)) <;> (refine go ?_; and_intros <;> (try exact trivial) <;> repeat (first | refine fun (Bk : Nat) => ?_ | intro h)))
          exact J.finS ih2
    · obtain ⟨g, _, g1, g2⟩ := next_some hR (out := O) (by omega)
      rw [k2 g (by omega)] at g2
      cases g2
  · obtain rfl : m = l.length := by omega
    rw [Nat.sub_self, ordF] at hT
    subst hT
    clear ih
    all_goals (refine go ?_; and_intros <;> (try exact trivial) <;> repeat (first | refine fun (Bk : Nat) => ?_ | intro h))
    (refine ret2 Tryz.func17 Tryz.results17 ?_; intro w' hw)
    exact satI hw (i := 0) rfl h1.symm fun v => .tuple #[v, .int .i64 0]
end Go.Proofs.YtceaamdomkjmlaaGreatDoor
