/-
  Contracts of rivers: Along of the program.
-/
import Derived.Test.YtceaamdomkjmlaaGreatDoorNA56
import Derived.ProofKit
set_option linter.unusedVariables false
set_option linter.unusedSimpArgs false
set_option linter.unusedSectionVars false
namespace Go.Proofs.YtceaamdomkjmlaaGreatDoor
open Go.RowKit Go.Sl Go.Num
theorem kers_len (l : List Rch) (d : Nat) (g : Int) : (kers l d g).length = d := by rw [kers, List.length_map, List.length_range]
theorem kers_get (l : List Rch) (d : Nat) (g : Int) (i : Nat) (h : i < (kers l d g).length) : (kers l d g)[i] = ker1 l (itr l i g) := by simp [kers]
theorem ker1_at {l : List Rch} {g : Nat} (h : g < l.length) : ker1 l g = l[g].ws := by
  rw [ker1, if_neg (by omega), Int.toNat_natCast, List.getElem?_eq_getElem h]
theorem fold_step {m : List (List Int)} {i : Nat} (hi : i < m.length) (s : List Int × Int) : foldK s (m.drop i) = if s.2 ≠ 0 then s else foldK (compE s.1 m[i]) (m.drop (i + 1)) := by
  rw [List.drop_eq_getElem_cons hi, foldK]
/-- A path of two gauges or more, with the kernels that its water goes through. -/
theorem along_path {l : List Rch} {fr to : Int} (he : (pathE l fr to).2 = 0) (hne : fr ≠ to) : ∃ d, rivErr l = 0 ∧ (0 ≤ fr ∧ fr < l.length) ∧ (pathE l fr to).1 = stepsL l (d + 1) fr ∧ alongE l fr to = foldK (red (ker1 l fr), 0) (kers l d (dnOf l fr)) ∧ (∀ i, i ≤ d → 0 ≤ itr l i fr ∧ itr l i fr < l.length ∧ 0 ≤ dnOf l (itr l i fr)) := by
  by_cases h0 : firstE l [fr, to] = 0
  · obtain ⟨h1, h2, h3⟩ := first_ok h0
    have hR := riv_of h1
    rcases hR.path_iff h2 h3.1 with ⟨e, h4, h5⟩ | ⟨h4, h5⟩
    · cases e with
      | zero => exact absurd h4 hne
      | succ d =>
        have hp := Riv.pathE h1 h2 h3 h4
        refine ⟨d, h1, h2, by rw [hp], ?_, fun i hi => ?_⟩
        · rw [alongE, if_neg (by rw [hp]; exact fun h => h rfl), if_neg hne, hp, mid_steps]
        · have k1 : 0 ≤ itr l (i + 1) fr := by
            have := itr_pos (l := l) (j := i + 1) (k := d + 1) (g := fr) (by omega) (by omega)
            exact this
          have k2 : 0 ≤ itr l i fr := itr_pos (j := i) (k := d + 1) (by omega) (by omega)
          exact ⟨k2, (hR.in_ i h2.2 (by omega)).2, by rw [← itr_succ]; exact k1⟩
    · have hd := hR.dep h2.2
      rw [pathE_none h1 h2 h3 hd.1 fun i _ => h4 i] at he
      cases he
  · rw [pathE_bad h0] at he; exact absurd he h0
theorem vAlong_holds (a : Option Addr) (l : List Rch) (c : Nat) (fr to : Int) (w : World) (hA : SlAt w a 2 (l.map rcV)) (hK : KerAt w l) :
    Calls Tryz.prog 19 #[.slice a l.length c, .int .i64 fr, .int .i64 to] w (RetI (fun v => .tuple #[.agg #[v], .int .i64 (alongE l fr to).2]) w (alongE l fr to).1) := by
  have hp := fun w' (hb : Below w.heap.size w w') => vPath_holds a l c fr to w' (hA.below hb) (hK.below hb)
  by_cases he : (pathE l fr to).2 = 0
  case neg =>
    rw [alongE, if_pos he]
    dsimp only
    generalize (pathE l fr to).2 = E at *
    generalize (pathE l fr to).1 = P at *
    refine enterA [(0, .slice a l.length c), (1, .int .i64 fr), (2, .int .i64 to)] Tryz.func19 Tryz.ntmps19 ?_
    all_goals (refine go ?_; and_intros <;> (try exact trivial) <;> repeat (first | refine fun (Bk : Nat) => ?_ | intro h))
    repeat' ((first | (apply G.cN (g := 11) (fun a' c' => .tuple #[.slice a' P.length c', .int .i64 E]) (P.map isV); rfl; rfl; exact fun w' hw' => hp w' hw'.below; intro a1 c1 hp1 hq1)) <;> (refine go ?_; and_intros <;> (try exact trivial) <;> repeat (first | refine fun (Bk : Nat) => ?_ | intro h)))
    (refine ret2 Tryz.func19 Tryz.results19 ?_; intro w' hw)
    exact retI_nil (fun v => .tuple #[.agg #[v], .int .i64 E]) hw.below
  by_cases hne : fr = to
  · subst hne
    rw [alongE, if_neg (fun h => h he), if_pos rfl]
    have hd := fun w' => vDelay0_holds w'
    dsimp only
    generalize (pathE l fr fr).2 = E at *
    subst he
    generalize (pathE l fr fr).1 = P at *
    refine enterA [(0, .slice a l.length c), (1, .int .i64 fr), (2, .int .i64 fr)] Tryz.func19 Tryz.ntmps19 ?_
    all_goals (refine go ?_; and_intros <;> (try exact trivial) <;> repeat (first | refine fun (Bk : Nat) => ?_ | intro h))
    repeat' ((first | (apply G.cN (g := 11) (fun a' c' => .tuple #[.slice a' P.length c', .int .i64 0]) (P.map isV); rfl; rfl; exact fun w' hw' => hp w' hw'.below; intro a1 c1 hp1 hq1) | (apply G.cN (g := 56) (fun a' c' => .tuple #[.agg #[.slice a' 1 c'], .int .i64 0]) ([(1 : Int)].map isV); rfl; rfl; exact fun w' hw' => hd w'; intro a2 c2 hp2 hq2)) <;> (refine go ?_; and_intros <;> (try exact trivial) <;> repeat (first | refine fun (Bk : Nat) => ?_ | intro h)))
    (refine ret2 Tryz.func19 Tryz.results19 ?_; intro w' hw)
    exact ⟨a2, c2, rfl, hw.sl (by exact mm), hq2, hw.below⟩
  · obtain ⟨d, h1, h2, h3, h4, h5⟩ := along_path he hne
    have hR := riv_of h1
    have hl := hR.len
    have hp := fun w' (hb : Below w.heap.size w w') => vPathJ_holds a l c fr to w' (hA.below hb) (hK.below hb)
    rw [he, h3] at hp
    rw [h4]
    obtain ⟨k0, k1, k2⟩ := h5 0 (Nat.zero_le _)
    have hk0 := (hR.pos ⟨k0, k1⟩ k2).2
    rw [itr] at hk0
    obtain ⟨f, rfl⟩ : ∃ f : Nat, fr = f := ⟨fr.toNat, by omega⟩
    have hf : f < l.length := by omega
    rw [ker1_at hf] at hk0 ⊢
    have hml := kers_len l d (dnOf l f)
    have hsl := stepsL_len l (d + 1) f
    have hall : ∀ i (hi : i < d) (q1 : i + 1 < (stepsL l (d + 1) f).length) (q2 : i < (kers l d (dnOf l f)).length), ∃ j : Nat, ∃ hj : j < l.length, (stepsL l (d + 1) f)[i + 1] = (j : Int) ∧ (kers l d (dnOf l f))[i] = l[j].ws := fun i hi q1 q2 => by
      have h6 := h5 (i + 1) (by omega)
      obtain ⟨j, hj⟩ : ∃ j : Nat, itr l (i + 1) f = j := ⟨(itr l (i + 1) f).toNat, by omega⟩
      rw [stepsL_get, kers_get, show itr l i (dnOf l f) = itr l (i + 1) f from rfl, hj]
      have hjl : j < l.length := by omega
      exact ⟨j, hjl, rfl, ker1_at hjl⟩
    have hdb : d ≤ 40 := by
      have h6 := h5 d (Nat.le_refl _)
      have h7 := hR.dep h2.2
      rcases Nat.lt_or_ge d (dpt l f) with h8 | h8
      · omega
      · have := itr_pos h6.1 h8
        omega
    clear h5 k0 k1 k2 h3 h4
    generalize kers l d (dnOf l f) = mid at *
    generalize stepsL l (d + 1) f = P at *
    have hkf := hK _ (List.getElem_mem hf)
    have hr := fun w' (hb : Below w.heap.size w w') => vReduce_holds l[f].adr l[f].ws l[f].cap w' (hkf.below hb)
    rw [redE, if_pos hk0] at hr
    dsimp only at hr
    obtain ⟨ba, oa, rfl, hra⟩ := SlAt.all hA (by omega)
    have hrf := hra f hf
    clear hkf hk0 he h1 h2
    generalize hRR : foldK (red l[f].ws, 0) mid = R at *
    generalize red l[f].ws = K0 at *
    generalize l[f] = r0 at hr hrf
    obtain ⟨dn, ws, adr, cap⟩ := r0
    dsimp only [rcV] at hrf hr
    refine enterA [(0, .slice (some ⟨ba, oa, none⟩) l.length c), (1, .int .i64 f), (2, .int .i64 to)] Tryz.func19 Tryz.ntmps19 ?_
    all_goals (refine go ?_; and_intros <;> (try exact trivial) <;> repeat (first | refine fun (Bk : Nat) => ?_ | intro h))
    repeat' ((first | (apply G.cNq (g := 11) (fun _ c' => P.length ≤ c') (fun a' c' => .tuple #[.slice a' P.length c', .int .i64 0]) (P.map isV); rfl; rfl; exact fun w' hw' => hp w' hw'.below; intro a1 c1 hp1 hq1 hcap; obtain ⟨b1, o1, rfl⟩ := hp1 (by rw [List.length_map]; omega)) | (apply G.cN (g := 57) (fun a' c' => .tuple #[.agg #[.slice a' K0.length c'], .int .i64 0]) (K0.map isV); rfl; rfl; exact fun w' hw' => hr w' hw'.below; intro a2 c2 hp2 hq2) | (apply G.slp (l := 1) (h := d + 1) (off := o1 + 1 * 1) (len := d); rfl; rfl; rfl; omega; omega; omega; omega; omega; rfl; omega; rfl)) <;> (refine go ?_; and_intros <;> (try exact trivial) <;> repeat (first | refine fun (Bk : Nat) => ?_ | intro h)))
    refine J.loop (c := _) (((0, K0, 0), a2, c2) : (Nat × List Int × Int) × Option Addr × Nat) (fun s => d - s.1.1) (fun s => [(0, .slice (some ⟨ba, oa, none⟩) l.length c), (6, .pointer (some ⟨_, 0, none⟩)), (9, .int .i64 s.1.2.2), (10, .pointer (some ⟨_, 0, none⟩)), (43, .slice (some ⟨b1, o1 + 1 * 1, none⟩) d _), (44, .int .i64 d), (45, .int .i64 s.1.1)]) (fun s => [.blk _ 41 [.slice s.2.1 s.1.2.1.length s.2.2] 1, slRow w.heap.size s.2.1 1 (s.1.2.1.map isV), slRow w.heap.size (some ⟨b1, o1, none⟩) 1 (P.map isV), .blk _ 41 [.slice none 0 0] 1]) (fun s => s.1.1 ≤ d ∧ foldK (s.1.2.1, s.1.2.2) (mid.drop s.1.1) = R ∧ ∀ p, s.2.1 = some p → w.heap.size ≤ p.block) ?_ sbT sbL ?_
    · exact ⟨Nat.zero_le _, hRR, hq2⟩
    clear hp hr hRR hp1 hp2 hq1 hq2 hcap hrf
    intro ⟨⟨i, K, e⟩, au, cu⟩ ⟨i1, i2, i3⟩ ih
    dsimp only at i1 i2 i3 ⊢
    by_cases hi : i < d
    · rw [fold_step (by omega)] at i2
      obtain ⟨j, hj, q1, q2⟩ := hall i hi (by omega) (by omega)
      have hgt := fun {C M} (hm : slRow w.heap.size (some ⟨b1, o1, none⟩) 1 (P.map isV) ∈ M) => (show CellV C M ⟨b1, o1 + 1 * 1 + i * 1, none⟩ (.int .i64 j) from by
        have := CellV.sl0 (C := C) (M := M) (f := isV) (l := P) (i := i + 1) hm (by omega) rfl
        rwa [q1, show o1 + (i + 1) * 1 = o1 + 1 * 1 + i * 1 by omega] at this)
      have hrj := hra j hj
      have hkj := hK _ (List.getElem_mem hj)
      by_cases he : e = 0
      · rw [if_neg (fun h => h he), q2] at i2
        have hcp := fun w' (hb : Below w.heap.size w w') hK' => vCompose_holds au l[j].adr K l[j].ws cu l[j].cap w' hK' (hkj.below hb)
        have ih := fun K2 e2 (h : compE K l[j].ws = (K2, e2)) au2 cu2 h3 => ih ((i + 1, K2, e2), au2, cu2) ⟨hi, by dsimp only; rw [← i2, h], h3⟩ (by dsimp only; omega)
        clear hra hall q1 q2 i2 hkj
        subst he
        dsimp only at hcp ih
        generalize l[j] = r1 at *
        obtain ⟨dn1, ws1, adr1, cap1⟩ := r1
        dsimp only [rcV] at *
        generalize hce : compE K ws1 = Z at *
        obtain ⟨K2, e2⟩ := Z
        have ih := ih K2 e2 rfl
        dsimp only at hcp ih
        all_goals (refine goR ?_; and_intros <;> (try exact trivial) <;> repeat (first | refine fun (Bk : Nat) => ?_ | intro h))
        repeat' ((first | (apply G.ld; rfl; (apply LdV.one; exact hgt (by exact mm)); rfl) | (apply J.regA (.q 0 <| .q 1 <| .q 2 <| .q 3 <| .q 4 <| .q 5 <| .r 6 <| .q 7 <| .q 8 <| .q 9 <| .r 10 <| .q 11 <| .nil); exact Tryz.mixed; decide +kernel) | (apply G.cN (g := 33) (fun a' c' => .tuple #[.agg #[.slice a' K2.length c'], .int .i64 e2]) (K2.map isV); rfl; rfl; exact fun w' hw' => hcp w' hw'.below (hw'.sl (by exact mm)); intro a3 c3 hp3 hq3) | (apply J.regQ; exact Tryz.mixed; decide +kernel) | (apply J.regL'; exact Tryz.mixed; decide +kernel)) <;> (refine goR ?_; and_intros <;> (try exact trivial) <;> repeat (first | refine fun (Bk : Nat) => ?_ | intro h)))
        exact J.finS (ih a3 c3 hq3)
      · rw [if_pos he] at i2
        subst i2
        clear hra hall q1 q2 hkj ih
        dsimp only
        all_goals (refine go ?_; and_intros <;> (try exact trivial) <;> repeat (first | refine fun (Bk : Nat) => ?_ | intro h))
        repeat' ((first | (apply G.ld; rfl; (apply LdV.one; exact hgt (by exact mm)); rfl)) <;> (refine go ?_; and_intros <;> (try exact trivial) <;> repeat (first | refine fun (Bk : Nat) => ?_ | intro h)))
        (refine ret2 Tryz.func19 Tryz.results19 ?_; intro w' hw)
        exact ⟨au, cu, rfl, hw.sl (by exact mm), i3, hw.below⟩
    · rw [show mid.drop i = [] from List.drop_eq_nil_of_le (by omega), foldK] at i2
      subst i2
      clear ih
      dsimp only
      all_goals (refine go ?_; and_intros <;> (try exact trivial) <;> repeat (first | refine fun (Bk : Nat) => ?_ | intro h))
      (refine ret2 Tryz.func19 Tryz.results19 ?_; intro w' hw)
      exact ⟨au, cu, rfl, hw.sl (by exact mm), i3, hw.below⟩
end Go.Proofs.YtceaamdomkjmlaaGreatDoor
/-
  Contracts of kernels: the ticks from which something arrives, as an iterator.
-/
namespace Go.Proofs.YtceaamdomkjmlaaGreatDoor
open Go.RowKit Go.Sl Go.Num
/-- The ticks from which something arrives, with the weights that do. -/
def tkE (k : List Int) (fr to : Int) : List (Int × Int) := if fr < to then (List.range (to - t0Of k fr).toNat).map fun i : Nat => (t0Of k fr + i, wIn k fr to (t0Of k fr + i)) else []
theorem tkE_len {k : List Int} {fr to : Int} (h : fr < to) : (tkE k fr to).length = (to - t0Of k fr).toNat := by rw [tkE, if_pos h, List.length_map, List.length_range]
theorem tkE_get {k : List Int} {fr to : Int} (h : fr < to) {i : Nat} (hi : i < (to - t0Of k fr).toNat) : (tkE k fr to)[i]? = some (t0Of k fr + i, wIn k fr to (t0Of k fr + i)) := by
  rw [tkE, if_pos h, List.getElem?_map, List.getElem?_range hi]; rfl
theorem sumL_take (k : List Int) {i : Nat} (h : i < k.length) : sumL (k.take (i + 1)) = sumL (k.take i) + k[i] := by
  rw [List.take_add_one, List.getElem?_eq_getElem h, sumL_app]
  simp [sumL]
theorem sumL_take_bd {k : List Int} (h : ∀ w ∈ k, 0 ≤ w) (i : Nat) : 0 ≤ sumL (k.take i) ∧ sumL (k.take i) ≤ sumL k := by
  have h1 := sumL_app (k.take i) (k.drop i)
  rw [List.take_append_drop] at h1
  have h2 := sumL_nn (k := k.take i) fun w hw => h w (List.mem_of_mem_take hw)
  have h3 := sumL_nn (k := k.drop i) fun w hw => h w (List.mem_of_mem_drop hw)
  omega
theorem wIn_sums {k : List Int} {fr to t : Int} (h : fr ≤ to) {lo hi : Nat} (h1 : (lo : Int) = min (k.length : Int) (max 0 (fr - t))) (h2 : (hi : Int) = min (k.length : Int) (max 0 (to - t))) : wIn k fr to t = sumL (k.take hi) - sumL (k.take lo) := by
  rw [wIn_eq h]
  have e : ∀ (m : Nat) (x : Int), (m : Int) = min (k.length : Int) (max 0 x) → k.take x.toNat = k.take m := fun m x hm => by
    rcases Nat.lt_or_ge x.toNat k.length with h3 | h3
    · rw [show m = x.toNat by omega]
    · rw [List.take_of_length_le h3, List.take_of_length_le (by omega)]
  rw [e hi _ h2, e lo _ h1]
theorem ticks_iter (w0 : World) (Bk Bt : Nat) (a : Option Addr) (k : List Int) (c : Nat) (fr to : Int) (hA : SlAt w0 a 1 (k.map isV)) (hk : Ker k) (ht : 0 ≤ fr ∧ fr ≤ to ∧ to ≤ 1402560) :
    IterG Tryz.prog w0 [.blk Bk 41 [.slice a k.length c] 1, .blk Bt 25 [.int .i64 fr, .int .i64 to] 2] 108 #[.pointer (some ⟨Bk, 0, none⟩), .pointer (some ⟨Bt, 0, none⟩)] (fun e : Int × Int => [.int .i64 e.1, .int .i64 e.2]) (tkE k fr to) := by
  intro X Rs Inv Out fY cY hY x0 hI0 M1 w hw
  have hkl := hk.len
  have hks := hk.sum
  have hkn := fun w hw => (hk.nn w hw).1
  have hbd := sumL_take_bd hkn
  refine enterR [(0, .func fY #[] cY), (1, .pointer (some ⟨Bk, 0, none⟩)), (2, .pointer (some ⟨Bt, 0, none⟩))] hw Tryz.func108 Tryz.ntmps108 ?_
  obtain ⟨ba, oa, rfl, hra⟩ := SlAt.all hA (by omega)
  have hN : ((k.length : Int) + 1) = ((k.length + 1 : Nat) : Int) := by omega
  all_goals (refine go ?_; and_intros <;> (try exact trivial) <;> repeat (first | refine fun (Bk : Nat) => ?_ | intro h))
  rw [hN]
  all_goals (refine go ?_; and_intros <;> (try exact trivial) <;> repeat (first | refine fun (Bk : Nat) => ?_ | intro h))
  repeat' ((first | (apply G.make (n := k.length + 1) [.int .i64 0]; rfl; rfl; rfl; rfl; rfl; rfl; rfl; rfl; omega; omega; intro B)) <;> (refine go ?_; and_intros <;> (try exact trivial) <;> repeat (first | refine fun (Bk : Nat) => ?_ | intro h)))
  rw [flat_zero]
  refine J.loop (c := _) ((0, List.replicate (k.length + 1) 0) : Nat × List Int) (fun s => k.length - s.1) (fun s => [(0, .func fY #[] cY), (2, .pointer (some ⟨Bt, 0, none⟩)), (4, .int .i64 k.length), (5, .slice (some ⟨B, 0, none⟩) (k.length + 1) (k.length + 1)), (18, .slice (some ⟨ba, oa, none⟩) k.length c), (19, .int .i64 k.length), (20, .int .i64 s.1)]) (fun s => .blk B 3 (flat isV s.2) ((k.length + 1) * 1) :: .blk Bk 41 [.slice (some ⟨ba, oa, none⟩) k.length c] 1 :: .blk Bt 25 [.int .i64 fr, .int .i64 to] 2 :: (Rs x0 ++ M1)) (fun s => s.1 ≤ k.length ∧ s.2.length = k.length + 1 ∧ ∀ j, j ≤ s.1 → s.2.getD j 0 = sumL (k.take j)) ?_ sbT sbL ?_
  · exact ⟨Nat.zero_le _, List.length_replicate, fun j hj => by
      obtain rfl := Nat.le_zero.1 hj
      rw [getD_eq (by rw [List.length_replicate]; omega), List.getElem_replicate, List.take_zero, sumL]⟩
  intro ⟨i, S⟩ ⟨h1, h2, h3⟩ ih
  dsimp only at h1 h2 h3 ⊢
  by_cases hi : i < k.length
  · have hri := hra i hi
    have q1 := gI (S := S) (j := i) (by omega)
    have hb1 := hbd i
    have hb2 := hbd (i + 1)
    have hst := sumL_take k hi
    rw [h3 i (Nat.le_refl _)] at q1
    have r1 := sI (S := S) (j := i + 1) (v := sumL (k.take i) + k[i]) (by omega)
    have l1 : 0 + (i + 1) * 1 < (flat isV S).length := by rw [isLen]; omega
    have ih := ih (i + 1, S.set (i + 1) (sumL (k.take i) + k[i])) ⟨hi, by rw [List.length_set]; exact h2, fun j hj => by
      dsimp only
      by_cases e : j = i + 1
      · subst e
        rw [getD_eq (by rw [List.length_set]; omega), List.getElem_set_self, hst]
      · rw [List.getD_eq_getElem?_getD, List.getElem?_set_ne (by omega), ← List.getD_eq_getElem?_getD, h3 j (by omega)]⟩ (by dsimp only; omega)
    clear hra h3
    generalize S.set (i + 1) (sumL (k.take i) + k[i]) = S2 at *
    generalize sumL (k.take i) = p0 at *
    generalize k[i] = y at *
    dsimp only [isV] at hri
    all_goals (refine go ?_; and_intros <;> (try exact trivial) <;> repeat (first | refine fun (Bk : Nat) => ?_ | intro h))
    repeat' ((first | (apply G.ld; rfl; (apply LdV.one; exact CellV.blk (by exact mm) q1); rfl) | (apply G.s1; rfl; rfl; rfl; (repeat (first | exact RAt.head | apply RAt.tail)); exact ⟨rfl, rfl⟩; exact l1; exact r1)) <;> (refine go ?_; and_intros <;> (try exact trivial) <;> repeat (first | refine fun (Bk : Nat) => ?_ | intro h)))
    exact J.fin ih
  · obtain rfl : i = k.length := by omega
    clear ih hra
    all_goals (refine go ?_; and_intros <;> (try exact trivial) <;> repeat (first | refine fun (Bk : Nat) => ?_ | intro h))
    have ht0 : max 0 (fr - (k.length : Int) + 1) = t0Of k fr := rfl
    have htt : 0 ≤ t0Of k fr ∧ t0Of k fr ≤ to ∧ fr < t0Of k fr + k.length := by rw [← ht0]; omega
    have hgt := fun h i hi => tkE_get (k := k) (fr := fr) (to := to) h (i := i) hi
    have hgl := fun h => tkE_len (k := k) (fr := fr) (to := to) h
    have hge : ¬ fr < to → tkE k fr to = [] := fun h => by rw [tkE, if_neg h]
    rw [ht0]
    generalize t0Of k fr = t0 at *
    clear ht0 hw
    rw [show (Value.int .i64 t0) = .int .i64 (t0 + (0 : Nat)) from by rw [Int.natCast_zero, Int.add_zero]]
    by_cases hft : fr < to
    · skip
      refine J.loop (c := _) ((0, x0) : Nat × X) (fun s => (to - t0).toNat - s.1) (fun s => [(0, .func fY #[] cY), (2, .pointer (some ⟨Bt, 0, none⟩)), (4, .int .i64 k.length), (5, .slice (some ⟨B, 0, none⟩) (k.length + 1) (k.length + 1)), (8, .int .i64 (t0 + s.1))]) (fun s => .blk B 3 (flat isV S) ((k.length + 1) * 1) :: .blk Bk 41 [.slice (some ⟨ba, oa, none⟩) k.length c] 1 :: .blk Bt 25 [.int .i64 fr, .int .i64 to] 2 :: (Rs s.2 ++ M1)) (fun s => s.1 ≤ (to - t0).toNat ∧ Inv s.1 s.2) ?_ sbT sbL ?_
      · exact ⟨Nat.zero_le _, hI0⟩
      clear hI0
      intro ⟨i, x⟩ ⟨i1, i2⟩ ih
      dsimp only at i1 i2 ⊢
      by_cases hi : i < (to - t0).toNat
      · have hy := hY i x _ i2 (hgt hft i hi)
        have ih := fun x' h => ih (i + 1, x') ⟨hi, h⟩ (by dsimp only; omega)
        obtain ⟨lo, elo⟩ : ∃ lo : Nat, (lo : Int) = min (k.length : Int) (max 0 (fr - (t0 + i))) := ⟨(min (k.length : Int) (max 0 (fr - (t0 + i)))).toNat, by omega⟩
        obtain ⟨hi', ehi⟩ : ∃ hi' : Nat, (hi' : Int) = min (k.length : Int) (to - (t0 + i)) := ⟨(min (k.length : Int) (to - (t0 + i))).toNat, by omega⟩
        have hsm := wIn_sums (k := k) (fr := fr) (to := to) (t := t0 + i) (by omega) elo (by omega : (hi' : Int) = min (k.length : Int) (max 0 (to - (t0 + i))))
        rw [hsm] at hy
        have q1 := gI (S := S) (j := hi') (by omega)
        have q2 := gI (S := S) (j := lo) (by omega)
        rw [h3 _ (by omega)] at q1 q2
        have b1 := hbd hi'
        have b2 := hbd lo
        clear hsm hbd h3 hgt hgl hge hY
        generalize sumL (k.take hi') = s1 at *
        generalize sumL (k.take lo) = s2 at *
        have hlh : lo < hi' := by omega
        all_goals (refine goR ?_; and_intros <;> (try exact trivial) <;> repeat (first | refine fun (Bk : Nat) => ?_ | intro h))
        repeat' ((first | (apply J.regY 15 (.q 0 <| .q 1 <| .q 2 <| .q 3 <| .q 4 <| .q 5 <| .q 6 <| .q 7 <| .q 8 <| .q 9 <| .q 10 <| .q 11 <| .q 12 <| .q 13 <| .q 14 <| .nil); exact Tryz.mixed; decide +kernel) | (refine J.inReg rfl ?_) | (apply G.ix (i := hi'); rfl; rfl; exact ehi.symm; omega; rfl) | (apply G.ix (i := lo); rfl; rfl; exact elo.symm; omega; rfl) | (apply G.ld; rfl; (apply LdV.one; exact CellV.blk (by exact mm) q1); rfl) | (apply G.ld; rfl; (apply LdV.one; exact CellV.blk (by exact mm) q2); rfl) | (refine G.callG (Rs := Rs) (x := x) (M1 := M1) (Inv (i + 1)) Out hy rfl rfl rfl rfl (by (repeat (first | exact Splt.nil | apply Splt.cons))) ?_ ?_; all_goals intro x' hx') | (apply J.regQ; exact Tryz.mixed; decide +kernel) | (apply J.regL'; exact Tryz.mixed; decide +kernel)) <;> (refine goR ?_; and_intros <;> (try exact trivial) <;> repeat (first | refine fun (Bk : Nat) => ?_ | intro h)))
        · rw [show (t0 + (i : Int) + 1) = t0 + ((i + 1 : Nat) : Int) by omega]
          exact J.fin (ih x' hx')
        · refine ret0 Tryz.func108 Tryz.results108 ?_
          exact fun w' hw' => ⟨rfl, x', hw'.forget sbL, .inr hx'⟩
      · obtain rfl : i = (to - t0).toNat := by omega
        rw [hgl hft]
        clear ih hgt hgl hge hY hbd h3
        rw [show t0 + (((to - t0).toNat : Nat) : Int) = to by omega]
        all_goals (refine go ?_; and_intros <;> (try exact trivial) <;> repeat (first | refine fun (Bk : Nat) => ?_ | intro h))
        refine end0 Tryz.func108 Tryz.results108 ?_
        exact fun w' hw' => ⟨rfl, x, hw'.forget sbL, .inl i2⟩
    · rw [hge hft]
      clear hgt hgl hge hY hbd h3
      refine J.loop (c := _) (0 : Nat) (fun s => (to - t0).toNat - s) (fun s => [(0, .func fY #[] cY), (2, .pointer (some ⟨Bt, 0, none⟩)), (4, .int .i64 k.length), (5, .slice (some ⟨B, 0, none⟩) (k.length + 1) (k.length + 1)), (8, .int .i64 (t0 + s : Int))]) (fun s => .blk B 3 (flat isV S) ((k.length + 1) * 1) :: .blk Bk 41 [.slice (some ⟨ba, oa, none⟩) k.length c] 1 :: .blk Bt 25 [.int .i64 fr, .int .i64 to] 2 :: (Rs x0 ++ M1)) (fun s => s ≤ (to - t0).toNat) ?_ sbT sbL ?_
      · exact Nat.zero_le _
      intro i i1 ih
      by_cases hi : i < (to - t0).toNat
      · have ih := ih (i + 1) hi (by omega)
        obtain ⟨lo, elo⟩ : ∃ lo : Nat, (lo : Int) = min (k.length : Int) (max 0 (fr - (t0 + i))) := ⟨(min (k.length : Int) (max 0 (fr - (t0 + i)))).toNat, by omega⟩
        obtain ⟨hi', ehi⟩ : ∃ hi' : Nat, (hi' : Int) = min (k.length : Int) (to - (t0 + i)) := ⟨(min (k.length : Int) (to - (t0 + i))).toNat, by omega⟩
        have hlh : ¬ lo < hi' := by omega
        all_goals (refine goR ?_; and_intros <;> (try exact trivial) <;> repeat (first | refine fun (Bk : Nat) => ?_ | intro h))
        repeat' ((first | (apply J.regY 15 (.q 0 <| .q 1 <| .q 2 <| .q 3 <| .q 4 <| .q 5 <| .q 6 <| .q 7 <| .q 8 <| .q 9 <| .q 10 <| .q 11 <| .q 12 <| .q 13 <| .q 14 <| .nil); exact Tryz.mixed; decide +kernel) | (refine J.inReg rfl ?_) | (apply J.regQ; exact Tryz.mixed; decide +kernel) | (apply J.regL'; exact Tryz.mixed; decide +kernel)) <;> (refine goR ?_; and_intros <;> (try exact trivial) <;> repeat (first | refine fun (Bk : Nat) => ?_ | intro h)))
        rw [show (t0 + (i : Int) + 1) = t0 + ((i + 1 : Nat) : Int) by omega]
        exact J.fin ih
      · obtain rfl : i = (to - t0).toNat := by omega
        clear ih
        rw [show t0 + (((to - t0).toNat : Nat) : Int) = to by omega]
        all_goals (refine go ?_; and_intros <;> (try exact trivial) <;> repeat (first | refine fun (Bk : Nat) => ?_ | intro h))
        refine end0 Tryz.func108 Tryz.results108 ?_
        exact fun w' hw' => ⟨rfl, x0, hw'.forget sbL, .inl hI0⟩
theorem ticks_holds (w0 : World) (M : List Row) (w : World) (a : Option Addr) (k : List Int) (c : Nat) (fr to : Int) (hw : Sat w0 M w) :
    Calls Tryz.prog 84 #[.agg #[.slice a k.length c], .agg #[.int .i64 fr, .int .i64 to]] w fun e w' => ∃ x : Nat × Nat, e = .returned (.func (.func 108) #[] #[.pointer (some ⟨x.1, 0, none⟩), .pointer (some ⟨x.2, 0, none⟩)]) ∧ Sat w0 (.blk x.1 41 [.slice a k.length c] 1 :: .blk x.2 25 [.int .i64 fr, .int .i64 to] 2 :: M) w' := by
  refine enterR [(0, .agg #[.slice a k.length c]), (1, .agg #[.int .i64 fr, .int .i64 to])] hw Tryz.func84 Tryz.ntmps84 ?_
  all_goals (refine go ?_; and_intros <;> (try exact trivial) <;> repeat (first | refine fun (Bk : Nat) => ?_ | intro h))
  refine ret1 Tryz.func84 Tryz.results84 ?_
  exact fun w' hw' => ⟨(_, _), rfl, hw'.sel⟩
end Go.Proofs.YtceaamdomkjmlaaGreatDoor
/-
  Contracts of kernels: Arrive of the program.
-/
namespace Go.Proofs.YtceaamdomkjmlaaGreatDoor
open Go.RowKit Go.Sl Go.Num
/-- A part that arrives, in memory. -/
def wV (tot : Int) (p : Prt) : List Value := [.int .i64 p.1, .int .i64 p.2.1] ++ qV (rQ ((p.2.2 : Rat) / (tot : Rat)))
theorem wV_len (tot : Int) (p : Prt) : (wV tot p).length = 5 := rfl
theorem flat_last_get {A : Type} {f : A → List Value} {sz : Nat} (hf : ∀ x, (f x).length = sz) (o : List A) (p : A) (j : Nat) : (flat f (o ++ [p]))[0 + o.length * sz + j]? = (f p)[j]? := by
  rw [flat_append, List.getElem?_append_right (by rw [flat_len hf]; omega), flat_len hf, show 0 + o.length * sz + j - o.length * sz = j by omega, flat_cons, show flat f [] = [] from rfl, List.append_nil]
theorem flat_last_set {A : Type} {f : A → List Value} {sz : Nat} (hf : ∀ x, (f x).length = sz) (o : List A) (p p' : A) (j : Nat) (v : Value) (h : (f p).set j v = f p') : setL (flat f (o ++ [p])) (0 + o.length * sz + j) [v] = flat f (o ++ [p']) := by
  show (flat f (o ++ [p])).set (0 + o.length * sz + j) v = _
  rw [flat_append, flat_append, List.set_append_right _ _ (by rw [flat_len hf]; omega), flat_len hf, show 0 + o.length * sz + j - o.length * sz = j by omega, flat_cons, flat_cons, show flat f [] = [] from rfl, List.append_nil, List.append_nil, h]
theorem addP_snoc (o : List Prt) (p : Prt) {t w : Int} (hw : w ≠ 0) : addP (o ++ [p]) t w = if p.2.1 = t ∧ p.2.2 = w then o ++ [(p.1, t + 1, w)] else o ++ [p] ++ [(t, t + 1, w)] := by
  rw [addP, if_neg hw, List.getLast?_concat, List.dropLast_concat]
theorem addP_nil {t w : Int} (hw : w ≠ 0) : addP [] t w = [(t, t + 1, w)] := by
  rw [addP, if_neg hw]; rfl
theorem addP_len (o : List Prt) (t w : Int) : (addP o t w).length ≤ o.length + 1 := by
  rcases nil_or_snoc o with rfl | ⟨o, p, rfl⟩
  · by_cases hw : w = 0
    · rw [addP, if_pos hw]; exact Nat.zero_le _
    · rw [addP_nil hw]; exact Nat.le_refl _
  · by_cases hw : w = 0
    · rw [addP, if_pos hw]; omega
    · rw [addP_snoc o p hw]
      split <;> simp
theorem arrF_succ {W : Int → Int} (i : Nat) (t : Int) (out : List Prt) : arrF W (i + 1) t out = addP (arrF W i t out) (t + i) (W (t + i)) := by
  rw [arrF_add i 1]; rfl
theorem arrF_len {W : Int → Int} (t : Int) : ∀ i, (arrF W i t []).length ≤ i
  | 0 => Nat.le_refl _
  | i + 1 => by
    rw [arrF_succ]
    have := addP_len (arrF W i t []) (t + i) (W (t + i))
    have := arrF_len (W := W) t i
    omega
/-- The weight of the last part, if it ends at the tick at hand. -/
theorem arr_last {W : Int → Int} {t0 : Int} {i : Nat} {o : List Prt} {p : Prt} (h : arrF W i t0 [] = o ++ [p]) : (p.2.1 = t0 + i → 0 < i ∧ W (t0 + i - 1) = p.2.2) ∧ p.2.1 ≤ t0 + i ∧ p.1 < p.2.1 ∧ t0 ≤ p.1 := by
  have hP := arrF_ok (W := W) (t0 := t0) i t0 [] (Int.le_refl _) (Prts.nil W t0)
  rw [h] at hP
  have := hP.mem p (List.mem_append_right _ (List.mem_singleton.2 rfl))
  refine ⟨fun e => ⟨by omega, (this.2.2.2 (t0 + i - 1) (by omega) (by omega)).1⟩, this.2.2.1, this.2.1, this.1⟩
def arrE (k : List Int) (fr to : Int) : List Prt × Int := if kerErr k ≠ 0 then ([], kerErr k) else if fr < 0 ∨ to < fr ∨ 1402560 < to then ([], 3) else (arrL k fr to, 0)
/-- A new slice of parts. -/
def RetW (F : Value → Value) (tot : Int) (w : World) (L : List Prt) (e : Ending) (w' : World) : Prop := ∃ a' c', e = .returned (F (.slice a' L.length c')) ∧ SlAt w' a' 5 (L.map (wV tot)) ∧ (∀ p, a' = some p → w.heap.size ≤ p.block) ∧ Below w.heap.size w w'
theorem satW {w0 w : World} {M : List Row} {i E base : Nat} {a : Option Addr} {n c : Nat} {tot : Int} {l : List Prt} (hw : Sat w0 M w) (hm : M[i]? = some (.own base (.slice a n c) E 5 n (flat (wV tot) l))) (hn : l.length = n) (F : Value → Value) : RetW F tot w0 l (.returned (F (.slice a n c))) w := by
  have hmem := List.mem_of_getElem? hm
  exact ⟨a, c, by rw [hn], SlAt.ofOwn (wV_len tot) (hw.hold _ hmem) hn, fun p hp => ((hw.old _ hmem).2 p.block (by subst hp; rfl)).1, hw.below⟩
theorem retW_nil {w w' : World} (F : Value → Value) (tot : Int) (hb : Below w.heap.size w w') : RetW F tot w [] (.returned (F (.slice none 0 0))) w' := ⟨none, 0, rfl, SlAt.nil, (fun p hp => by cases hp), hb⟩
theorem vArrive_holds (a : Option Addr) (k : List Int) (c : Nat) (fr to : Int) (w : World) (hA : SlAt w a 1 (k.map isV)) :
    Calls Tryz.prog 60 #[.agg #[.slice a k.length c], .agg #[.int .i64 fr, .int .i64 to]] w (RetW (fun v => .tuple #[v, .int .i64 (arrE k fr to).2]) (sumL k) w (arrE k fr to).1) := by
  have hc := fun w' (hb : Below w.heap.size w w') => kCheck_holds a k c w' (hA.below hb)
  rw [arrE]
  by_cases h0 : kerErr k = 0
  case neg =>
    rw [if_pos h0]
    dsimp only
    generalize kerErr k = E at *
    refine enterA [(0, .agg #[.slice a k.length c]), (1, .agg #[.int .i64 fr, .int .i64 to])] Tryz.func60 Tryz.ntmps60 ?_
    all_goals (refine go ?_; and_intros <;> (try exact trivial) <;> repeat (first | refine fun (Bk : Nat) => ?_ | intro h))
    repeat' ((first | (refine G.cvb hc ?_)) <;> (refine go ?_; and_intros <;> (try exact trivial) <;> repeat (first | refine fun (Bk : Nat) => ?_ | intro h)))
    (refine ret2 Tryz.func60 Tryz.results60 ?_; intro w' hw)
    exact retW_nil (fun v => .tuple #[v, .int .i64 E]) _ hw.below
  have hk := ker_of h0
  rw [if_neg (fun h => h h0)]
  rw [h0] at hc
  by_cases h1 : fr < 0 ∨ to < fr ∨ 1402560 < to
  · rw [if_pos h1]
    dsimp only
    refine enterA [(0, .agg #[.slice a k.length c]), (1, .agg #[.int .i64 fr, .int .i64 to])] Tryz.func60 Tryz.ntmps60 ?_
    all_goals (refine go ?_; and_intros <;> (try exact trivial) <;> repeat (first | refine fun (Bk : Nat) => ?_ | intro h))
    repeat' ((first | (refine G.cvb hc ?_)) <;> (refine go ?_; and_intros <;> (try exact trivial) <;> repeat (first | refine fun (Bk : Nat) => ?_ | intro h)))
    all_goals
      (refine ret2 Tryz.func60 Tryz.results60 ?_; intro w' hw)
      exact retW_nil (fun v => .tuple #[v, .int .i64 3]) _ hw.below
  rw [if_neg h1]
  dsimp only
  have hsum := hk.sum
  have htt := fun w' (hb : Below w.heap.size w w') => total_holds a k c w' (hA.below hb) hk.wOk
  have hit : ∀ Bk Bt, IterG Tryz.prog w [.blk Bk 41 [.slice a k.length c] 1, .blk Bt 25 [.int .i64 fr, .int .i64 to] 2] 108 #[.pointer (some ⟨Bk, 0, none⟩), .pointer (some ⟨Bt, 0, none⟩)] (fun e : Int × Int => [.int .i64 e.1, .int .i64 e.2]) (tkE k fr to) := fun Bk Bt => ticks_iter w Bk Bt a k c fr to hA hk (by omega)
  have hT : arrF (wIn k fr to) (tkE k fr to).length (t0Of k fr) [] = arrL k fr to := by
    by_cases h : fr < to
    · rw [tkE_len h]; rfl
    · rw [tkE, if_neg h, List.length_nil, arrF, arrL, arrF_zero]
      intro s _ _
      rw [wIn_eq (by omega), show to = fr by omega]; omega
  have hget : ∀ (i : Nat) e, (tkE k fr to)[i]? = some e → e = (t0Of k fr + i, wIn k fr to (t0Of k fr + i)) ∧ t0Of k fr + i < to := fun i e he => by
    by_cases h : fr < to
    · have h2 := (List.getElem?_eq_some_iff.1 he).1
      rw [tkE_len h] at h2
      rw [tkE_get h h2] at he
      cases he
      exact ⟨rfl, by omega⟩
    · rw [tkE, if_neg h] at he; cases he
  have hlE : (tkE k fr to).length ≤ 1402560 := by
    by_cases h : fr < to
    · have : 0 ≤ t0Of k fr := by rw [t0Of]; omega
      rw [tkE_len h]; omega
    · rw [tkE, if_neg h]; exact Nat.zero_le _
  have ht0 : 0 ≤ t0Of k fr := by rw [t0Of]; omega
  have hwn := fun t => wIn_nn (fr := fr) (to := to) k t (fun w hw => (hk.nn w hw).1)
  generalize tkE k fr to = E at *
  generalize wIn k fr to = W at *
  generalize arrL k fr to = T at *
  generalize t0Of k fr = t0 at *
  generalize hq : sumL k = tot at *
  clear hq hk h0
  have hpt := fun t w' (_ : Below w.heap.size w w') => vPart_holds (W t) tot w' (by have := hwn t; omega) (by have := hwn t; omega) (by omega) (by omega) (by omega)
  refine enterA [(0, .agg #[.slice a k.length c]), (1, .agg #[.int .i64 fr, .int .i64 to])] Tryz.func60 Tryz.ntmps60 ?_
  all_goals (refine goR ?_; and_intros <;> (try exact trivial) <;> repeat (first | refine fun (Bk : Nat) => ?_ | intro h))
  repeat' ((first | (refine G.cvb hc ?_) | (apply G.cR (g := 84) (v := fun x : Nat × Nat => .func (.func 108) #[] #[.pointer (some ⟨x.1, 0, none⟩), .pointer (some ⟨x.2, 0, none⟩)]) (Mn := fun x => [.blk x.1 41 [.slice a k.length c] 1, .blk x.2 25 [.int .i64 fr, .int .i64 to] 2]); rfl; rfl; exact fun w' hw' => ticks_holds _ _ w' a k c fr to hw'; rintro ⟨Bk1, Bt1⟩) | (apply J.regQ; exact Tryz.mixed; decide +kernel) | (apply J.regL'; exact Tryz.mixed; decide +kernel)) <;> (refine goR ?_; and_intros <;> (try exact trivial) <;> repeat (first | refine fun (Bk : Nat) => ?_ | intro h)))
  apply J.nilOwn (E := 83) (size := 5)
  refine J.rangeG (e1 := fun e : Int × Int => .int .i64 e.1) (e2 := fun e => .int .i64 e.2) (es := E) (fun s : List Prt × (Option Addr × Nat × Nat) × Int => [.own 0 (.slice s.2.1.1 s.2.1.2.1 s.2.1.2.2) 83 5 s.2.1.2.1 (flat (wV tot) s.1), .blk _ 47 [.slice s.2.1.1 s.2.1.2.1 s.2.1.2.2] 1, .blk _ 3 [.int .i64 s.2.2] 1, .blk _ 41 [.slice a k.length c] 1]) (fun i s => s.1 = arrF W i t0 [] ∧ s.2.1.2.1 = s.1.length ∧ (0 < i → s.2.2 = W (t0 + i - 1))) (fun _ _ => False) ([], (none, 0, 0), 0) _ (hit Bk1 Bt1) rfl rfl rfl rfl (by (repeat (first | exact List.Perm.refl _ | (refine pickT (by (repeat (first | exact Pick.head | apply Pick.tail))) ?_)))) ⟨rfl, rfl, fun h => absurd h (Nat.lt_irrefl _)⟩ ?_ ?_ ?_
  · intro i ⟨L, ⟨au, n, cu⟩, lst⟩ e ⟨i1, i2, i3⟩ he L0 rr M' hrs hrp
    dsimp only at i1 i2 i3 ⊢
    obtain ⟨rfl, hti⟩ := hget i e he
    have hiE := (List.getElem?_eq_some_iff.1 he).1
    have hLl := arrF_len (W := W) t0 i
    rw [← i1] at hLl
    have hsu := arrF_succ (W := W) i t0 []
    rw [← i1] at hsu
    have hpt := hpt (t0 + i)
    have hwb := hwn (t0 + i)
    dsimp only
    have hnx : t0 + ((i + 1 : Nat) : Int) - 1 = t0 + i := by omega
    have hap : flat (wV tot) L ++ wV tot (t0 + i, t0 + i + 1, W (t0 + i)) = flat (wV tot) (L ++ [(t0 + i, t0 + i + 1, W (t0 + i))]) := flat1 _ _ _
    have hal := fun o p (h : L = o ++ [p]) => arr_last (W := W) (t0 := t0) (i := i) (o := o) (p := p) (i1.symm.trans h)
    clear he hget hit hT hwn hc i1
    by_cases hw0 : W (t0 + i) = 0
    · rw [addP, if_pos hw0] at hsu
      clear hal hap
      generalize hwt : W (t0 + i) = wt at *
      all_goals (refine goR ?_; and_intros <;> (try exact trivial) <;> repeat (first | refine fun (Bk : Nat) => ?_ | intro h))
      repeat' ((first | (refine J.beginR rfl (i := 0) rfl hrs ?_) | (apply J.regQ; exact Tryz.mixed; decide +kernel) | (apply J.regL'; exact Tryz.mixed; decide +kernel)) <;> (refine goR ?_; and_intros <;> (try exact trivial) <;> repeat (first | refine fun (Bk : Nat) => ?_ | intro h)))
      exact J.sel (leaveG hrs hrp (L, (au, n, cu), wt) ⟨hsu.symm, i2, fun _ => by rw [hnx]; exact hwt.symm⟩ rfl)
    · rcases nil_or_snoc L with rfl | ⟨o, p, rfl⟩
      · rw [addP_nil hw0] at hsu
        obtain rfl : n = 0 := i2
        clear hal
        generalize hwt : W (t0 + i) = wt at *
        all_goals (refine goR ?_; and_intros <;> (try exact trivial) <;> repeat (first | refine fun (Bk : Nat) => ?_ | intro h))
        repeat' ((first | (refine J.beginR rfl (i := 0) rfl hrs ?_) | (apply J.regA (.q 0 <| .q 1 <| .q 2 <| .q 3 <| .q 4 <| .q 5 <| .q 6 <| .q 7 <| .q 8 <| .e 9 <| .r 10 <| .r 11 <| .nil); exact Tryz.mixed; decide +kernel) | (apply G.cV (g := 66); rfl; rfl; exact fun w' hw' => htt w' hw'.below) | (apply G.cV (g := 78); rfl; rfl; exact fun w' hw' => hpt w' hw'.below) | (apply G.sliceL; rfl; rfl; rfl; rfl; rfl; rfl; rfl; rfl; intro Bs) | (apply G.apV; rfl; rfl; rfl; (repeat (first | exact RAt.head | apply RAt.tail)); exact SrcV.blk (by exact mm) rfl rfl; exact hap; omega; omega; intro a2 c2) | (apply J.regQ; exact Tryz.mixed; decide +kernel) | (apply J.regL'; exact Tryz.mixed; decide +kernel)) <;> (refine goR ?_; and_intros <;> (try exact trivial) <;> repeat (first | refine fun (Bk : Nat) => ?_ | intro h)))
        exact J.sel (leaveG hrs hrp ([(t0 + i, t0 + i + 1, wt)], (a2, 1, c2), wt) ⟨hsu.symm, rfl, fun _ => by rw [hnx]; exact hwt.symm⟩ rfl)
      · rw [addP_snoc o p hw0] at hsu
        obtain rfl : n = o.length + 1 := by rw [i2, List.length_append]; rfl
        obtain ⟨hal1, hal2, hal3, hal4⟩ := hal o p rfl
        have hg1 : (flat (wV tot) (o ++ [p]))[0 + o.length * 5 + 1]? = some (.int .i64 p.2.1) := flat_last_get (wV_len tot) o p 1
        rw [List.length_append] at hLl
        by_cases hm : p.2.1 = t0 + i ∧ p.2.2 = W (t0 + i)
        · rw [if_pos hm] at hsu
          have hls : lst = W (t0 + i) := by
            have h3 := hal1 hm.1
            rw [i3 h3.1, h3.2, hm.2]
          have r1 : setL (flat (wV tot) (o ++ [p])) (0 + o.length * 5 + 1) [.int .i64 (t0 + i + 1)] = flat (wV tot) (o ++ [(p.1, t0 + i + 1, p.2.2)]) := flat_last_set (wV_len tot) o p (p.1, t0 + i + 1, p.2.2) 1 _ rfl
          have l1 : 0 + o.length * 5 + 1 < (flat (wV tot) (o ++ [p])).length := by rw [flat_len (wV_len tot), List.length_append]; show _ < (o.length + 1) * 5; omega
          rw [← hm.2] at hsu
          clear hap
          generalize hwt : W (t0 + i) = wt at *
          have hm1 := hm.1
          refine J.ownOpen (by (repeat (first | exact RAt.head | apply RAt.tail))) (Nat.succ_pos _) fun g cap q1 q2 q3 => ?_
          cases q3
          all_goals (refine goR ?_; and_intros <;> (try exact trivial) <;> repeat (first | refine fun (Bk : Nat) => ?_ | intro h))
          repeat' ((first | (refine J.beginR rfl (i := 0) rfl hrs ?_) | (apply G.ld; rfl; (apply LdV.one; exact CellV.blk (by exact mm) hg1); rfl) | (apply G.s1; rfl; rfl; rfl; (repeat (first | exact RAt.head | apply RAt.tail)); exact ⟨rfl, rfl⟩; exact l1; exact r1) | (apply J.regQ; exact Tryz.mixed; decide +kernel) | (apply J.regL'; exact Tryz.mixed; decide +kernel)) <;> (refine goR ?_; and_intros <;> (try exact trivial) <;> repeat (first | refine fun (Bk : Nat) => ?_ | intro h)))
          refine J.blkCut (g := g) (f := wV tot) (l' := o ++ [(p.1, t0 + i + 1, p.2.2)]) (o.length + 1) (wV_len tot) (by (repeat (first | exact RAt.head | apply RAt.tail))) q1 q2 (by rw [List.length_append]; exact Nat.le_refl _) (List.take_of_length_le (by rw [List.length_append]; exact Nat.le_refl _)) ?_
          exact J.sel (leaveG hrs hrp (o ++ [(p.1, t0 + i + 1, p.2.2)], (some ⟨g, 0, none⟩, o.length + 1, cu), wt) ⟨hsu.symm, by rw [List.length_append]; rfl, fun _ => by rw [hnx]; exact hwt.symm⟩ rfl)
        · rw [if_neg hm] at hsu
          have hno : ¬ (p.2.1 = t0 + i ∧ lst = W (t0 + i)) := fun h => by
            have h3 := hal1 h.1
            exact hm ⟨h.1, by rw [← h3.2, ← i3 h3.1]; exact h.2⟩
          generalize hwt : W (t0 + i) = wt at *
          refine J.ownOpen (by (repeat (first | exact RAt.head | apply RAt.tail))) (Nat.succ_pos _) fun g cap q1 q2 q3 => ?_
          cases q3
          all_goals (refine goR ?_; and_intros <;> (try exact trivial) <;> repeat (first | refine fun (Bk : Nat) => ?_ | intro h))
          repeat' ((first | (refine J.beginR rfl (i := 0) rfl hrs ?_) | (apply G.ld; rfl; (apply LdV.one; exact CellV.blk (by exact mm) hg1); rfl) | (apply J.regQ; exact Tryz.mixed; decide +kernel) | (apply J.regL'; exact Tryz.mixed; decide +kernel)) <;> (refine goR ?_; and_intros <;> (try exact trivial) <;> repeat (first | refine fun (Bk : Nat) => ?_ | intro h)))
          all_goals
            refine J.blkCut (g := g) (f := wV tot) (l' := o ++ [p]) (o.length + 1) (wV_len tot) (by (repeat (first | exact RAt.head | apply RAt.tail))) q1 q2 (by rw [List.length_append]; exact Nat.le_refl _) (List.take_of_length_le (by rw [List.length_append]; exact Nat.le_refl _)) ?_
            all_goals (refine goR ?_; and_intros <;> (try exact trivial) <;> repeat (first | refine fun (Bk : Nat) => ?_ | intro h))
            repeat' ((first | (apply J.regA (.q 0 <| .q 1 <| .q 2 <| .q 3 <| .q 4 <| .q 5 <| .q 6 <| .q 7 <| .q 8 <| .e 9 <| .r 10 <| .r 11 <| .nil); exact Tryz.mixed; decide +kernel) | (apply G.cV (g := 66); rfl; rfl; exact fun w' hw' => htt w' hw'.below) | (apply G.cV (g := 78); rfl; rfl; exact fun w' hw' => hpt w' hw'.below) | (apply G.sliceL; rfl; rfl; rfl; rfl; rfl; rfl; rfl; rfl; intro Bs) | (apply G.apV; rfl; rfl; rfl; (repeat (first | exact RAt.head | apply RAt.tail)); exact SrcV.blk (by exact mm) rfl rfl; exact hap; omega; omega; intro a2 c2) | (apply J.regQ; exact Tryz.mixed; decide +kernel) | (apply J.regL'; exact Tryz.mixed; decide +kernel)) <;> (refine goR ?_; and_intros <;> (try exact trivial) <;> repeat (first | refine fun (Bk : Nat) => ?_ | intro h)))
            exact J.sel (leaveG hrs hrp (o ++ [p] ++ [(t0 + i, t0 + i + 1, wt)], (a2, o.length + 1 + 1, c2), wt) ⟨hsu.symm, by rw [List.length_append, List.length_append]; rfl, fun _ => by rw [hnx]; exact hwt.symm⟩ rfl)
  · intro Bd ⟨L, ⟨au, n, cu⟩, lst⟩ ⟨i1, i2, i3⟩
    dsimp only at i1 i2 i3 ⊢
    rw [hT] at i1
    subst i1
    all_goals (refine go ?_; and_intros <;> (try exact trivial) <;> repeat (first | refine fun (Bk : Nat) => ?_ | intro h))
    refine leaveM (v := .tuple #[.slice au n cu, .int .i64 0]) (ds := [Bd]) Tryz.func60 rfl rfl rfl rfl (RunsTo.two Tryz.results60 (by (first | (apply ResV.tmp; rfl) | (apply ResV.cell; rfl; (first | (apply LdV.one; (first | exact CellV.row0 (by assumption) rfl | exact CellV.rowS (by assumption) rfl | exact CellV.rowSS (by assumption) rfl | (apply CellV.blk; exact mm; rfl))) | (apply LdV.aggBlk; exact mm; rfl) | (apply LdV.part; exact mm; rfl; rfl) | (apply LdV.aggRow; assumption; rfl) | (apply LdV.partRow; assumption; rfl; rfl))))) (by (first | (apply ResV.tmp; rfl) | (apply ResV.cell; rfl; (first | (apply LdV.one; (first | exact CellV.row0 (by assumption) rfl | exact CellV.rowS (by assumption) rfl | exact CellV.rowSS (by assumption) rfl | (apply CellV.blk; exact mm; rfl))) | (apply LdV.aggBlk; exact mm; rfl) | (apply LdV.part; exact mm; rfl; rfl) | (apply LdV.aggRow; assumption; rfl) | (apply LdV.partRow; assumption; rfl; rfl)))))) (List.Perm.refl _) fun w' hw' => ?_
    exact satW hw' (i := 2) rfl i2.symm fun v => .tuple #[v, .int .i64 0]
  · intro Bd _ _ h
    exact h.elim
end Go.Proofs.YtceaamdomkjmlaaGreatDoor
/-
  Contracts of rivers: Parts of both; equal parts.
-/
namespace Go.Sl
open Go.RowKit
variable {C : Ctx} {st : List (Nat × Value)} {M : List Row} {k : List Item} {q q' : Md} {all rest : List Oper} {d : Nat} {ty : TypeId} {pos : String} {after : Array Edge} {gd : Option (Nat × Bool)}
/-- A struct is not unlike itself. -/
theorem G.neE {T : TypeId} {x y : Operand} {yt : TypeId} {cs : Array Value} (hx : evS st x = some (.agg cs)) (hy : evS st y = some (.agg cs)) (hE : ∀ w, (Op.equal T (.agg cs) (.agg cs)).run C.P w = .ok true w) (hG : C.P.eqGuardType C.P.depth T = false) (hs : sideB all st gd d C.N q.calm = some q') (h : G q' C all ((d, .bool false) :: st) M rest k) :
    G q C all st M ({ dst := some d, op := .binOp .neq T x y yt, type := ty, pos, after, guard := gd } :: rest) k := by
  obtain ⟨g1, g2, g3⟩ := sideB_ok hs
  refine G.op (OpV.of fun ac w hf _ dst pos after guard => ?_) g1 rfl g2 g3 h
  have hg : (eqGuard .neq T x y (.agg cs) (.agg cs)).run C.P w = .ok () w := run_eqGuard_agg w .neq T x y _ _ hG
  have e : (binOp .neq T (.agg cs) (.agg cs)).run C.P w = .ok (.bool false) w := by
    show ((Op.equal T _ _).bind fun b => Sem.pure (Value.bool (!b))).run C.P w = _
    rw [Sem.run_bind', hE]; rfl
  simp only [execOp, hf.eval hx, hf.eval hy, Sem.run_bind, hg, e, Result.andThen_ok]; rfl
end Go.Sl
namespace Go.Proofs.YtceaamdomkjmlaaGreatDoor
open Go.RowKit Go.Sl Go.Num
theorem eqWt (s t : Int) (a : Bool) (x u : ByteArray) (w : World) : (Op.equal 83 (.agg #[.int .i64 s, .int .i64 t, .bool a, .string x, .string u]) (.agg #[.int .i64 s, .int .i64 t, .bool a, .string x, .string u])).run Tryz.prog w = .ok true w := by simp [go_sem, Op.equal, Op.maxDepth]
theorem eqgWt : Tryz.prog.eqGuardType Tryz.prog.depth 83 = false := by kernel_rfl
theorem sameParts_holds (a b : Option Addr) (tot : Int) (l : List Prt) (c d : Nat) (w : World) (hA : SlAt w a 5 (l.map (wV tot))) (hB : SlAt w b 5 (l.map (wV tot))) (hl : l.length ≤ 1000000000) :
    Calls Tryz.prog 29 #[.slice a l.length c, .slice b l.length d] w fun e w' => e = .returned (.bool true) ∧ Below w.heap.size w w' := by
  refine enterA [(0, .slice a l.length c), (1, .slice b l.length d)] Tryz.func29 Tryz.ntmps29 ?_
  all_goals (refine go ?_; and_intros <;> (try exact trivial) <;> repeat (first | refine fun (Bk : Nat) => ?_ | intro h))
  refine J.loop (c := _) (0 : Nat) (fun s => l.length - s) (fun s => [(0, .slice a l.length c), (1, .slice b l.length d), (5, .int .i64 s)]) (fun s => []) (fun s => s ≤ l.length) ?_ sbT sbL ?_
  · exact Nat.zero_le _
  intro i h1 ih
  by_cases hi : i < l.length
  · obtain ⟨ba, oa, rfl, hra⟩ := SlAt.all hA (by omega)
    obtain ⟨bb, ob, rfl, hrb⟩ := SlAt.all hB (by omega)
    have hr1 := hra i hi
    have hr2 := hrb i hi
    have ih := ih (i + 1) hi (by omega)
    clear hra hrb
    generalize l[i] = p at *
    obtain ⟨f, t, x⟩ := p
    dsimp only [wV] at hr1 hr2
    generalize rQ ((x : Rat) / (tot : Rat)) = Q at *
    obtain ⟨ng, nu, de⟩ := Q
    dsimp only [qV, List.cons_append, List.nil_append] at hr1 hr2
    all_goals (refine go ?_; and_intros <;> (try exact trivial) <;> repeat (first | refine fun (Bk : Nat) => ?_ | intro h))
    repeat' ((first | (apply G.neE; rfl; rfl; exact fun w => eqWt _ _ _ _ _ w; exact eqgWt; rfl)) <;> (refine go ?_; and_intros <;> (try exact trivial) <;> repeat (first | refine fun (Bk : Nat) => ?_ | intro h)))
    exact J.fin ih
  · skip
    all_goals (refine go ?_; and_intros <;> (try exact trivial) <;> repeat (first | refine fun (Bk : Nat) => ?_ | intro h))
    all_goals refine ret1b Tryz.func29 Tryz.results29 ?_
    all_goals rfl
/-- The parts of what passes a gauge that arrive at another one, or the error. -/
def partsE (l : List Rch) (fr to f t : Int) : List Prt × Int := if (alongE l fr to).2 ≠ 0 then ([], (alongE l fr to).2) else arrE (alongE l fr to).1 f t
theorem vParts_holds (a : Option Addr) (l : List Rch) (c : Nat) (fr to f t : Int) (w : World) (hA : SlAt w a 2 (l.map rcV)) (hK : KerAt w l) :
    Calls Tryz.prog 21 #[.slice a l.length c, .int .i64 fr, .int .i64 to, .agg #[.int .i64 f, .int .i64 t]] w (RetW (fun v => .tuple #[v, .int .i64 (partsE l fr to f t).2]) (sumL (alongE l fr to).1) w (partsE l fr to f t).1) := by
  have ha := fun w' (hb : Below w.heap.size w w') => vAlong_holds a l c fr to w' (hA.below hb) (hK.below hb)
  rw [partsE]
  generalize (alongE l fr to).1 = K at *
  generalize (alongE l fr to).2 = E at *
  by_cases h0 : E = 0
  · subst h0
    rw [if_neg (fun h => h rfl)]
    have hr := fun w' ka kc hk => vArrive_holds ka K kc f t w' hk
    generalize sumL K = tot at *
    generalize (arrE K f t).1 = L at *
    generalize (arrE K f t).2 = E2 at *
    refine enterA [(0, .slice a l.length c), (1, .int .i64 fr), (2, .int .i64 to), (3, .agg #[.int .i64 f, .int .i64 t])] Tryz.func21 Tryz.ntmps21 ?_
    all_goals (refine go ?_; and_intros <;> (try exact trivial) <;> repeat (first | refine fun (Bk : Nat) => ?_ | intro h))
    repeat' ((first | (apply G.cN (g := 19) (fun a' c' => .tuple #[.agg #[.slice a' K.length c'], .int .i64 0]) (K.map isV); rfl; rfl; exact fun w' hw' => ha w' hw'.below; intro a1 c1 hp1 hq1) | (apply G.cN (g := 60) (fun a' c' => .tuple #[.slice a' L.length c', .int .i64 E2]) (L.map (wV tot)); rfl; rfl; exact fun w' hw' => hr w' a1 c1 (hw'.sl (by exact mm)); intro a2 c2 hp2 hq2)) <;> (refine go ?_; and_intros <;> (try exact trivial) <;> repeat (first | refine fun (Bk : Nat) => ?_ | intro h)))
    (refine ret2 Tryz.func21 Tryz.results21 ?_; intro w' hw)
    exact ⟨a2, c2, rfl, hw.sl (by exact mm), hq2, hw.below⟩
  · rw [if_pos h0]
    dsimp only
    refine enterA [(0, .slice a l.length c), (1, .int .i64 fr), (2, .int .i64 to), (3, .agg #[.int .i64 f, .int .i64 t])] Tryz.func21 Tryz.ntmps21 ?_
    all_goals (refine go ?_; and_intros <;> (try exact trivial) <;> repeat (first | refine fun (Bk : Nat) => ?_ | intro h))
    repeat' ((first | (apply G.cN (g := 19) (fun a' c' => .tuple #[.agg #[.slice a' K.length c'], .int .i64 E]) (K.map isV); rfl; rfl; exact fun w' hw' => ha w' hw'.below; intro a1 c1 hp1 hq1)) <;> (refine go ?_; and_intros <;> (try exact trivial) <;> repeat (first | refine fun (Bk : Nat) => ?_ | intro h)))
    (refine ret2 Tryz.func21 Tryz.results21 ?_; intro w' hw)
    exact retW_nil (fun v => .tuple #[v, .int .i64 E]) _ hw.below
end Go.Proofs.YtceaamdomkjmlaaGreatDoor
/-
  Contracts of rivers: Inflow of both; equal inflows.
-/
namespace Go.Proofs.YtceaamdomkjmlaaGreatDoor
open Go.RowKit Go.Sl Go.Num
/-- What flows in from a gauge, in memory. -/
structure Ifl where
  g : Int
  L : List Prt
  tot : Int
  adr : Option Addr
  cap : Nat
def ifV (r : Ifl) : List Value := [.int .i64 r.g, .slice r.adr r.L.length r.cap]
theorem ifV_len (r : Ifl) : (ifV r).length = 2 := rfl
def ifL (r : Ifl) : List (List Value) := r.L.map (wV r.tot)
def coreI (r : Ifl) : Int × List Prt × Int := (r.g, r.L, r.tot)
/-- The inflows of some gauges, or the first error. -/
def infF (l : List Rch) (g f t : Int) : List (Int × List Prt × Int) → List Int → List (Int × List Prt × Int) × Int
  | out, [] => (out, 0)
  | out, u :: r => if (partsE l u g f t).2 ≠ 0 then ([], (partsE l u g f t).2) else infF l g f t (out ++ [(u, (partsE l u g f t).1, sumL (alongE l u g).1)]) r
def inflowE (l : List Rch) (g f t : Int) : List (Int × List Prt × Int) × Int := if errG l g ≠ 0 then ([], errG l g) else infF l g f t [] (aboveL l g)
abbrev RetF (G : List (Int × List Prt × Int)) (F : Value → Value) := RetN ifV 2 Ifl.adr 5 ifL (fun R => R.map coreI = G) (fun R a c => F (.slice a R.length c))
theorem retF_nil {w w' : World} (F : Value → Value) (hb : Below w.heap.size w w') : RetF [] F w (.returned (F (.slice none 0 0))) w' :=
  ⟨[], none, 0, rfl, rfl, ⟨SlAt.nil, fun r hr => by cases hr⟩, (fun p hp => by cases hp), (fun r hr => by cases hr), hb⟩
theorem retF_sat {w0 w : World} {M : List Row} {i j E base N : Nat} {a : Option Addr} {n c : Nat} {R : List Ifl} (hw : Sat w0 M w) (hm : M[i]? = some (.own base (.slice a n c) E 2 n (flat ifV R))) (hf : M[j]? = some (famRow N Ifl.adr 5 ifL R)) (hn : R.length = n) (hq : ∀ r ∈ R, ∀ p, r.adr = some p → w0.heap.size ≤ p.block) (F : Value → Value) : RetF (R.map coreI) F w0 (.returned (F (.slice a n c))) w := by
  have hmem := List.mem_of_getElem? hm
  exact ⟨R, a, c, rfl, by show _ = Ending.returned (F (.slice a R.length c)); rw [hn], ⟨SlAt.ofOwn ifV_len (hw.hold _ hmem) hn, hw.fam (List.mem_of_getElem? hf)⟩, fun p hp => ((hw.old _ hmem).2 p.block (by subst hp; rfl)).1, hq, hw.below⟩
theorem vInflow_holds (a : Option Addr) (l : List Rch) (c : Nat) (g f t : Int) (w : World) (hA : SlAt w a 2 (l.map rcV)) (hK : KerAt w l) :
    Calls Tryz.prog 23 #[.slice a l.length c, .int .i64 g, .agg #[.int .i64 f, .int .i64 t]] w (RetF (inflowE l g f t).1 (fun v => .tuple #[v, .int .i64 (inflowE l g f t).2]) w) := by
  have ha := fun w' (hb : Below w.heap.size w w') => vAbove_holds a l c g w' (hA.below hb) (hK.below hb)
  rw [inflowE]
  rw [aboveE] at ha
  by_cases h0 : errG l g = 0
  case neg =>
    rw [if_pos h0] at ha ⊢
    dsimp only at ha ⊢
    generalize errG l g = E at *
    refine enterA [(0, .slice a l.length c), (1, .int .i64 g), (2, .agg #[.int .i64 f, .int .i64 t])] Tryz.func23 Tryz.ntmps23 ?_
    all_goals (refine go ?_; and_intros <;> (try exact trivial) <;> repeat (first | refine fun (Bk : Nat) => ?_ | intro h))
    repeat' ((first | (apply G.cN (g := 13) (fun a' c' => .tuple #[.slice a' 0 c', .int .i64 E]) (([] : List Int).map isV); rfl; rfl; exact fun w' hw' => ha w' hw'.below; intro a1 c1 hp1 hq1)) <;> (refine go ?_; and_intros <;> (try exact trivial) <;> repeat (first | refine fun (Bk : Nat) => ?_ | intro h)))
    (refine ret2 Tryz.func23 Tryz.results23 ?_; intro w' hw)
    exact retF_nil (fun v => .tuple #[v, .int .i64 E]) hw.below
  rw [if_neg (fun h => h h0)] at ha ⊢
  have hul : (aboveL l g).length ≤ 40 := by
    have := abU_len l l.length g
    have := (riv_of (errG_ok h0).1).len
    rw [show aboveL l g = abU l l.length g from rfl]; omega
  dsimp only at ha
  generalize aboveL l g = U at *
  generalize hT : infF l g f t [] U = T
  obtain ⟨T1, T2⟩ := T
  dsimp only
  refine enterA [(0, .slice a l.length c), (1, .int .i64 g), (2, .agg #[.int .i64 f, .int .i64 t])] Tryz.func23 Tryz.ntmps23 ?_
  all_goals (refine go ?_; and_intros <;> (try exact trivial) <;> repeat (first | refine fun (Bk : Nat) => ?_ | intro h))
  repeat' ((first | (apply G.cN (g := 13) (fun a' c' => .tuple #[.slice a' U.length c', .int .i64 0]) (U.map isV); rfl; rfl; exact fun w' hw' => ha w' hw'.below; intro a1 c1 hp1 hq1)) <;> (refine go ?_; and_intros <;> (try exact trivial) <;> repeat (first | refine fun (Bk : Nat) => ?_ | intro h)))
  apply J.nilOwn (E := 99) (size := 2)
  apply J.fam0 Ifl.adr 5 ifL
  refine J.loop (c := _) ((0, [], (none, 0, 0)) : Nat × List Ifl × (Option Addr × Nat × Nat)) (fun s => U.length - s.1) (fun s => [(0, .slice a l.length c), (1, .int .i64 g), (5, .pointer (some ⟨_, 0, none⟩)), (10, .slice s.2.2.1 s.2.2.2.1 s.2.2.2.2), (24, .slice a1 U.length c1), (25, .int .i64 U.length), (26, .int .i64 s.1)]) (fun s => [famRow w.heap.size Ifl.adr 5 ifL s.2.1, .own 0 (.slice s.2.2.1 s.2.2.2.1 s.2.2.2.2) 99 2 s.2.2.2.1 (flat ifV s.2.1), slRow w.heap.size a1 1 (U.map isV), .blk _ 25 [.int .i64 f, .int .i64 t] 2]) (fun s => s.1 ≤ U.length ∧ s.2.2.2.1 = s.2.1.length ∧ infF l g f t (s.2.1.map coreI) (U.drop s.1) = (T1, T2) ∧ s.2.1.length = s.1 ∧ ∀ r ∈ s.2.1, ∀ p, r.adr = some p → w.heap.size ≤ p.block) ?_ sbT sbL ?_
  · exact ⟨Nat.zero_le _, rfl, hT, rfl, fun r hr => by cases hr⟩
  clear hT ha
  intro ⟨i, R, ⟨au, n, cu⟩⟩ ⟨i1, i2, i3, i4, i5⟩ ih
  dsimp only at i1 i2 i3 i4 i5 ⊢
  by_cases hi : i < U.length
  · obtain ⟨b1, o1, rfl⟩ := hp1 (by rw [List.length_map]; omega)
    have hgt := fun {C M} (hm : slRow w.heap.size (some ⟨b1, o1, none⟩) 1 (U.map isV) ∈ M) => CellV.sl0 (C := C) (M := M) (f := isV) (l := U) hm hi rfl
    rw [List.drop_eq_getElem_cons hi, infF] at i3
    have hp := fun w' (hb : Below w.heap.size w w') => vParts_holds a l c U[i] g f t w' (hA.below hb) (hK.below hb)
    have hap : ∀ (P : List Prt) (tot : Int) (a2 : Option Addr) (c2 : Nat), flat ifV R ++ ifV ⟨U[i], P, tot, a2, c2⟩ = flat ifV (R ++ [⟨U[i], P, tot, a2, c2⟩]) := fun P tot a2 c2 => flat1 ifV R ⟨U[i], P, tot, a2, c2⟩
    have ih := fun (P : List Prt) (tot : Int) (a2 : Option Addr) (c2 : Nat) (h : infF l g f t (R.map coreI ++ [(U[i], P, tot)]) (U.drop (i + 1)) = (T1, T2)) (hq : ∀ p, a2 = some p → w.heap.size ≤ p.block) (x3 : Option Addr × Nat × Nat) (hx : x3.2.1 = n + 1) => ih (i + 1, R ++ [⟨U[i], P, tot, a2, c2⟩], x3) ⟨hi, by dsimp only; rw [hx, List.length_append, i2]; rfl, by dsimp only; rw [List.map_append]; exact h, by dsimp only; rw [List.length_append, i4]; rfl, fun r hr p hp => by
      rcases List.mem_append.1 hr with hr | hr
      · exact i5 r hr p hp
      · rw [List.mem_singleton.1 hr] at hp; exact hq p hp⟩ (by dsimp only; omega)
    generalize U[i] = u at *
    generalize sumL (alongE l u g).1 = tot at *
    have hap := hap (partsE l u g f t).1 tot
    have ih := ih (partsE l u g f t).1 tot
    generalize (partsE l u g f t).1 = P at *
    generalize (partsE l u g f t).2 = E at *
    by_cases he : E = 0
    · rw [if_neg (fun h => h he)] at i3
      have ih := fun a2 c2 => ih a2 c2 i3
      dsimp only [ifV] at hap
      all_goals (refine go ?_; and_intros <;> (try exact trivial) <;> repeat (first | refine fun (Bk : Nat) => ?_ | intro h))
      repeat' ((first | (apply G.ld; rfl; (apply LdV.one; exact hgt (by exact mm)); rfl) | (apply G.cN (g := 21) (fun a' c' => .tuple #[.slice a' P.length c', .int .i64 E]) (P.map (wV tot)); rfl; rfl; exact fun w' hw' => hp w' hw'.below; intro a2 c2 hp2 hq2) | (apply G.sliceL; rfl; rfl; rfl; rfl; rfl; rfl; rfl; rfl; intro Bs) | (apply G.apV; rfl; rfl; rfl; (repeat (first | exact RAt.head | apply RAt.tail)); exact SrcV.blk (by exact mm) rfl rfl; exact hap _ _; omega; omega; intro a3 c3)) <;> (refine go ?_; and_intros <;> (try exact trivial) <;> repeat (first | refine fun (Bk : Nat) => ?_ | intro h)))
      refine J.famAdd (r := (⟨u, P, tot, a2, c2⟩ : Ifl)) (o := R) mm mm ?_
      exact J.finS (ih a2 c2 hq2 (a3, n + 1, c3) rfl)
    · rw [if_pos he] at i3
      have e1 : [] = T1 := (Prod.mk.inj i3).1
      have e2 : E = T2 := (Prod.mk.inj i3).2
      subst e1 e2
      clear ih i3
      all_goals (refine go ?_; and_intros <;> (try exact trivial) <;> repeat (first | refine fun (Bk : Nat) => ?_ | intro h))
      repeat' ((first | (apply G.ld; rfl; (apply LdV.one; exact hgt (by exact mm)); rfl) | (apply G.cN (g := 21) (fun a' c' => .tuple #[.slice a' P.length c', .int .i64 E]) (P.map (wV tot)); rfl; rfl; exact fun w' hw' => hp w' hw'.below; intro a2 c2 hp2 hq2)) <;> (refine go ?_; and_intros <;> (try exact trivial) <;> repeat (first | refine fun (Bk : Nat) => ?_ | intro h)))
      (refine ret2 Tryz.func23 Tryz.results23 ?_; intro w' hw)
      exact retF_nil (fun v => .tuple #[v, .int .i64 E]) hw.below
  · rw [show U.drop i = [] from List.drop_eq_nil_of_le (by omega), infF] at i3
    cases i3
    clear ih
    all_goals (refine go ?_; and_intros <;> (try exact trivial) <;> repeat (first | refine fun (Bk : Nat) => ?_ | intro h))
    (refine ret2 Tryz.func23 Tryz.results23 ?_; intro w' hw)
    exact retF_sat hw (i := 1) (j := 0) rfl rfl i2.symm i5 fun v => .tuple #[v, .int .i64 0]
theorem sameFlows_holds (a b : Option Addr) (R S : List Ifl) (c d : Nat) (w : World) (hA : NstAt ifV 2 Ifl.adr 5 ifL w a R) (hB : NstAt ifV 2 Ifl.adr 5 ifL w b S) (hs : R.map coreI = S.map coreI) (hl : R.length ≤ 1000000 ∧ ∀ r ∈ R, r.L.length ≤ 1000000000) :
    Calls Tryz.prog 30 #[.slice a R.length c, .slice b S.length d] w fun e w' => e = .returned (.bool true) ∧ Below w.heap.size w w' := by
  have hlen : S.length = R.length := by
    have := congrArg List.length hs
    simpa using this.symm
  refine enterA [(0, .slice a R.length c), (1, .slice b S.length d)] Tryz.func30 Tryz.ntmps30 ?_
  all_goals (refine go ?_; and_intros <;> (try exact trivial) <;> repeat (first | refine fun (Bk : Nat) => ?_ | intro h))
  refine J.loop (c := _) (0 : Nat) (fun s => R.length - s) (fun s => [(0, .slice a R.length c), (1, .slice b S.length d), (5, .int .i64 s)]) (fun s => []) (fun s => s ≤ R.length) ?_ sbT sbL ?_
  · exact Nat.zero_le _
  intro i h1 ih
  by_cases hi : i < R.length
  · have hi2 : i < S.length := by omega
    obtain ⟨ba, oa, rfl, hra⟩ := SlAt.all hA.out (by omega)
    obtain ⟨bb, ob, rfl, hrb⟩ := SlAt.all hB.out (by omega)
    have hr1 := hra i hi
    have hr2 := hrb i hi2
    have ih := ih (i + 1) hi (by omega)
    have hc : coreI R[i] = coreI S[i] := by
      have := congrArg (·[i]?) hs
      simpa [hi, hi2] using this
    have k1 := hA.inn _ (List.getElem_mem hi)
    have k2 := hB.inn _ (List.getElem_mem hi2)
    have k3 := hl.2 _ (List.getElem_mem hi)
    clear hra hrb
    generalize R[i] = r at *
    generalize S[i] = s at *
    obtain ⟨g1, L1, t1, a1, c1⟩ := r
    obtain ⟨g2, L2, t2, a2, c2⟩ := s
    dsimp only [coreI] at hc
    obtain ⟨e1, hc2⟩ := Prod.mk.inj hc
    obtain ⟨e2, e3⟩ := Prod.mk.inj hc2
    subst e1 e2 e3
    clear hc hc2
    dsimp only [ifV, ifL] at hr1 hr2 k1 k2 k3
    have hsp := fun w' (hb : Below w.heap.size w w') => sameParts_holds a1 a2 t1 L1 c1 c2 w' (k1.below hb) (k2.below hb) k3
    all_goals (refine go ?_; and_intros <;> (try exact trivial) <;> repeat (first | refine fun (Bk : Nat) => ?_ | intro h))
    repeat' ((first | (apply G.cV (g := 29); rfl; rfl; exact fun w' hw' => hsp w' hw'.below)) <;> (refine go ?_; and_intros <;> (try exact trivial) <;> repeat (first | refine fun (Bk : Nat) => ?_ | intro h)))
    exact J.fin ih
  · skip
    all_goals (refine go ?_; and_intros <;> (try exact trivial) <;> repeat (first | refine fun (Bk : Nat) => ?_ | intro h))
    all_goals refine ret1b Tryz.func30 Tryz.results30 ?_
    all_goals rfl
end Go.Proofs.YtceaamdomkjmlaaGreatDoor
/-
  Contracts: equality and search in lists of numbers; what the law's examples are made of.
-/
namespace Go.Proofs.YtceaamdomkjmlaaGreatDoor
open Go.RowKit Go.Sl Go.Num
theorem equalI_holds (a b : Option Addr) (l m : List Int) (c d : Nat) (w : World) (hA : SlAt w a 1 (l.map isV)) (hB : SlAt w b 1 (m.map isV)) (hn : l.length ≤ 1000000000) :
    Calls Tryz.prog 35 #[.slice a l.length c, .slice b m.length d] w fun e w' => e = .returned (.bool (decide (l = m))) ∧ Below w.heap.size w w' := by
  refine enterA [(0, .slice a l.length c), (1, .slice b m.length d)] Tryz.func35 Tryz.ntmps35 ?_
  by_cases hl : l.length = m.length
  case neg =>
    rw [decide_eq_false (fun e => hl (by rw [e]))]
    all_goals (refine go ?_; and_intros <;> (try exact trivial) <;> repeat (first | refine fun (Bk : Nat) => ?_ | intro h))
    all_goals refine ret1b Tryz.func35 Tryz.results35 ?_
    all_goals rfl
  all_goals (refine go ?_; and_intros <;> (try exact trivial) <;> repeat (first | refine fun (Bk : Nat) => ?_ | intro h))
  refine J.loop (c := _) (0 : Nat) (fun s => l.length - s) (fun s => [(0, .slice a l.length c), (1, .slice b m.length d), (12, .int .i64 l.length), (13, .int .i64 s)]) (fun s => []) (fun s => s ≤ l.length ∧ ∀ i (h : i < l.length) (h2 : i < m.length), i < s → l[i] = m[i]) ?_ sbT sbL ?_
  · exact ⟨Nat.zero_le _, fun i _ _ h => absurd h (Nat.not_lt_zero _)⟩
  intro i ⟨h1, h2⟩ ih
  by_cases hi : i < l.length
  · have hj : i < m.length := by omega
    obtain ⟨ba, oa, rfl, hra⟩ := SlAt.all hA (by omega)
    obtain ⟨bb, ob, rfl, hrb⟩ := SlAt.all hB (by omega)
    have hri := hra i hi
    have hrj := hrb i hj
    by_cases he : l[i] = m[i]
    · have ih := ih (i + 1) ⟨hi, fun j q1 q2 q3 => by
        rcases Nat.lt_or_ge j i with h | h
        · exact h2 j q1 q2 h
        · obtain rfl : j = i := by omega
          exact he⟩ (by omega)
      clear hra hrb h2
      generalize l[i] = y at *
      generalize m[i] = z at *
      dsimp only [isV] at hri hrj
      all_goals (refine go ?_; and_intros <;> (try exact trivial) <;> repeat (first | refine fun (Bk : Nat) => ?_ | intro h))
      exact J.fin ih
    · rw [decide_eq_false (fun e => he (by subst e; rfl))]
      clear hra hrb h2 ih
      generalize l[i] = y at *
      generalize m[i] = z at *
      dsimp only [isV] at hri hrj
      all_goals (refine go ?_; and_intros <;> (try exact trivial) <;> repeat (first | refine fun (Bk : Nat) => ?_ | intro h))
      all_goals refine ret1b Tryz.func35 Tryz.results35 ?_
      all_goals rfl
  · obtain rfl : i = l.length := by omega
    rw [decide_eq_true (eq_all hl h2)]
    clear ih
    all_goals (refine go ?_; and_intros <;> (try exact trivial) <;> repeat (first | refine fun (Bk : Nat) => ?_ | intro h))
    all_goals refine ret1b Tryz.func35 Tryz.results35 ?_
    all_goals rfl
/-- An interval that is allowed, of more than 300 ticks. -/
def longT (f t : Int) : Prop := 0 ≤ f ∧ f ≤ t ∧ t ≤ 1402560 ∧ 300 < t - f
instance (f t : Int) : Decidable (longT f t) := by unfold longT; exact inferInstance
theorem long_holds (f t : Int) (w : World) : Calls Tryz.prog 9 #[.agg #[.int .i64 f, .int .i64 t]] w fun e w' => e = .returned (.bool (decide (longT f t))) ∧ Below w.heap.size w w' := by
  refine enterA [(0, .agg #[.int .i64 f, .int .i64 t])] Tryz.func9 Tryz.ntmps9 ?_
  by_cases h : longT f t
  · rw [decide_eq_true h]
    obtain ⟨h1, h2, h3, h4⟩ := h
    all_goals (refine go ?_; and_intros <;> (try exact trivial) <;> repeat (first | refine fun (Bk : Nat) => ?_ | intro h))
    all_goals refine ret1b Tryz.func9 Tryz.results9 ?_
    all_goals rfl
  · rw [decide_eq_false h]
    unfold longT at h
    by_cases h1 : 0 ≤ f ∧ f ≤ t ∧ t ≤ 1402560
    · obtain ⟨h1, h2, h3⟩ := h1
      have h4 : ¬ 300 < t - f := fun h4 => h ⟨h1, h2, h3, h4⟩
      clear h
      all_goals (refine go ?_; and_intros <;> (try exact trivial) <;> repeat (first | refine fun (Bk : Nat) => ?_ | intro h))
      all_goals refine ret1b Tryz.func9 Tryz.results9 ?_
      all_goals rfl
    · clear h
      all_goals (refine go ?_; and_intros <;> (try exact trivial) <;> repeat (first | refine fun (Bk : Nat) => ?_ | intro h))
      all_goals refine ret1b Tryz.func9 Tryz.results9 ?_
      all_goals rfl
theorem weights_holds (v : Value) (w : World) (hv : ∃ a n c, v = .slice a n c) : Calls Tryz.prog 46 #[v] w fun e w' => e = .returned (.agg #[v]) ∧ Below w.heap.size w w' := by
  obtain ⟨a, n, c, rfl⟩ := hv
  refine enterA [(0, .slice a n c)] Tryz.func46 Tryz.ntmps46 ?_
  all_goals (refine go ?_; and_intros <;> (try exact trivial) <;> repeat (first | refine fun (Bk : Nat) => ?_ | intro h))
  all_goals refine ret1b Tryz.func46 Tryz.results46 ?_
  all_goals rfl
theorem part_holds (f t den : Int) (w : World) (h1 : 0 < den) (h2 : den ≤ 999999999999999) : Calls Tryz.prog 48 #[.int .i64 f, .int .i64 t, .int .i64 den] w fun e w' => e = .returned (.agg (wV den (f, t, 1)).toArray) ∧ Below w.heap.size w w' := by
  have hm := fun w' (_ : Below w.heap.size w w') => make_holds 1 den w' (by decide) (by decide) (by omega) h2 (by omega)
  unfold wV
  dsimp only
  generalize rQ (((1 : Int) : Rat) / (den : Rat)) = Q at *
  refine enterA [(0, .int .i64 f), (1, .int .i64 t), (2, .int .i64 den)] Tryz.func48 Tryz.ntmps48 ?_
  all_goals (refine go ?_; and_intros <;> (try exact trivial) <;> repeat (first | refine fun (Bk : Nat) => ?_ | intro h))
  repeat' ((first | (refine G.cvb hm ?_)) <;> (refine go ?_; and_intros <;> (try exact trivial) <;> repeat (first | refine fun (Bk : Nat) => ?_ | intro h)))
  all_goals refine ret1b Tryz.func48 Tryz.results48 ?_
  all_goals rfl
/-- A list without an error that is the expected one. -/
theorem is_holds (a b : Option Addr) (l : List Int) (c d : Nat) (w : World) (hA : SlAt w a 1 (l.map isV)) (hB : SlAt w b 1 (l.map isV)) (hn : l.length ≤ 1000000000) :
    Calls Tryz.prog 47 #[.slice a l.length c, .int .i64 0, .slice b l.length d] w fun e w' => e = .returned (.bool true) ∧ Below w.heap.size w w' := by
  have he := fun w' (hb : Below w.heap.size w w') => equalI_holds a b l l c d w' (hA.below hb) (hB.below hb) hn
  rw [decide_eq_true rfl] at he
  refine enterA [(0, .slice a l.length c), (1, .int .i64 0), (2, .slice b l.length d)] Tryz.func47 Tryz.ntmps47 ?_
  all_goals (refine go ?_; and_intros <;> (try exact trivial) <;> repeat (first | refine fun (Bk : Nat) => ?_ | intro h))
  repeat' ((first | (refine G.cvb he ?_)) <;> (refine go ?_; and_intros <;> (try exact trivial) <;> repeat (first | refine fun (Bk : Nat) => ?_ | intro h)))
  all_goals refine ret1b Tryz.func47 Tryz.results47 ?_
  all_goals rfl
end Go.Proofs.YtceaamdomkjmlaaGreatDoor
/-
  The law's example rivers, and what is reckoned of them.
-/
namespace Go.Proofs.YtceaamdomkjmlaaGreatDoor
open Go.RowKit Go.Sl Go.Num
/-- The river of the documentation. -/
def exL (a0 a1 a2 a3 : Option Addr) (c0 c1 c2 c3 : Nat) : List Rch := [⟨2, [1, 1], a0, c0⟩, ⟨2, [0, 1], a1, c1⟩, ⟨4, [1, 0, 1], a2, c2⟩, ⟨4, [1], a3, c3⟩, ⟨-1, [], none, 0⟩]
def exL2 (a0 a2 : Option Addr) (c0 c2 : Nat) : List Rch := [⟨2, [1], a0, c0⟩, ⟨-1, [], none, 0⟩, ⟨1, [1], a2, c2⟩]
section
variable (a0 a1 a2 a3 : Option Addr) (c0 c1 c2 c3 : Nat)
theorem ex_riv : rivErr (exL a0 a1 a2 a3 c0 c1 c2 c3) = 0 := by kernel_rfl
theorem ex_p1 : pathE (exL a0 a1 a2 a3 c0 c1 c2 c3) 0 4 = ([0, 2, 4], 0) := by kernel_rfl
theorem ex_p2 : pathE (exL a0 a1 a2 a3 c0 c1 c2 c3) 2 2 = ([2], 0) := by kernel_rfl
theorem ex_p3 : pathE (exL a0 a1 a2 a3 c0 c1 c2 c3) 3 2 = ([], 8) := by kernel_rfl
theorem ex_ab : aboveE (exL a0 a1 a2 a3 c0 c1 c2 c3) 4 = ([2, 3], 0) := by kernel_rfl
theorem ex_ba : basinE (exL a0 a1 a2 a3 c0 c1 c2 c3) 4 = ([0, 1, 2, 3], 0) := by kernel_rfl
theorem ex_or : ordE (exL a0 a1 a2 a3 c0 c1 c2 c3) = ([0, 1, 2, 3, 4], 0) := by kernel_rfl
theorem ex_or2 : ordE (exL2 a0 a2 c0 c2) = ([0, 2, 1], 0) := by kernel_rfl
theorem ex_a1 : alongE (exL a0 a1 a2 a3 c0 c1 c2 c3) 0 4 = ([1, 1, 1, 1], 0) := by kernel_rfl
theorem ex_a2 : alongE (exL a0 a1 a2 a3 c0 c1 c2 c3) 1 4 = ([0, 1, 0, 1], 0) := by kernel_rfl
theorem ex_a3 : alongE (exL a0 a1 a2 a3 c0 c1 c2 c3) 3 3 = ([1], 0) := by kernel_rfl
theorem ex_pa : partsE (exL a0 a1 a2 a3 c0 c1 c2 c3) 0 4 10 12 = ([(7, 8, 1), (8, 11, 2), (11, 12, 1)], 0) := by kernel_rfl
theorem ex_in : inflowE (exL a0 a1 a2 a3 c0 c1 c2 c3) 2 10 11 = ([(0, [(9, 11, 1)], 2), (1, [(9, 10, 1)], 1)], 0) := by kernel_rfl
end
def krL (r : Rch) : List (List Value) := r.ws.map isV
abbrev RetR (P : List Rch → Prop) (F : Value → Value) := RetN rcV 2 Rch.adr 1 krL P (fun R a c => F (.slice a R.length c))
theorem example_holds (w : World) : Calls Tryz.prog 45 #[] w (RetR (fun L => ∃ a0 a1 a2 a3 c0 c1 c2 c3, L = exL a0 a1 a2 a3 c0 c1 c2 c3) (fun v => v) w) := by
  refine enterA [] Tryz.func45 Tryz.ntmps45 ?_
  all_goals (refine go ?_; and_intros <;> (try exact trivial) <;> repeat (first | refine fun (Bk : Nat) => ?_ | intro h))
  repeat' ((first | (apply G.sliceL; rfl; rfl; rfl; rfl; rfl; rfl; rfl; rfl; intro Bs) | (apply G.cV (g := 46); rfl; rfl; exact fun w' _ => weights_holds _ w' ⟨_, _, _, rfl⟩)) <;> (refine go ?_; and_intros <;> (try exact trivial) <;> repeat (first | refine fun (Bk : Nat) => ?_ | intro h)))
  rename_i b0 b1 b2 b3
  (refine ret1 Tryz.func45 Tryz.results45 ?_; intro w' hw)
  have h0 := blkSlA (f := isV) (sz := 1) (b := b0) (l := [1, 1]) hw isV_len
  have h1 := blkSlA (f := isV) (sz := 1) (b := b1) (l := [0, 1]) hw isV_len
  have h2 := blkSlA (f := isV) (sz := 1) (b := b2) (l := [1, 0, 1]) hw isV_len
  have h3 := blkSlA (f := isV) (sz := 1) (b := b3) (l := [1]) hw isV_len
  have h4 := blkSlA (f := rcV) (sz := 2) (b := Bs) (l := exL (some ⟨b0, 0, none⟩) (some ⟨b1, 0, none⟩) (some ⟨b2, 0, none⟩) (some ⟨b3, 0, none⟩) 2 2 3 1) hw rcV_len
  refine ⟨exL (some ⟨b0, 0, none⟩) (some ⟨b1, 0, none⟩) (some ⟨b2, 0, none⟩) (some ⟨b3, 0, none⟩) 2 2 3 1, some ⟨Bs, 0, none⟩, 5, ⟨_, _, _, _, _, _, _, _, rfl⟩, rfl, ⟨h4.1, fun r hr => ?_⟩, fun p hp => by cases hp; exact h4.2, fun r hr p hp => ?_, hw.below⟩
  all_goals
    simp only [exL, List.mem_cons, List.not_mem_nil, or_false] at hr
    rcases hr with rfl | rfl | rfl | rfl | rfl
  · exact h0.1
  · exact h1.1
  · exact h2.1
  · exact h3.1
  · exact SlAt.nil
  · cases hp; exact h0.2
  · cases hp; exact h1.2
  · cases hp; exact h2.2
  · cases hp; exact h3.2
  · cases hp
end Go.Proofs.YtceaamdomkjmlaaGreatDoor
/-
  Contract: the law's examples hold.
-/
namespace Go.Proofs.YtceaamdomkjmlaaGreatDoor
open Go.RowKit Go.Sl Go.Num
/-- A part with its number. -/
def fV (p : Int × Int × Q3) : List Value := [.int .i64 p.1, .int .i64 p.2.1] ++ qV p.2.2
theorem fV_len (p : Int × Int × Q3) : (fV p).length = 5 := rfl
set_option maxHeartbeats 4000000 in
theorem sanity32_holds (w : World) : Calls Tryz.prog 10 #[] w fun e w' => e = .returned (.bool true) ∧ Below w.heap.size w w' := by
  have p2 := fun w' => part_holds 9 11 2 w' (by decide) (by decide)
  have p1 := fun w' => part_holds 9 10 1 w' (by decide) (by decide)
  have p3 := fun w' => part_holds 7 8 4 w' (by decide) (by decide)
  have p4 := fun w' => part_holds 8 11 2 w' (by decide) (by decide)
  have p5 := fun w' => part_holds 11 12 4 w' (by decide) (by decide)
  have e24 : rQ (((2 : Int) : Rat) / ((4 : Int) : Rat)) = rQ (((1 : Int) : Rat) / ((2 : Int) : Rat)) := congrArg rQ (by decide +kernel)
  have hm4 : ([(7, 8, 1), (8, 11, 2), (11, 12, 1)] : List Prt).map (wV 4) = [(7, 8, rQ (((1 : Int) : Rat) / ((4 : Int) : Rat))), (8, 11, rQ (((1 : Int) : Rat) / ((2 : Int) : Rat))), (11, 12, rQ (((1 : Int) : Rat) / ((4 : Int) : Rat)))].map fV := by
    simp only [List.map_cons, List.map_nil, wV, fV, e24]
  have hm2 : ([(9, 11, 1)] : List Prt).map (wV 2) = [(9, 11, rQ (((1 : Int) : Rat) / ((2 : Int) : Rat)))].map fV := rfl
  have hm1 : ([(9, 10, 1)] : List Prt).map (wV 1) = [(9, 10, rQ (((1 : Int) : Rat) / ((1 : Int) : Rat)))].map fV := rfl
  unfold wV at p1 p2 p3 p4 p5
  dsimp only at p1 p2 p3 p4 p5
  clear e24
  generalize rQ (((1 : Int) : Rat) / ((2 : Int) : Rat)) = q2 at *
  generalize rQ (((1 : Int) : Rat) / ((4 : Int) : Rat)) = q4 at *
  generalize rQ (((1 : Int) : Rat) / ((1 : Int) : Rat)) = q1 at *
  refine enterA [] Tryz.func10 Tryz.ntmps10 ?_
  all_goals (refine go ?_; and_intros <;> (try exact trivial) <;> repeat (first | refine fun (Bk : Nat) => ?_ | intro h))
  repeat' ((first | (apply G.cNst (g := 45) (f := rcV) (sz := 2) (adr := Rch.adr) (sz2 := 1) (F2 := krL) (fun R a' c' => .slice a' R.length c') (fun L => ∃ a0 a1 a2 a3 c0 c1 c2 c3, L = exL a0 a1 a2 a3 c0 c1 c2 c3); rfl; rfl; exact fun w' _ => example_holds w'; rintro L a1 c1 ⟨x0, x1, x2, x3, y0, y1, y2, y3, hL⟩ hq1 hq2; rw [show L.length = 5 from by rw [hL]; rfl])) <;> (refine go ?_; and_intros <;> (try exact trivial) <;> repeat (first | refine fun (Bk : Nat) => ?_ | intro h)))
  have hl5 : L.length = 5 := by rw [hL]; rfl
  have E1 := ex_p1 x0 x1 x2 x3 y0 y1 y2 y3
  have E2 := ex_p2 x0 x1 x2 x3 y0 y1 y2 y3
  have E3 := ex_p3 x0 x1 x2 x3 y0 y1 y2 y3
  have E4 := ex_ab x0 x1 x2 x3 y0 y1 y2 y3
  have E5 := ex_ba x0 x1 x2 x3 y0 y1 y2 y3
  have E6 := ex_or x0 x1 x2 x3 y0 y1 y2 y3
  have E7 := ex_a1 x0 x1 x2 x3 y0 y1 y2 y3
  have E8 := ex_a2 x0 x1 x2 x3 y0 y1 y2 y3
  have E9 := ex_a3 x0 x1 x2 x3 y0 y1 y2 y3
  have EA := ex_pa x0 x1 x2 x3 y0 y1 y2 y3
  have EB := ex_in x0 x1 x2 x3 y0 y1 y2 y3
  have EC := ex_riv x0 x1 x2 x3 y0 y1 y2 y3
  rw [← hL] at E1 E2 E3 E4 E5 E6 E7 E8 E9 EA EB EC
  clear hL
  have H1 := fun w' (h : NstAt rcV 2 Rch.adr 1 krL w' a1 L) => vPath_holds a1 L c1 0 4 w' h.out h.inn
  have H2 := fun w' (h : NstAt rcV 2 Rch.adr 1 krL w' a1 L) => vPath_holds a1 L c1 2 2 w' h.out h.inn
  have H3 := fun w' (h : NstAt rcV 2 Rch.adr 1 krL w' a1 L) => vPath_holds a1 L c1 3 2 w' h.out h.inn
  have H4 := fun w' (h : NstAt rcV 2 Rch.adr 1 krL w' a1 L) => vAbove_holds a1 L c1 4 w' h.out h.inn
  have H5 := fun w' (h : NstAt rcV 2 Rch.adr 1 krL w' a1 L) => vBasin_holds a1 L c1 4 w' h.out h.inn (fun _ => by omega)
  have H6 := fun w' (h : NstAt rcV 2 Rch.adr 1 krL w' a1 L) => vOrder_holds a1 L c1 w' h.out h.inn
  have H7 := fun w' (h : NstAt rcV 2 Rch.adr 1 krL w' a1 L) => vAlong_holds a1 L c1 0 4 w' h.out h.inn
  have H8 := fun w' (h : NstAt rcV 2 Rch.adr 1 krL w' a1 L) => vAlong_holds a1 L c1 1 4 w' h.out h.inn
  have H9 := fun w' (h : NstAt rcV 2 Rch.adr 1 krL w' a1 L) => vAlong_holds a1 L c1 3 3 w' h.out h.inn
  have HA := fun w' (h : NstAt rcV 2 Rch.adr 1 krL w' a1 L) => vParts_holds a1 L c1 0 4 10 12 w' h.out h.inn
  have HB := fun w' (h : NstAt rcV 2 Rch.adr 1 krL w' a1 L) => vInflow_holds a1 L c1 2 10 11 w' h.out h.inn
  have HC := fun w' (h : NstAt rcV 2 Rch.adr 1 krL w' a1 L) => vCheckR_holds a1 L c1 w' h.out h.inn
  rw [hl5] at H1 H2 H3 H4 H5 H6 H7 H8 H9 HA HB HC
  rw [E1] at H1
  rw [E2] at H2
  rw [E3] at H3
  rw [E4] at H4
  rw [E5] at H5
  rw [E6] at H6
  rw [E7] at H7 HA
  rw [E8] at H8
  rw [E9] at H9
  rw [EA] at HA
  rw [EB] at HB
  rw [EC] at HC
  dsimp only at H1 H2 H3 H4 H5 H6 H7 H8 H9 HA HB HC
  clear E1 E2 E3 E4 E5 E6 E7 E8 E9 EA EB EC
  all_goals (refine go ?_; and_intros <;> (try exact trivial) <;> repeat (first | refine fun (Bk : Nat) => ?_ | intro h))
  repeat' ((first | (apply G.cN (g := 11) (vs := [.slice a1 5 c1, .int .i64 0, .int .i64 4]) (fun a' c' => .tuple #[.slice a' 3 c', .int .i64 0]) (([0, 2, 4] : List Int).map isV); rfl; rfl; exact fun w' hw' => H1 w' (hw'.nst (by exact mm)); intro u1 v1 hp1 hq1) | (apply G.cN (g := 11) (vs := [.slice a1 5 c1, .int .i64 2, .int .i64 2]) (fun a' c' => .tuple #[.slice a' 1 c', .int .i64 0]) (([2] : List Int).map isV); rfl; rfl; exact fun w' hw' => H2 w' (hw'.nst (by exact mm)); intro u2 v2 hp2 hq2) | (apply G.cN (g := 11) (vs := [.slice a1 5 c1, .int .i64 3, .int .i64 2]) (fun a' c' => .tuple #[.slice a' 0 c', .int .i64 8]) (([] : List Int).map isV); rfl; rfl; exact fun w' hw' => H3 w' (hw'.nst (by exact mm)); intro u3 v3 hp3 hq3) | (apply G.cN (g := 13) (fun a' c' => .tuple #[.slice a' 2 c', .int .i64 0]) (([2, 3] : List Int).map isV); rfl; rfl; exact fun w' hw' => H4 w' (hw'.nst (by exact mm)); intro u4 v4 hp4 hq4) | (apply G.cN (g := 15) (fun a' c' => .tuple #[.slice a' 4 c', .int .i64 0]) (([0, 1, 2, 3] : List Int).map isV); rfl; rfl; exact fun w' hw' => H5 w' (hw'.nst (by exact mm)); intro u5 v5 hp5 hq5) | (apply G.cN (g := 17) (vs := [.slice a1 5 c1]) (fun a' c' => .tuple #[.slice a' 5 c', .int .i64 0]) (([0, 1, 2, 3, 4] : List Int).map isV); rfl; rfl; exact fun w' hw' => H6 w' (hw'.nst (by exact mm)); intro u6 v6 hp6 hq6) | (apply G.sliceL; rfl; rfl; rfl; rfl; rfl; rfl; rfl; rfl; intro Bs) | (apply G.cV (g := 46); rfl; rfl; exact fun w' _ => weights_holds _ w' ⟨_, _, _, rfl⟩)) <;> (refine go ?_; and_intros <;> (try exact trivial) <;> repeat (first | refine fun (Bk : Nat) => ?_ | intro h)))
  rename_i bA bB
  have H6b := fun w' (h : NstAt rcV 2 Rch.adr 1 krL w' (some ⟨Bs, 0, none⟩) (exL2 (some ⟨bA, 0, none⟩) (some ⟨bB, 0, none⟩) 1 1)) => vOrder_holds (some ⟨Bs, 0, none⟩) (exL2 (some ⟨bA, 0, none⟩) (some ⟨bB, 0, none⟩) 1 1) 3 w' h.out h.inn
  rw [ex_or2] at H6b
  dsimp only at H6b
  refine G.cN (vs := [.slice (some ⟨Bs, 0, none⟩) 3 3]) (fun a' c' => .tuple #[.slice a' 3 c', .int .i64 0]) (([0, 2, 1] : List Int).map isV) rfl rfl (fun w' hw' => H6b w' ⟨(blkSlA (f := rcV) (l := exL2 (some ⟨bA, 0, none⟩) (some ⟨bB, 0, none⟩) 1 1) hw' rcV_len).1, fun r hr => ?_⟩) ?_
  · simp only [exL2, List.mem_cons, List.not_mem_nil, or_false] at hr
    rcases hr with rfl | rfl | rfl
    · exact (blkSlA (f := isV) (l := [1]) hw' isV_len).1
    · exact SlAt.nil
    · exact (blkSlA (f := isV) (l := [1]) hw' isV_len).1
  intro u7 v7 hp7 hq7
  clear H6b H1 H2 H3 H4 H5 H6
  all_goals (refine go ?_; and_intros <;> (try exact trivial) <;> repeat (first | refine fun (Bk : Nat) => ?_ | intro h))
  repeat' ((first | (refine G.cV (v := .int .i64 0) rfl rfl (fun w' hw' => HC w' (hw'.nst (by exact mm))) ?_) | (apply G.cV (g := 47) (vs := [.slice u1 3 v1, .int .i64 0, .slice (some ⟨_, 0, none⟩) 3 3]); rfl; rfl; exact fun w' hw' => is_holds _ _ ([0, 2, 4] : List Int) _ _ w' (hw'.sl (by exact mm)) (blkSlA (l := [0, 2, 4]) hw' isV_len).1 (show 3 ≤ 1000000000 by decide)) | (apply G.cV (g := 47) (vs := [.slice u2 1 v2, .int .i64 0, .slice (some ⟨_, 0, none⟩) 1 1]); rfl; rfl; exact fun w' hw' => is_holds _ _ ([2] : List Int) _ _ w' (hw'.sl (by exact mm)) (blkSlA (l := [2]) hw' isV_len).1 (show 1 ≤ 1000000000 by decide)) | (apply G.cV (g := 47) (vs := [.slice u4 2 v4, .int .i64 0, .slice (some ⟨_, 0, none⟩) 2 2]); rfl; rfl; exact fun w' hw' => is_holds _ _ ([2, 3] : List Int) _ _ w' (hw'.sl (by exact mm)) (blkSlA (l := [2, 3]) hw' isV_len).1 (show 2 ≤ 1000000000 by decide)) | (apply G.cV (g := 47) (vs := [.slice u5 4 v5, .int .i64 0, .slice (some ⟨_, 0, none⟩) 4 4]); rfl; rfl; exact fun w' hw' => is_holds _ _ ([0, 1, 2, 3] : List Int) _ _ w' (hw'.sl (by exact mm)) (blkSlA (l := [0, 1, 2, 3]) hw' isV_len).1 (show 4 ≤ 1000000000 by decide)) | (apply G.cV (g := 47) (vs := [.slice u6 5 v6, .int .i64 0, .slice (some ⟨_, 0, none⟩) 5 5]); rfl; rfl; exact fun w' hw' => is_holds _ _ ([0, 1, 2, 3, 4] : List Int) _ _ w' (hw'.sl (by exact mm)) (blkSlA (l := [0, 1, 2, 3, 4]) hw' isV_len).1 (show 5 ≤ 1000000000 by decide)) | (apply G.cV (g := 47) (vs := [.slice u7 3 v7, .int .i64 0, .slice (some ⟨_, 0, none⟩) 3 3]); rfl; rfl; exact fun w' hw' => is_holds _ _ ([0, 2, 1] : List Int) _ _ w' (hw'.sl (by exact mm)) (blkSlA (l := [0, 2, 1]) hw' isV_len).1 (show 3 ≤ 1000000000 by decide)) | (apply G.cN (g := 19) (vs := [.slice a1 5 c1, .int .i64 0, .int .i64 4]) (fun a' c' => .tuple #[.agg #[.slice a' 4 c'], .int .i64 0]) (([1, 1, 1, 1] : List Int).map isV); rfl; rfl; exact fun w' hw' => H7 w' (hw'.nst (by exact mm)); intro u8 v8 hp8 hq8) | (apply G.cN (g := 19) (vs := [.slice a1 5 c1, .int .i64 1, .int .i64 4]) (fun a' c' => .tuple #[.agg #[.slice a' 4 c'], .int .i64 0]) (([0, 1, 0, 1] : List Int).map isV); rfl; rfl; exact fun w' hw' => H8 w' (hw'.nst (by exact mm)); intro u9 v9 hp9 hq9) | (apply G.cN (g := 19) (vs := [.slice a1 5 c1, .int .i64 3, .int .i64 3]) (fun a' c' => .tuple #[.agg #[.slice a' 1 c'], .int .i64 0]) (([1] : List Int).map isV); rfl; rfl; exact fun w' hw' => H9 w' (hw'.nst (by exact mm)); intro u10 v10 hp10 hq10) | (apply G.cN (g := 21) (fun a' c' => .tuple #[.slice a' 3 c', .int .i64 0]) (([(7, 8, 1), (8, 11, 2), (11, 12, 1)] : List Prt).map (wV 4)); rfl; rfl; exact fun w' hw' => HA w' (hw'.nst (by exact mm)); intro u11 v11 hp11 hq11) | (apply G.cNst (g := 23) (f := ifV) (sz := 2) (adr := Ifl.adr) (sz2 := 5) (F2 := ifL) (fun R a' c' => .tuple #[.slice a' R.length c', .int .i64 0]) (fun R => R.map coreI = [(0, [(9, 11, 1)], 2), (1, [(9, 10, 1)], 1)]); rfl; rfl; exact fun w' hw' => HB w' (hw'.nst (by exact mm)); intro R u12 v12 hR hq12 hq13) | (apply G.cV (g := 47) (vs := [.slice u8 4 v8, .int .i64 0, .slice (some ⟨_, 0, none⟩) 4 4]); rfl; rfl; exact fun w' hw' => is_holds _ _ ([1, 1, 1, 1] : List Int) _ _ w' (hw'.sl (by exact mm)) (blkSlA (l := [1, 1, 1, 1]) hw' isV_len).1 (show 4 ≤ 1000000000 by decide)) | (apply G.cV (g := 47) (vs := [.slice u9 4 v9, .int .i64 0, .slice (some ⟨_, 0, none⟩) 4 4]); rfl; rfl; exact fun w' hw' => is_holds _ _ ([0, 1, 0, 1] : List Int) _ _ w' (hw'.sl (by exact mm)) (blkSlA (l := [0, 1, 0, 1]) hw' isV_len).1 (show 4 ≤ 1000000000 by decide)) | (apply G.cV (g := 47) (vs := [.slice u10 1 v10, .int .i64 0, .slice (some ⟨_, 0, none⟩) 1 1]); rfl; rfl; exact fun w' hw' => is_holds _ _ ([1] : List Int) _ _ w' (hw'.sl (by exact mm)) (blkSlA (l := [1]) hw' isV_len).1 (show 1 ≤ 1000000000 by decide)) | (apply G.sliceL; rfl; rfl; rfl; rfl; rfl; rfl; rfl; rfl; intro Bs)) <;> (refine go ?_; and_intros <;> (try exact trivial) <;> repeat (first | refine fun (Bk : Nat) => ?_ | intro h)))
  all_goals (refine go ?_; and_intros <;> (try exact trivial) <;> repeat (first | refine fun (Bk : Nat) => ?_ | intro h))
  repeat' ((first | (apply G.cV (g := 48) (vs := [.int .i64 9, .int .i64 11, .int .i64 2]); rfl; rfl; exact fun w' _ => p2 w') | (apply G.cV (g := 48) (vs := [.int .i64 9, .int .i64 10, .int .i64 1]); rfl; rfl; exact fun w' _ => p1 w') | (apply G.sliceL; rfl; rfl; rfl; rfl; rfl; rfl; rfl; rfl; intro Bs)) <;> (refine go ?_; and_intros <;> (try exact trivial) <;> repeat (first | refine fun (Bk : Nat) => ?_ | intro h)))
  rename_i bP bQ
  clear H7 H8 H9 HA HB HC
  have hRl : R.length = 2 := by
    have := congrArg List.length hR
    rwa [List.length_map] at this
  have hRi : ∀ r ∈ R, r.L.length ≤ 1000000000 := fun r hr => by
    have h := List.mem_map_of_mem (f := coreI) hr
    rw [hR] at h
    simp only [List.mem_cons, List.not_mem_nil, or_false, coreI, Prod.mk.injEq] at h
    rcases h with ⟨_, h, _⟩ | ⟨_, h, _⟩ <;> rw [h] <;> decide
  refine G.cV (v := .bool true) rfl rfl (fun w' hw' => sameFlows_holds u12 (some ⟨Bs, 0, none⟩) R [⟨0, [(9, 11, 1)], 2, some ⟨bP, 0, none⟩, 1⟩, ⟨1, [(9, 10, 1)], 1, some ⟨bQ, 0, none⟩, 1⟩] v12 2 w' (hw'.nst (by exact mm)) ⟨(blkSlA (f := ifV) (l := [⟨0, [(9, 11, 1)], 2, some ⟨bP, 0, none⟩, 1⟩, ⟨1, [(9, 10, 1)], 1, some ⟨bQ, 0, none⟩, 1⟩]) hw' ifV_len).1, fun r hr => ?_⟩ hR ⟨by omega, hRi⟩) ?_
  · simp only [List.mem_cons, List.not_mem_nil, or_false] at hr
    rcases hr with rfl | rfl
    · show SlAt w' _ 5 (([(9, 11, 1)] : List Prt).map (wV 2))
      rw [hm2]
      exact (blkSlA (f := fV) (l := [(9, 11, q2)]) hw' fV_len).1
    · show SlAt w' _ 5 (([(9, 10, 1)] : List Prt).map (wV 1))
      rw [hm1]
      exact (blkSlA (f := fV) (l := [(9, 10, q1)]) hw' fV_len).1
  all_goals (refine go ?_; and_intros <;> (try exact trivial) <;> repeat (first | refine fun (Bk : Nat) => ?_ | intro h))
  repeat' ((first | (apply G.cV (g := 48) (vs := [.int .i64 7, .int .i64 8, .int .i64 4]); rfl; rfl; exact fun w' _ => p3 w') | (apply G.cV (g := 48) (vs := [.int .i64 8, .int .i64 11, .int .i64 2]); rfl; rfl; exact fun w' _ => p4 w') | (apply G.cV (g := 48) (vs := [.int .i64 11, .int .i64 12, .int .i64 4]); rfl; rfl; exact fun w' _ => p5 w') | (apply G.sliceL; rfl; rfl; rfl; rfl; rfl; rfl; rfl; rfl; intro Bs)) <;> (refine go ?_; and_intros <;> (try exact trivial) <;> repeat (first | refine fun (Bk : Nat) => ?_ | intro h)))
  refine G.cV (v := .bool true) rfl rfl (fun w' hw' => sameParts_holds u11 (some ⟨Bs, 0, none⟩) 4 [(7, 8, 1), (8, 11, 2), (11, 12, 1)] v11 3 w' (hw'.sl (by exact mm)) ?_ (by decide)) ?_
  · rw [hm4]
    exact (blkSlA (f := fV) (l := [(7, 8, q4), (8, 11, q2), (11, 12, q4)]) hw' fV_len).1
  all_goals (refine go ?_; and_intros <;> (try exact trivial) <;> repeat (first | refine fun (Bk : Nat) => ?_ | intro h))
  all_goals refine ret1b Tryz.func10 Tryz.results10 ?_
  all_goals rfl
end Go.Proofs.YtceaamdomkjmlaaGreatDoor
/-
  The law ReachesAreAsSpecified returns true.
-/
namespace Go.Proofs.YtceaamdomkjmlaaGreatDoor
open Go.RowKit Go.Sl Go.Num
/-! ### how long results are -/
theorem red_le (l : List Int) : (red l).length ≤ l.length := by
  rw [red, List.length_map, List.length_take]; exact Nat.min_le_right _ _
theorem compE_len (a b : List Int) : (compE a b).1.length ≤ 400 := by
  rw [compE]
  split
  · exact Nat.zero_le _
  · split
    · exact Nat.zero_le _
    · split
      · exact Nat.zero_le _
      · split
        · exact Nat.zero_le _
        · have := red_le (convL (red a) (red b))
          rw [convL_len] at this
          show (red _).length ≤ 400
          omega
theorem foldK_len : ∀ (m : List (List Int)) (s : List Int × Int), s.1.length ≤ 400 → (foldK s m).1.length ≤ 400
  | [], s, h => h
  | x :: m, s, h => by
    rw [foldK]
    split
    · exact h
    · exact foldK_len m _ (compE_len _ _)
theorem alongE_len (l : List Rch) (fr to : Int) : (alongE l fr to).1.length ≤ 400 := by
  by_cases he : (pathE l fr to).2 = 0
  · by_cases hne : fr = to
    · rw [alongE, if_neg (fun h => h he), if_pos hne]; show 1 ≤ 400; decide
    · obtain ⟨d, h1, h2, h3, h4, h5⟩ := along_path he hne
      rw [h4]
      refine foldK_len _ _ ?_
      have hR := riv_of h1
      obtain ⟨k0, k1, k2⟩ := h5 0 (Nat.zero_le _)
      have := (ker_of (hR.pos ⟨k0, k1⟩ k2).2).len
      rw [itr] at this
      exact Nat.le_trans (red_le _) this.2
  · rw [alongE, if_pos he]; exact Nat.zero_le _
end Go.Proofs.YtceaamdomkjmlaaGreatDoor
/-
  How the arguments of the laws of rivers read.
-/
namespace Go.Proofs.YtceaamdomkjmlaaGreatDoor
open Go.RowKit Go.Sl Go.Num Go.ChangeShapes Go.WideShapes
theorem rKer : Reads Tryz.prog 41 (fun s : Sld Int => [s.v]) (fun w s => SlAt w s.ad 1 (s.l.map isV)) := (Reads.struct1 (n := 1) Tryz.underlying41 (by kernel_rfl) (by kernel_rfl) rInts).mono fun _ _ h => h.1
theorem rRch : Reads Tryz.prog 68 rcV (fun w r => SlAt w r.adr 1 (r.ws.map isV)) := (Reads.struct2 (n := 2) Tryz.underlying68 (by kernel_rfl) (by kernel_rfl) rInt rKer).turn fun _ a h => ⟨⟨a.1, a.2.l, a.2.ad, a.2.cap⟩, rfl, h.2⟩
theorem rRchs : Reads Tryz.prog 22 (fun s : Sld Rch => [s.v]) (fun w s => SlAt w s.ad 2 (s.l.map rcV) ∧ KerAt w s.l) := (Reads.slice (sz := 2) Tryz.underlying22 (by kernel_rfl) (by decide) rRch).mono fun _ _ h => ⟨h.1, h.2.2.2⟩
theorem rB2 : Reads Tryz.prog 74 (fun a : Nat × Nat => [.int .u8 a.1, .int .u8 a.2]) (fun _ a => a.1 ≤ 255 ∧ a.2 ≤ 255) := (Reads.array (sz := 1) Tryz.underlying74 (by kernel_rfl) (by kernel_rfl) rU8).turn fun _ l h => by
  obtain ⟨a, b, rfl⟩ := list2 h.1
  exact ⟨(a, b), rfl, h.2 a (.head _), h.2 b (.tail _ (.head _))⟩
theorem rCourse : Reads Tryz.prog 88 (fun a : (Nat × Nat) × (Int × Int) => [.int .u8 a.1.1, .int .u8 a.1.2, .int .i64 a.2.1, .int .i64 a.2.2]) (fun _ a => a.1.1 ≤ 255 ∧ a.1.2 ≤ 255) := (Reads.struct2 (n := 4) Tryz.underlying88 (by kernel_rfl) (by kernel_rfl) rB2 rTicks).turn fun _ a h => ⟨a, rfl, h.1⟩
end Go.Proofs.YtceaamdomkjmlaaGreatDoor
/-
  Contract: which rivers the laws are about; plain laws of paths.
-/
namespace Go.Proofs.YtceaamdomkjmlaaGreatDoor
open Go.RowKit Go.Sl Go.Num
def validR (l : List Rch) : Prop := 0 < l.length ∧ l.length ≤ 10 ∧ fewRv 10 l ∧ rivErr l = 0
instance (l : List Rch) : Decidable (validR l) := by unfold validR; exact inferInstance
theorem valid32_holds (a : Option Addr) (l : List Rch) (c : Nat) (w : World) (hA : SlAt w a 2 (l.map rcV)) (hK : KerAt w l) :
    Calls Tryz.prog 31 #[.slice a l.length c] w fun e w' => e = .returned (.bool (decide (validR l))) ∧ Below w.heap.size w w' := by
  have hf := fun w' (hb : Below w.heap.size w w') => fewRv_holds a l c 10 w' (hA.below hb)
  have hc := fun w' (hb : Below w.heap.size w w') => vCheckR_holds a l c w' (hA.below hb) (hK.below hb)
  refine enterA [(0, .slice a l.length c)] Tryz.func31 Tryz.ntmps31 ?_
  by_cases h : validR l
  · rw [decide_eq_true h]
    obtain ⟨h1, h2, h3, h4⟩ := h
    rw [decide_eq_true h3] at hf
    rw [h4] at hc
    all_goals (refine go ?_; and_intros <;> (try exact trivial) <;> repeat (first | refine fun (Bk : Nat) => ?_ | intro h))
    repeat' ((first | (refine G.cvb hf ?_) | (refine G.cvb hc ?_)) <;> (refine go ?_; and_intros <;> (try exact trivial) <;> repeat (first | refine fun (Bk : Nat) => ?_ | intro h)))
    all_goals refine ret1b Tryz.func31 Tryz.results31 ?_
    all_goals rfl
  · rw [decide_eq_false h]
    by_cases h1 : 0 < l.length ∧ l.length ≤ 10
    · by_cases h3 : fewRv 10 l
      · have h4 : rivErr l ≠ 0 := fun h4 => h ⟨h1.1, h1.2, h3, h4⟩
        rw [decide_eq_true h3] at hf
        clear h
        generalize rivErr l = E at *
        all_goals (refine go ?_; and_intros <;> (try exact trivial) <;> repeat (first | refine fun (Bk : Nat) => ?_ | intro h))
        repeat' ((first | (refine G.cvb hf ?_) | (refine G.cvb hc ?_)) <;> (refine go ?_; and_intros <;> (try exact trivial) <;> repeat (first | refine fun (Bk : Nat) => ?_ | intro h)))
        all_goals refine ret1b Tryz.func31 Tryz.results31 ?_
        all_goals rfl
      · rw [decide_eq_false h3] at hf
        clear h
        all_goals (refine go ?_; and_intros <;> (try exact trivial) <;> repeat (first | refine fun (Bk : Nat) => ?_ | intro h))
        repeat' ((first | (refine G.cvb hf ?_)) <;> (refine go ?_; and_intros <;> (try exact trivial) <;> repeat (first | refine fun (Bk : Nat) => ?_ | intro h)))
        all_goals refine ret1b Tryz.func31 Tryz.results31 ?_
        all_goals rfl
    · clear h
      all_goals (refine go ?_; and_intros <;> (try exact trivial) <;> repeat (first | refine fun (Bk : Nat) => ?_ | intro h))
      all_goals refine ret1b Tryz.func31 Tryz.results31 ?_
      all_goals rfl
theorem path_cases {l : List Rch} (h : rivErr l = 0) {fr to : Int} (h1 : 0 ≤ fr ∧ fr < l.length) (h2 : 0 ≤ to ∧ to < l.length) : (∃ d, itr l d fr = to ∧ pathE l fr to = (stepsL l d fr, 0)) ∨ ((∀ d, itr l d fr ≠ to) ∧ pathE l fr to = ([], 8)) := by
  have hR := riv_of h
  rcases hR.path_iff h1 h2.1 with ⟨d, h3, _⟩ | ⟨h3, _⟩
  · exact .inl ⟨d, h3, Riv.pathE h h1 h2 h3⟩
  · exact .inr ⟨h3, pathE_none h h1 h2 (hR.dep h1.2).1 fun i _ => h3 i⟩
end Go.Proofs.YtceaamdomkjmlaaGreatDoor
/-
  Plain laws of parts: the kernel of a way is right; the parts of a tick before and from a seam are all of it.
-/
namespace Go.Proofs.YtceaamdomkjmlaaGreatDoor
open Go.RowKit Go.Sl Go.Num
theorem ker_err {k : List Int} (h : Ker k) : kerErr k = 0 := by
  have h1 := h.len
  have h2 := h.sum
  rw [kerErr, if_neg (by omega), if_neg, if_neg (by omega), if_neg (by omega)]
  rw [Bool.not_eq_true, List.any_eq_false]
  intro w hw
  have := h.nn w hw
  rw [badW, Bool.or_eq_true, decide_eq_true_eq, decide_eq_true_eq]
  omega
theorem ker_mk {k : List Int} (h : Pos k) (h1 : k.length ≤ 400) (h2 : sumL k ≤ 999999999999999) : Ker k := by
  refine ⟨⟨?_, h1⟩, fun w hw => ⟨h.1 w hw, Int.le_trans (elem_le h.1 w hw) h2⟩, pos_sum h.1 h.2, h2⟩
  obtain ⟨w, hw, _⟩ := h.2
  exact List.length_pos_of_mem hw
theorem sum_red_le {k : List Int} (h : Pos k) : sumL (red k) ≤ sumL k := by
  have h1 := sum_red h
  have h2 := h.cont
  have h3 := sumL_nn (red_pos h).1
  rw [← h1]
  have h4 : (1 : Int) ≤ (contF 0 k : Int) := by omega
  have h5 := Int.mul_le_mul_of_nonneg_right h4 h3
  omega
theorem ker_red {k : List Int} (h : Ker k) : Ker (red k) := ker_mk (red_pos h.pos) (Nat.le_trans (red_le k) h.len.2) (Int.le_trans (sum_red_le h.pos) h.sum.2)
theorem ker_comp {a b : List Int} (h : (compE a b).2 = 0) : Ker (compE a b).1 := by
  obtain ⟨h1, h2, h3⟩ := compE_ok h
  rw [compE] at h
  split at h
  · exact absurd h (by assumption)
  split at h
  · exact absurd h (by assumption)
  split at h
  · cases h
  split at h
  · cases h
  rename_i k1 k2
  rw [h3]
  have p1 := red_pos h1
  have p2 := red_pos h2
  have pc := convL_pos p1 p2
  have l2 := (red_pos h2)
  have hb : 0 < (red b).length := by
    obtain ⟨w, hw, _⟩ := p2.2
    exact List.length_pos_of_mem hw
  refine ker_red (ker_mk pc (by rw [convL_len]; omega) ?_)
  rw [convL_sum hb]
  exact Int.mul_le_of_le_ediv (pos_sum p2.1 p2.2) (by omega)
theorem foldK_ker : ∀ (m : List (List Int)) (s : List Int × Int), (s.2 = 0 → Ker s.1) → (foldK s m).2 = 0 → Ker (foldK s m).1
  | [], s, h, h0 => h h0
  | x :: m, s, h, h0 => by
    rw [foldK] at h0 ⊢
    split
    · rename_i h1; rw [if_pos h1] at h0; exact absurd h0 h1
    · rename_i h1; rw [if_neg h1] at h0
      exact foldK_ker m _ ker_comp h0
theorem along_ker {l : List Rch} {fr to : Int} (h0 : (alongE l fr to).2 = 0) : kerErr (alongE l fr to).1 = 0 := by
  by_cases he : (pathE l fr to).2 = 0
  · by_cases hne : fr = to
    · rw [alongE, if_neg (fun h => h he), if_pos hne]; rfl
    · obtain ⟨d, h1, h2, h3, h4, h5⟩ := along_path he hne
      rw [h4] at h0 ⊢
      have hR := riv_of h1
      obtain ⟨k0, k1, k2⟩ := h5 0 (Nat.zero_le _)
      have := ker_of (hR.pos ⟨k0, k1⟩ k2).2
      rw [itr] at this
      exact ker_err (foldK_ker _ _ (fun _ => ker_red this) h0)
  · rw [alongE, if_pos he] at h0; exact absurd h0 he
theorem parts_in {K : List Int} (h : Ker K) {t s : Int} (h0 : 0 ≤ t) (h1 : t ≤ s) {p : Prt} (hp : p ∈ arrL K t s) : p.2.1 ≤ s ∧ t0Of K t ≤ p.1 ∧ 0 < p.2.2 ∧ p.2.2 ≤ sumL K ∧ p.1 < p.2.1 := by
  have hl := h.len
  obtain ⟨a, pa, a1, a2⟩ := arrL_ok (k := K) (fr := t) (to := s)
  obtain ⟨m1, m2, m3, m4⟩ := pa.mem p hp
  have h3 := m4 p.1 (Int.le_refl _) m2
  have h4 := wIn_nn (fr := t) (to := s) K p.1 fun w hw => (h.nn w hw).1
  rw [h3.1] at h4
  rw [t0Of] at a2 m1 ⊢
  have := h3.2
  refine ⟨?_, m1, by omega, h4.2, m2⟩
  have := a2 (by omega)
  omega
end Go.Proofs.YtceaamdomkjmlaaGreatDoor
/-
  The law's weight of a tick.
-/
namespace Go.Proofs.YtceaamdomkjmlaaGreatDoor
open Go.RowKit Go.Sl Go.Num
theorem wAt_cons (p : Prt) (r : List Prt) (t : Int) : wAt (p :: r) t = if p.1 ≤ t ∧ t < p.2.1 then p.2.2 else wAt r t := by
  rw [wAt, List.find?_cons]
  by_cases h : p.1 ≤ t ∧ t < p.2.1
  · rw [if_pos h, decide_eq_true h.1, decide_eq_true h.2]; rfl
  · rw [if_neg h, wAt]
    have : (decide (p.1 ≤ t) && decide (t < p.2.1)) = false := by
      rw [← Bool.not_eq_true, Bool.and_eq_true, decide_eq_true_eq, decide_eq_true_eq]; exact h
    rw [this]
theorem weight_holds (a : Option Addr) (L : List Prt) (c : Nat) (tot t : Int) (w : World) (hA : SlAt w a 5 (L.map (wV tot))) (hl : L.length ≤ 1000000000) :
    Calls Tryz.prog 37 #[.slice a L.length c, .int .i64 t] w fun e w' => e = .returned (qA (rQ ((wAt L t : Rat) / (tot : Rat)))) ∧ Below w.heap.size w w' := by
  obtain ⟨W, hW⟩ : ∃ W, wAt L t = W := ⟨_, rfl⟩
  rw [hW]
  refine enterA [(0, .slice a L.length c), (1, .int .i64 t)] Tryz.func37 Tryz.ntmps37 ?_
  all_goals (refine go ?_; and_intros <;> (try exact trivial) <;> repeat (first | refine fun (Bk : Nat) => ?_ | intro h))
  refine J.loop (c := _) (0 : Nat) (fun s => L.length - s) (fun s => [(1, .int .i64 t), (4, .pointer (some ⟨_, 0, none⟩)), (7, .slice a L.length c), (8, .int .i64 L.length), (9, .int .i64 s)]) (fun s => [.blk _ 78 (qV zero3) 3]) (fun s => s ≤ L.length ∧ wAt (L.drop s) t = W) ?_ sbT sbL ?_
  · exact ⟨Nat.zero_le _, hW⟩
  intro i ⟨h1, h2⟩ ih
  by_cases hi : i < L.length
  · obtain ⟨ba, oa, rfl, hra⟩ := SlAt.all hA (by omega)
    have hr1 := hra i hi
    rw [List.drop_eq_getElem_cons hi, wAt_cons] at h2
    have ih := fun h => ih (i + 1) ⟨hi, h⟩ (by omega)
    clear hra hW
    generalize L[i] = p at *
    obtain ⟨f, u, x⟩ := p
    dsimp only [wV] at hr1 h2
    by_cases hin : f ≤ t ∧ t < u
    · rw [if_pos hin] at h2
      subst h2
      generalize rQ ((x : Rat) / (tot : Rat)) = Q at *
      obtain ⟨ng, nu, de⟩ := Q
      dsimp only [qV, List.cons_append, List.nil_append] at hr1
      obtain ⟨q1, q2⟩ := hin
      all_goals (refine go ?_; and_intros <;> (try exact trivial) <;> repeat (first | refine fun (Bk : Nat) => ?_ | intro h))
      all_goals refine ret1b Tryz.func37 Tryz.results37 ?_
      all_goals rfl
    · rw [if_neg hin] at h2
      generalize rQ ((x : Rat) / (tot : Rat)) = Q at *
      obtain ⟨ng, nu, de⟩ := Q
      dsimp only [qV, List.cons_append, List.nil_append] at hr1
      have hin : t < f ∨ (f ≤ t ∧ u ≤ t) := by omega
      all_goals (refine go ?_; and_intros <;> (try exact trivial) <;> repeat (first | refine fun (Bk : Nat) => ?_ | intro h))
      all_goals exact J.fin (ih h2)
  · obtain rfl : i = L.length := by omega
    rw [List.drop_length] at h2
    obtain rfl : W = 0 := h2.symm
    have e0 : rQ (((0 : Int) : Rat) / (tot : Rat)) = zero3 := by rw [Rat.div_def, show (((0 : Int)) : Rat) = 0 from rfl, Rat.zero_mul]; rfl
    rw [e0]
    clear ih
    all_goals (refine go ?_; and_intros <;> (try exact trivial) <;> repeat (first | refine fun (Bk : Nat) => ?_ | intro h))
    all_goals refine ret1b Tryz.func37 Tryz.results37 ?_
    all_goals rfl
end Go.Proofs.YtceaamdomkjmlaaGreatDoor
/-
  Plain laws of routing: what the program reckons in place, and how great its numbers are.
-/
namespace Go.Proofs.YtceaamdomkjmlaaGreatDoor
open Go.RowKit Go.Sl Go.Num
def qF (x : Rat) : List Value := qV (rQ x)
theorem qF_len (x : Rat) : (qF x).length = 3 := rfl
def rowN (c : Rat) (i : Nat) (F out : List Rat) : Nat → List Rat
  | 0 => out
  | j + 1 => (rowN c i F out j).set (i + j) (fsq (rowN c i F out j) (i + j) + c * fsq F j)
def conN (K : List Int) (F : List Rat) : Nat → List Rat
  | 0 => List.replicate (F.length + K.length - 1) 0
  | i + 1 => if co K i = 0 then conN K F i else rowN (pk K i) i F (conN K F i) F.length
def routeL (K : List Int) (F : List Rat) : List Rat := if F.length = 0 then [] else conN K F K.length
theorem rowN_len (c : Rat) (i : Nat) (F out : List Rat) : ∀ j, (rowN c i F out j).length = out.length
  | 0 => rfl
  | j + 1 => by rw [rowN, List.length_set, rowN_len c i F out j]
theorem conN_len (K : List Int) (F : List Rat) : ∀ i, (conN K F i).length = F.length + K.length - 1
  | 0 => by rw [conN, List.length_replicate]
  | i + 1 => by
    rw [conN]
    split
    · exact conN_len K F i
    · rw [rowN_len, conN_len K F i]
theorem fsq_lt {l : List Rat} {i : Nat} (h : i < l.length) : fsq l i = l[i] := by rw [fsq, List.getD_eq_getElem?_getD, List.getElem?_eq_getElem h]; rfl
theorem fsq_ge {l : List Rat} {i : Nat} (h : l.length ≤ i) : fsq l i = 0 := by rw [fsq, List.getD_eq_getElem?_getD, List.getElem?_eq_none h]; rfl
theorem fsq_set {l : List Rat} {i : Nat} (h : i < l.length) (v : Rat) (t : Nat) : fsq (l.set i v) t = if t = i then v else fsq l t := by
  rcases Nat.lt_or_ge t l.length with h1 | h1
  · rw [fsq_lt (by rw [List.length_set]; exact h1), List.getElem_set]
    split
    · rename_i h2; rw [if_pos h2.symm]
    · rename_i h2; rw [if_neg (fun e => h2 e.symm), fsq_lt h1]
  · rw [fsq_ge (by rw [List.length_set]; exact h1), if_neg (by omega), fsq_ge h1]
theorem rowN_fsq {c : Rat} {i : Nat} {F out : List Rat} : ∀ {j : Nat}, i + j ≤ out.length → ∀ t, fsq (rowN c i F out j) t = fsq out t + if i ≤ t ∧ t < i + j then c * fsq F (t - i) else 0
  | 0, _, t => by rw [rowN, if_neg (by omega), Rat.add_zero]
  | j + 1, h, t => by
    rw [rowN, fsq_set (by rw [rowN_len]; omega), rowN_fsq (by omega), rowN_fsq (by omega)]
    by_cases h1 : t = i + j
    · subst h1
      rw [if_pos rfl, if_neg (by omega), if_pos (by omega), Nat.add_sub_cancel_left, Rat.add_zero]
    · rw [if_neg h1]
      congr 1
      by_cases h2 : i ≤ t ∧ t < i + j
      · rw [if_pos h2, if_pos (by omega)]
      · rw [if_neg h2, if_neg (by omega)]
theorem fsq_rep (n t : Nat) : fsq (List.replicate n 0) t = 0 := by
  rcases Nat.lt_or_ge t n with h | h
  · rw [fsq_lt (by rw [List.length_replicate]; exact h), List.getElem_replicate]
  · exact fsq_ge (by rw [List.length_replicate]; exact h)
theorem pk_zero {K : List Int} {i : Nat} (h : co K i = 0) : pk K i = 0 := by rw [pk, sq, h, Rat.intCast_zero]; grind
theorem row_term {F : List Rat} {i t : Nat} {c : Rat} : (if i ≤ t ∧ t < i + F.length then c * fsq F (t - i) else 0) = c * if i ≤ t then fsq F (t - i) else 0 := by
  by_cases h : i ≤ t
  · rw [if_pos h]
    by_cases h2 : t < i + F.length
    · rw [if_pos ⟨h, h2⟩]
    · rw [if_neg (fun e => h2 e.2), fsq_ge (by omega)]; grind
  · rw [if_neg h, if_neg (fun e => h e.1)]; grind
theorem conN_fsq {K : List Int} {F : List Rat} (hF : 0 < F.length) : ∀ {i : Nat}, i ≤ K.length → ∀ t, fsq (conN K F i) t = rS (fun s => pk K s * if s ≤ t then fsq F (t - s) else 0) 0 i
  | 0, _, t => by rw [conN, fsq_rep]; rfl
  | i + 1, h, t => by
    rw [conN, rS_last, Nat.zero_add, ← conN_fsq hF (by omega) t]
    split
    · rename_i h0; rw [pk_zero h0]; grind
    · rw [rowN_fsq (by rw [conN_len]; omega), row_term]
theorem route_fsq (K : List Int) (F : List Rat) (t : Nat) : fsq (routeL K F) t = cv (pk K) (fsq F) t := by
  rw [routeL, cv_rS]
  by_cases hF : F.length = 0
  · rw [if_pos hF, fsq_ge (Nat.zero_le _), rS_congr (h := fun _ => 0) _ 0 fun s _ _ => by rw [fsq_ge (l := F) (by omega)]; grind]
    exact (rS_zero _ _).symm
  · rw [if_neg hF, conN_fsq (by omega) (Nat.le_refl _)]
    have e1 := rS_tail (g := fun s => pk K s * if s ≤ t then fsq F (t - s) else 0) (n := K.length) (fun s h => by rw [pk_ge h]; grind) (t + 1)
    have e2 := rS_tail (g := fun s => pk K s * if s ≤ t then fsq F (t - s) else 0) (n := t + 1) (fun s h => by rw [if_neg (by omega)]; grind) K.length
    rw [← e1, Nat.add_comm, e2]
    exact rS_congr _ 0 fun s _ h => by rw [if_pos (by omega)]
theorem routeL_len {K : List Int} {F : List Rat} (hF : 0 < F.length) : (routeL K F).length = F.length + K.length - 1 := by rw [routeL, if_neg (by omega), conN_len]
/-! ### how great the numbers are -/
def Fr (D M : Nat) (x : Rat) : Prop := ∃ N : Int, x * ((D : Int) : Rat) = (N : Rat) ∧ N.natAbs ≤ M
theorem Fr.zero (D M : Nat) : Fr D M 0 := ⟨0, by rw [Rat.zero_mul]; rfl, Nat.zero_le _⟩
theorem Fr.le {D M M' : Nat} {x : Rat} (h : Fr D M x) (hm : M ≤ M') : Fr D M' x := by
  obtain ⟨N, h1, h2⟩ := h
  exact ⟨N, h1, Nat.le_trans h2 hm⟩
theorem Fr.add {D M M' : Nat} {x y : Rat} (h : Fr D M x) (h' : Fr D M' y) : Fr D (M + M') (x + y) := by
  obtain ⟨N, h1, h2⟩ := h
  obtain ⟨N', h3, h4⟩ := h'
  exact ⟨N + N', by rw [Rat.add_mul, h1, h3, Rat.intCast_add], by omega⟩
theorem Fr.mulk {D M : Nat} {x : Rat} (h : Fr D M x) {v S : Int} (hv : 0 ≤ v) (hS : 0 < S) : Fr (S.toNat * D) (v.toNat * M) ((v : Rat) / (S : Rat) * x) := by
  obtain ⟨N, h1, h2⟩ := h
  refine ⟨v * N, ?_, ?_⟩
  · have e : (((S.toNat * D : Nat) : Int) : Rat) = (S : Rat) * ((D : Int) : Rat) := by
      rw [Int.natCast_mul, Rat.intCast_mul, Int.toNat_of_nonneg (Int.le_of_lt hS)]
    have hs : (S : Rat) ≠ 0 := rat_ne hS
    rw [e, Rat.intCast_mul, ← h1, Rat.div_def]
    have := Rat.mul_inv_cancel _ hs
    grind
  · rw [Int.natAbs_mul]
    exact Nat.mul_le_mul (by omega) h2
theorem Fr.few {D M k : Nat} {x : Rat} (h : Fr D M x) (h0 : 0 < D) (hD : D < 256 ^ k) (hM : M < 256 ^ k) : fewQ k (rQ x) := by
  obtain ⟨N, h1, h2⟩ := h
  have hx : x = ofF (decide (N < 0)) N.natAbs D := by
    have hd : ((D : Int) : Rat) ≠ 0 := rat_ne (by omega)
    rw [ofF, sg_self, Rat.mkRat_eq_div, ← h1, Rat.div_def]
    have := Rat.mul_inv_cancel _ hd
    have e : ((D : Nat) : Rat) = ((D : Int) : Rat) := rfl
    rw [e]
    grind
  rw [hx]
  exact fewQ_ofF (by omega) (nB_bound (by omega)) (nB_bound hD)
theorem take_sum {K : List Int} {i : Nat} (h : i < K.length) : sumL (K.take (i + 1)) = sumL (K.take i) + co K i := by
  rw [List.take_add_one, List.getElem?_eq_getElem h, Option.toList, sumL_app, co_lt h, sumL, sumL, Int.add_zero]
theorem take_nn {K : List Int} (h : ∀ w ∈ K, 0 ≤ w) (i : Nat) : 0 ≤ sumL (K.take i) := sumL_nn fun w hw => h w (List.mem_of_mem_take hw)
theorem take_le {K : List Int} (h : ∀ w ∈ K, 0 ≤ w) (i : Nat) : sumL (K.take i) ≤ sumL K := by
  have := sumL_app (K.take i) (K.drop i)
  rw [List.take_append_drop] at this
  have := sumL_nn fun w hw => h w (List.mem_of_mem_drop (i := i) hw)
  omega
theorem pk_term {K : List Int} (h : Ker K) {D M : Nat} {x : Rat} (hx : Fr D M x) (i : Nat) : Fr ((sumL K).toNat * D) ((co K i).toNat * M) (pk K i * x) := by
  rw [pk, sq]; exact hx.mulk (co_nn (fun w hw => (h.nn w hw).1) i) h.sum.1
theorem rowN_bnd {K : List Int} (h : Ker K) {F : List Rat} {D M : Nat} (hF : ∀ t, Fr D M (fsq F t)) {i j A : Nat} {out : List Rat} (ho : ∀ t, Fr ((sumL K).toNat * D) (A * M) (fsq out t)) (hl : i + j ≤ out.length) (t : Nat) : Fr ((sumL K).toNat * D) ((A + (co K i).toNat) * M) (fsq (rowN (pk K i) i F out j) t) := by
  rw [rowN_fsq hl, Nat.add_mul]
  refine (ho t).add ?_
  split
  · exact pk_term h (hF _) i
  · exact Fr.zero _ _
theorem conN_bnd {K : List Int} (h : Ker K) {F : List Rat} (h0 : 0 < F.length) {D M : Nat} (hF : ∀ t, Fr D M (fsq F t)) : ∀ {i : Nat}, i ≤ K.length → ∀ t, Fr ((sumL K).toNat * D) ((sumL (K.take i)).toNat * M) (fsq (conN K F i) t)
  | 0, _, t => by rw [conN, fsq_rep]; exact Fr.zero _ _
  | i + 1, hi, t => by
    have h1 := take_sum (K := K) (i := i) (by omega)
    have h2 := take_nn (fun w hw => (h.nn w hw).1) (K := K) i
    have h3 := co_nn (fun w hw => (h.nn w hw).1) (l := K) i
    have h4 : (sumL (K.take (i + 1))).toNat = (sumL (K.take i)).toNat + (co K i).toNat := by omega
    rw [conN, h4]
    split
    · exact (conN_bnd h h0 hF (by omega) t).le (Nat.mul_le_mul_right _ (by omega))
    · exact rowN_bnd h hF (conN_bnd h h0 hF (by omega)) (by rw [conN_len]; omega) t
theorem route_bnd {K : List Int} (h : Ker K) {F : List Rat} {D M : Nat} (hF : ∀ t, Fr D M (fsq F t)) (t : Nat) : Fr ((sumL K).toNat * D) ((sumL K).toNat * M) (fsq (routeL K F) t) := by
  rw [routeL]
  split
  · exact Fr.zero _ _
  · have := conN_bnd h (by omega) hF (Nat.le_refl _) t
    rwa [List.take_length] at this
/-- Within a row each number is small. -/
theorem step_bnd {K : List Int} (h : Ker K) {F : List Rat} (h0 : 0 < F.length) {D M : Nat} (hF : ∀ t, Fr D M (fsq F t)) {i j : Nat} (hi : i < K.length) (hj : j ≤ F.length) (t : Nat) : Fr ((sumL K).toNat * D) ((sumL K).toNat * M) (fsq (rowN (pk K i) i F (conN K F i) j) t) := by
  have h1 := take_sum (K := K) (i := i) (by omega)
  have h2 := take_nn (fun w hw => (h.nn w hw).1) (K := K) i
  have h3 := co_nn (fun w hw => (h.nn w hw).1) (l := K) i
  have h5 := take_le (fun w hw => (h.nn w hw).1) (K := K) (i + 1)
  exact (rowN_bnd h hF (conN_bnd h h0 hF (by omega)) (by rw [conN_len]; omega) t).le (Nat.mul_le_mul_right _ (by omega))
/-- The flows' common denominator. -/
def denP : List Rat → Nat
  | [] => 1
  | x :: r => x.den * denP r
theorem denP_pos : ∀ F : List Rat, 0 < denP F
  | [] => Nat.one_pos
  | x :: r => Nat.mul_pos x.den_pos (denP_pos r)
theorem denP_lt {k : Nat} : ∀ {F : List Rat}, (∀ x ∈ F, x.den ≤ 256 ^ k) → denP F ≤ 256 ^ (k * F.length)
  | [], _ => by simp [denP]
  | x :: r, h => by
    rw [denP, List.length_cons, Nat.mul_add, Nat.mul_one, Nat.pow_add, Nat.mul_comm]
    exact Nat.mul_le_mul (denP_lt fun y hy => h y (by simp [hy])) (h x (by simp))
theorem num_den (x : Rat) : x * ((x.den : Int) : Rat) = ((x.num : Int) : Rat) := by
  have hd : ((x.den : Int) : Rat) ≠ 0 := rat_ne (by have := x.den_pos; omega)
  have h := Rat.mkRat_self x
  rw [Rat.mkRat_eq_div] at h
  have e : ((x.den : Nat) : Rat) = ((x.den : Int) : Rat) := rfl
  rw [e] at h
  calc x * ((x.den : Int) : Rat) = (((x.num : Int) : Rat) / ((x.den : Int) : Rat)) * ((x.den : Int) : Rat) := by rw [h]
    _ = _ := Rat.div_mul_cancel hd
theorem denP_Fr {m : Nat} : ∀ {F : List Rat}, (∀ x ∈ F, x.num.natAbs ≤ m) → ∀ t, Fr (denP F) (m * denP F) (fsq F t)
  | [], _, t => by rw [fsq_ge (Nat.zero_le _)]; exact Fr.zero _ _
  | x :: r, h, 0 => by
    rw [fsq_zero]
    refine ⟨x.num * denP r, ?_, ?_⟩
    · rw [denP, Int.natCast_mul, Rat.intCast_mul, Rat.intCast_mul, ← Rat.mul_assoc]
      congr 1
      exact num_den x
    · rw [Int.natAbs_mul, Int.natAbs_natCast, denP, ← Nat.mul_assoc]
      refine Nat.mul_le_mul_right _ (Nat.le_trans (h x (by simp)) ?_)
      exact Nat.le_mul_of_pos_right _ x.den_pos
  | x :: r, h, t + 1 => by
    rw [fsq_succ]
    obtain ⟨N, h1, h2⟩ := denP_Fr (F := r) (fun y hy => h y (by simp [hy])) t
    refine ⟨x.den * N, ?_, ?_⟩
    · rw [denP, Int.natCast_mul, Rat.intCast_mul, Rat.intCast_mul, ← h1]; grind
    · rw [Int.natAbs_mul, Int.natAbs_natCast, denP, Nat.mul_left_comm]
      exact Nat.mul_le_mul_left _ h2
end Go.Proofs.YtceaamdomkjmlaaGreatDoor
/-
  Contracts of routing: few flows, a flow at a tick, kernel.Route.
-/
namespace Go.Sl
open Go.RowKit
variable {C : Ctx} {st : List (Nat × Value)} {M : List Row} {k : List Item} {q q' : Md} {all rest : List Oper} {d : Nat} {ty : TypeId} {pos : String} {after : Array Edge} {gd : Option (Nat × Bool)}
/-- A store of a struct at a place of a block. -/
theorem G.sA {T n : TypeId} {x y : Operand} {vs : List Value} {b j tot : Nat} {e : TypeId} {cs out : List Value} {F : Row → List Row} (hs : wqB all st gd q.res = some q')
    (hx : evS st x = some (.pointer (some ⟨b, j, none⟩))) (hy : evS st y = some (.agg vs.toArray)) (hm : RAt (.blk b e cs tot) M F) [hT : TSize C.P T n] (hn : vs.length = n) (h1 : vs.all (·.oneCell') = true) (hj : j + vs.length ≤ cs.length) (ho : setL cs j vs = out)
    (h : G q' C all st (F (.blk b e out tot)) rest k) :
    G q C all st M ({ dst := none, op := .store T x y, type := ty, pos, after, guard := gd } :: rest) k := by
  obtain ⟨g1, g2⟩ := wqB_ok hs
  obtain ⟨i, h5, h6⟩ := hm.idx
  subst ho
  rw [← h6] at h
  exact G.storeI (vs := vs) g1 g2 hx h5 hy rfl h1 hj hn h
end Go.Sl
namespace Go.Proofs.YtceaamdomkjmlaaGreatDoor
open Go.RowKit Go.Sl Go.Num
instance (k : Nat) (a : Q3) : Decidable (fewQ k a) := by unfold fewQ; exact inferInstance
theorem sFewQ_holds (a : Q3) (k : Nat) (w : World) : Calls Tryz.prog 76 #[qA a, .int .i64 k] w fun e w' => e = .returned (.bool (decide (fewQ k a))) ∧ Below w.heap.size w w' := by
  obtain ⟨s, n, d⟩ := a
  dsimp only [qA]
  refine enterA [(0, .agg #[.bool s, .string (bs n), .string (bs d)]), (1, .int .i64 k)] Tryz.func76 Tryz.ntmps76 ?_
  by_cases h : fewQ k ⟨s, n, d⟩
  · rw [decide_eq_true h]
    obtain ⟨h1, h2⟩ := h
    dsimp only at h1 h2
    all_goals (refine go ?_; and_intros <;> (try exact trivial) <;> repeat (first | refine fun (Bk : Nat) => ?_ | intro h))
    all_goals refine ret1b Tryz.func76 Tryz.results76 ?_
    all_goals rfl
  · rw [decide_eq_false h]
    have h : k < n.length ∨ (n.length ≤ k ∧ k < d.length) := by
      rcases Nat.lt_or_ge k n.length with h1 | h1
      · exact .inl h1
      · exact .inr ⟨h1, Nat.lt_of_not_le fun h2 => h ⟨h1, h2⟩⟩
    all_goals (refine go ?_; and_intros <;> (try exact trivial) <;> repeat (first | refine fun (Bk : Nat) => ?_ | intro h))
    all_goals
      all_goals refine ret1b Tryz.func76 Tryz.results76 ?_
      all_goals rfl
def fewFl (most : Nat) (l : List Q3) : Prop := l.length ≤ most ∧ ∀ q ∈ l, fewQ 20 q
instance (most : Nat) (l : List Q3) : Decidable (fewFl most l) := by unfold fewFl; exact inferInstance
theorem fewFl_holds (a : Option Addr) (l : List Q3) (c most : Nat) (w : World) (hA : SlAt w a 3 (l.map qV)) (hl : most ≤ 1000000000) :
    Calls Tryz.prog 40 #[.slice a l.length c, .int .i64 most] w fun e w' => e = .returned (.bool (decide (fewFl most l))) ∧ Below w.heap.size w w' := by
  refine enterA [(0, .slice a l.length c), (1, .int .i64 most)] Tryz.func40 Tryz.ntmps40 ?_
  by_cases hm : l.length ≤ most
  case neg =>
    rw [decide_eq_false (fun h => hm h.1)]
    have hm := Nat.lt_of_not_le hm
    all_goals (refine go ?_; and_intros <;> (try exact trivial) <;> repeat (first | refine fun (Bk : Nat) => ?_ | intro h))
    all_goals refine ret1b Tryz.func40 Tryz.results40 ?_
    all_goals rfl
  all_goals (refine go ?_; and_intros <;> (try exact trivial) <;> repeat (first | refine fun (Bk : Nat) => ?_ | intro h))
  refine J.loop (c := _) (0 : Nat) (fun s => l.length - s) (fun s => [(0, .slice a l.length c), (5, .int .i64 s)]) (fun s => []) (fun s => s ≤ l.length ∧ ∀ i (h : i < l.length), i < s → fewQ 20 l[i]) ?_ sbT sbL ?_
  · exact ⟨Nat.zero_le _, fun i h h2 => absurd h2 (Nat.not_lt_zero _)⟩
  intro k ⟨h1, h2⟩ ih
  by_cases hk : k < l.length
  · obtain ⟨ba, oa, rfl, hra⟩ := SlAt.all hA (by omega)
    have hr := hra k hk
    have hf := fun w' => sFewQ_holds l[k] 20 w'
    have hq2 : ¬ fewQ 20 l[k] → decide (fewFl most l) = false := fun h => decide_eq_false fun h' => h (h'.2 _ (List.getElem_mem hk))
    have ih := fun (h : fewQ 20 l[k]) => ih (k + 1) ⟨hk, fun i hi h3 => by
      rcases Nat.lt_or_ge i k with h4 | h4
      · exact h2 i hi h4
      · obtain rfl : i = k := by omega
        exact h⟩ (by omega)
    clear hra h2
    generalize l[k] = Q at *
    by_cases hq : fewQ 20 Q
    · rw [decide_eq_true hq] at hf
      have ihN := ih hq
      clear ih
      obtain ⟨s, n, d⟩ := Q
      dsimp only [qA, qV] at *
      all_goals (refine go ?_; and_intros <;> (try exact trivial) <;> repeat (first | refine fun (Bk : Nat) => ?_ | intro h))
      repeat' ((first | (apply G.cV (g := 76); rfl; rfl; exact fun w' _ => hf w')) <;> (refine go ?_; and_intros <;> (try exact trivial) <;> repeat (first | refine fun (Bk : Nat) => ?_ | intro h)))
      exact J.fin ihN
    · rw [decide_eq_false hq] at hf
      rw [hq2 hq]
      obtain ⟨s, n, d⟩ := Q
      dsimp only [qA, qV] at *
      all_goals (refine go ?_; and_intros <;> (try exact trivial) <;> repeat (first | refine fun (Bk : Nat) => ?_ | intro h))
      repeat' ((first | (apply G.cV (g := 76); rfl; rfl; exact fun w' _ => hf w')) <;> (refine go ?_; and_intros <;> (try exact trivial) <;> repeat (first | refine fun (Bk : Nat) => ?_ | intro h)))
      all_goals refine ret1b Tryz.func40 Tryz.results40 ?_
      all_goals rfl
  · obtain rfl : k = l.length := by omega
    rw [decide_eq_true (show fewFl most l from ⟨hm, fun q hq => by
      obtain ⟨i, hi, rfl⟩ := List.getElem_of_mem hq
      exact h2 i hi hi⟩)]
    clear ih
    all_goals (refine go ?_; and_intros <;> (try exact trivial) <;> repeat (first | refine fun (Bk : Nat) => ?_ | intro h))
    all_goals refine ret1b Tryz.func40 Tryz.results40 ?_
    all_goals rfl
theorem atF_holds (a : Option Addr) (F : List Rat) (c t : Nat) (w : World) (hA : SlAt w a 3 (F.map qF)) (hl : F.length ≤ 1000000000) :
    Calls Tryz.prog 42 #[.slice a F.length c, .int .i64 t] w fun e w' => e = .returned (qA (rQ (fsq F t))) ∧ Below w.heap.size w w' := by
  refine enterA [(0, .slice a F.length c), (1, .int .i64 t)] Tryz.func42 Tryz.ntmps42 ?_
  by_cases ht : t < F.length
  · obtain ⟨ba, oa, rfl, hra⟩ := SlAt.all hA (by omega)
    have hr := hra t ht
    rw [fsq_lt ht]
    clear hra
    rw [qF] at hr
    generalize rQ F[t] = Q at *
    obtain ⟨s, n, d⟩ := Q
    dsimp only [qA, qV] at *
    all_goals (refine go ?_; and_intros <;> (try exact trivial) <;> repeat (first | refine fun (Bk : Nat) => ?_ | intro h))
    all_goals refine ret1b Tryz.func42 Tryz.results42 ?_
    all_goals rfl
  · rw [fsq_ge (by omega), show rQ 0 = zero3 from rfl]
    all_goals (refine go ?_; and_intros <;> (try exact trivial) <;> repeat (first | refine fun (Bk : Nat) => ?_ | intro h))
    all_goals refine ret1b Tryz.func42 Tryz.results42 ?_
    all_goals rfl
/-- A new slice of reduced numbers. -/
def RetQ (F : Value → Value) (w : World) (L : List Rat) (e : Ending) (w' : World) : Prop := ∃ a' c', e = .returned (F (.slice a' L.length c')) ∧ SlAt w' a' 3 (L.map qF) ∧ (∀ p, a' = some p → w.heap.size ≤ p.block) ∧ Below w.heap.size w w'
theorem retQ_nil {w w' : World} (F : Value → Value) (hb : Below w.heap.size w w') : RetQ F w [] (.returned (F (.slice none 0 0))) w' := ⟨none, 0, rfl, SlAt.nil, (fun p hp => by cases hp), hb⟩
theorem vRouteBad_holds (ka : Option Addr) (K : List Int) (kc : Nat) (fa : Option Addr) (l : List Q3) (fc : Nat) (w : World) (hK : SlAt w ka 1 (K.map isV)) (hA : SlAt w fa 3 (l.map qV)) (hk : kerErr K = 0) (hl : l.length ≤ 4000) (hf : ∀ q ∈ l, fewQ 1000 q) (hb : ¬ ∀ q ∈ l, validQ q) :
    Calls Tryz.prog 41 #[.agg #[.slice ka K.length kc], .slice fa l.length fc] w fun e w' => e = .returned (.tuple #[.slice none 0 0, .int .i64 1]) ∧ Below w.heap.size w w' := by
  have hck := fun w' (hb : Below w.heap.size w w') => kCheck_holds ka K kc w' (hK.below hb)
  rw [hk] at hck
  refine enterA [(0, .agg #[.slice ka K.length kc]), (1, .slice fa l.length fc)] Tryz.func41 Tryz.ntmps41 ?_
  all_goals (refine go ?_; and_intros <;> (try exact trivial) <;> repeat (first | refine fun (Bk : Nat) => ?_ | intro h))
  repeat' ((first | (apply G.cV (g := 62); rfl; rfl; exact fun w' hw' => hck w' hw'.below)) <;> (refine go ?_; and_intros <;> (try exact trivial) <;> repeat (first | refine fun (Bk : Nat) => ?_ | intro h)))
  refine J.loop (c := _) (0 : Nat) (fun s => l.length - s) (fun s => [(1, .slice fa l.length fc), (2, .pointer (some ⟨_, 0, none⟩)), (23, .slice fa l.length fc), (24, .int .i64 l.length), (25, .int .i64 s)]) (fun s => []) (fun s => s ≤ l.length ∧ ∀ i (h : i < l.length), i < s → validQ l[i]) ?_ sbT sbL ?_
  · exact ⟨Nat.zero_le _, fun i h h2 => absurd h2 (Nat.not_lt_zero _)⟩
  intro k ⟨h1, h2⟩ ih
  by_cases hk : k < l.length
  · obtain ⟨ba, oa, rfl, hra⟩ := SlAt.all hA (by omega)
    have hr := hra k hk
    have hq := hf _ (List.getElem_mem hk)
    have hv := fun w' => ratValid_holds l[k] w' (Nat.le_trans hq.1 (by decide)) (Nat.le_trans hq.2 (by decide))
    have ih := fun (h : validQ l[k]) => ih (k + 1) ⟨hk, fun i hi h3 => by
      rcases Nat.lt_or_ge i k with h4 | h4
      · exact h2 i hi h4
      · obtain rfl : i = k := by omega
        exact h⟩ (by omega)
    clear hra h2 hq hck
    generalize l[k] = Q at *
    by_cases hq : validQ Q
    · rw [decide_eq_true hq] at hv
      have ihN := ih hq
      clear ih
      obtain ⟨s, n, d⟩ := Q
      dsimp only [qA, qV] at *
      all_goals (refine go ?_; and_intros <;> (try exact trivial) <;> repeat (first | refine fun (Bk : Nat) => ?_ | intro h))
      repeat' ((first | (apply G.cV (g := 77); rfl; rfl; exact fun w' _ => hv w')) <;> (refine go ?_; and_intros <;> (try exact trivial) <;> repeat (first | refine fun (Bk : Nat) => ?_ | intro h)))
      exact J.fin ihN
    · rw [decide_eq_false hq] at hv
      obtain ⟨s, n, d⟩ := Q
      dsimp only [qA, qV] at *
      all_goals (refine go ?_; and_intros <;> (try exact trivial) <;> repeat (first | refine fun (Bk : Nat) => ?_ | intro h))
      repeat' ((first | (apply G.cV (g := 77); rfl; rfl; exact fun w' _ => hv w')) <;> (refine go ?_; and_intros <;> (try exact trivial) <;> repeat (first | refine fun (Bk : Nat) => ?_ | intro h)))
      all_goals refine ret2b Tryz.func41 Tryz.results41 ?_
      all_goals rfl
  · exact absurd (fun q hq => by
      obtain ⟨i, hi, rfl⟩ := List.getElem_of_mem hq
      exact h2 i hi (by omega)) hb
end Go.Proofs.YtceaamdomkjmlaaGreatDoor
/-
  kernel.Route of valid flows.
-/
namespace Go.Proofs.YtceaamdomkjmlaaGreatDoor
open Go.RowKit Go.Sl Go.Num
theorem zeroF (N : Nat) : flat (fun x : List Value => x) (List.replicate N (qV zero3)) = flat qF (List.replicate N 0) := by
  induction N with
  | zero => rfl
  | succ n ih => rw [List.replicate_succ, List.replicate_succ, flat_cons, flat_cons, ih]; rfl
theorem qF_set {O : List Rat} {i : Nat} (h : i < O.length) {v : Rat} {Q : Q3} (hQ : rQ v = Q) : setL (flat qF O) (0 + i * 3) (qV Q) = flat qF (O.set i v) := by
  rw [Nat.zero_add, ← hQ]; exact flat_set qF_len h v
theorem satQ {w0 w : World} {M : List Row} {B E tot : Nat} {L : List Rat} {n c : Nat} (hw : Sat w0 M w) (hm : Row.blk B E (flat qF L) tot ∈ M) (hn : L.length = n) (F : Value → Value) : RetQ F w0 L (.returned (F (.slice (some ⟨B, 0, none⟩) n c))) w := by
  have h1 := blkSlA (f := qF) (sz := 3) (l := L) hw qF_len hm
  exact ⟨some ⟨B, 0, none⟩, c, by rw [hn], h1.1, (fun p hp => by cases hp; exact h1.2), hw.below⟩
set_option maxHeartbeats 4000000 in
theorem vRoute_holds (ka : Option Addr) (K : List Int) (kc : Nat) (fa : Option Addr) (F : List Rat) (fc : Nat) (w : World) (hK : SlAt w ka 1 (K.map isV)) (hA : SlAt w fa 3 (F.map qF)) (hk : kerErr K = 0) (hl : F.length ≤ 4000)
    (D M : Nat) (hD : 0 < D) (hF : ∀ t, Fr D M (fsq F t)) (kx : Nat) (hkx : kx ≤ 1000) (hb1 : (sumL K).toNat * D < 256 ^ kx) (hb2 : (sumL K).toNat * M < 256 ^ kx) :
    Calls Tryz.prog 41 #[.agg #[.slice ka K.length kc], .slice fa F.length fc] w (RetQ (fun v => .tuple #[v, .int .i64 0]) w (routeL K F)) := by
  have hck := fun w' (hb : Below w.heap.size w w') => kCheck_holds ka K kc w' (hK.below hb)
  rw [hk] at hck
  have kk := ker_of hk
  have ks := kk.sum
  have kl := kk.len
  have htt := fun w' (hb : Below w.heap.size w w') => total_holds ka K kc w' (hK.below hb) kk.wOk
  obtain ⟨b1, o1, rfl, hrk⟩ := SlAt.all hK (by omega)
  have hDS : D ≤ (sumL K).toNat * D := Nat.le_mul_of_pos_left _ (by omega)
  have hMS : M ≤ (sumL K).toNat * M := Nat.le_mul_of_pos_left _ (by omega)
  have fwF : ∀ t, fewQ 1000 (rQ (fsq F t)) := fun t => fewQ_le ((hF t).few hD (Nat.lt_of_le_of_lt hDS hb1) (Nat.lt_of_le_of_lt hMS hb2)) hkx
  have hSD : 0 < (sumL K).toNat * D := by omega
  refine enterA [(0, .agg #[.slice (some ⟨b1, o1, none⟩) K.length kc]), (1, .slice fa F.length fc)] Tryz.func41 Tryz.ntmps41 ?_
  all_goals (refine go ?_; and_intros <;> (try exact trivial) <;> repeat (first | refine fun (Bk : Nat) => ?_ | intro h))
  repeat' ((first | (apply G.cV (g := 62); rfl; rfl; exact fun w' hw' => hck w' hw'.below)) <;> (refine go ?_; and_intros <;> (try exact trivial) <;> repeat (first | refine fun (Bk : Nat) => ?_ | intro h)))
  refine J.loop (c := _) (0 : Nat) (fun s => F.length - s) (fun s => [(1, .slice fa F.length fc), (2, .pointer (some ⟨_, 0, none⟩)), (23, .slice fa F.length fc), (24, .int .i64 F.length), (25, .int .i64 s)]) (fun s => [.blk _ 41 [.slice (some ⟨b1, o1, none⟩) K.length kc] 1]) (fun s => s ≤ F.length) ?_ sbT sbL ?_
  · exact Nat.zero_le _
  intro k h1 ih
  by_cases hk' : k < F.length
  · obtain ⟨ba, oa, rfl, hra⟩ := SlAt.all hA (by omega)
    have hr := hra k hk'
    have hq := fwF k
    rw [fsq_lt hk'] at hq
    have hv := fun w' => ratValid_holds (rQ F[k]) w' (Nat.le_trans hq.1 (by decide)) (Nat.le_trans hq.2 (by decide))
    have ih := ih (k + 1) hk' (by omega)
    simp only [decide_eq_true (rQ_valid F[k])] at hv
    clear hra hck hq
    rw [qF] at hr
    generalize rQ F[k] = Q at *
    obtain ⟨s, n, d⟩ := Q
    dsimp only [qA, qV] at hv hr
    all_goals (refine go ?_; and_intros <;> (try exact trivial) <;> repeat (first | refine fun (Bk : Nat) => ?_ | intro h))
    repeat' ((first | (apply G.cV (g := 77); rfl; rfl; exact fun w' _ => hv w')) <;> (refine go ?_; and_intros <;> (try exact trivial) <;> repeat (first | refine fun (Bk : Nat) => ?_ | intro h)))
    exact J.fin ih
  obtain rfl : k = F.length := by omega
  clear ih hck
  by_cases h0 : F.length = 0
  · rw [show routeL K F = [] from by rw [routeL, if_pos h0]]
    all_goals (refine go ?_; and_intros <;> (try exact trivial) <;> repeat (first | refine fun (Bk : Nat) => ?_ | intro h))
    (refine ret2 Tryz.func41 Tryz.results41 ?_; intro w' hw)
    exact retQ_nil (fun v => .tuple #[v, .int .i64 0]) hw.below
  rw [show routeL K F = conN K F K.length from by rw [routeL, if_neg h0]]
  obtain ⟨bf, of, rfl, hrf⟩ := SlAt.all hA (by omega)
  have hcl := conN_len K F
  have hst := fun i j hi hj t => step_bnd kk (F := F) (by omega) hF (i := i) (j := j) hi hj t
  have hpt := fun i x (hx : Fr D M x) => pk_term kk hx i
  have hN : ((F.length : Int) + K.length - 1) = ((F.length + K.length - 1 : Nat) : Int) := by omega
  obtain ⟨N, hNN⟩ : ∃ N, N = F.length + K.length - 1 := ⟨_, rfl⟩
  rw [← hNN] at hN hcl
  all_goals (refine go ?_; and_intros <;> (try exact trivial) <;> repeat (first | refine fun (Bk : Nat) => ?_ | intro h))
  rw [hN]
  all_goals (refine go ?_; and_intros <;> (try exact trivial) <;> repeat (first | refine fun (Bk : Nat) => ?_ | intro h))
  repeat' ((first | (apply G.make (n := N) (qV zero3); rfl; rfl; rfl; rfl; rfl; rfl; rfl; rfl; omega; omega; intro B) | (apply G.cV (g := 66); rfl; rfl; exact fun w' hw' => htt w' hw'.below)) <;> (refine go ?_; and_intros <;> (try exact trivial) <;> repeat (first | refine fun (Bk : Nat) => ?_ | intro h)))
  rw [zeroF, show List.replicate N (0 : Rat) = conN K F 0 from by rw [conN, hNN]]
  refine J.loop (c := _) (0 : Nat) (fun s => K.length - s) (fun s => [(1, .slice (some ⟨bf, of, none⟩) F.length fc), (9, .slice (some ⟨B, 0, none⟩) N N), (10, .int .i64 (sumL K)), (47, .slice (some ⟨b1, o1, none⟩) K.length kc), (48, .int .i64 K.length), (49, .int .i64 s)]) (fun s => [.blk B 78 (flat qF (conN K F s)) (N * 3)]) (fun s => s ≤ K.length) ?_ sbT sbL ?_
  · exact Nat.zero_le _
  intro i i1 ih
  by_cases hi : i < K.length
  case neg =>
    obtain rfl : i = K.length := by omega
    clear ih
    all_goals (refine go ?_; and_intros <;> (try exact trivial) <;> repeat (first | refine fun (Bk : Nat) => ?_ | intro h))
    (refine ret2 Tryz.func41 Tryz.results41 ?_; intro w' hw)
    exact satQ hw (by exact mm) (hcl _) fun v => .tuple #[v, .int .i64 0]
  have ih := ih (i + 1) hi (by omega)
  have hri := hrk i hi
  have hco := co_lt hi
  rw [← hco] at hri
  have hc0 := co_nn (fun w hw => (kk.nn w hw).1) (l := K) i
  have hc1 : co K i ≤ 999999999999999 := by rw [hco]; exact (kk.nn _ (List.getElem_mem hi)).2
  have hc2 : co K i ≤ sumL K := by rw [hco]; exact elem_le (fun w hw => (kk.nn w hw).1) _ (List.getElem_mem hi)
  have hpk : pk K i = ((co K i : Int) : Rat) / ((sumL K : Int) : Rat) := rfl
  have hp1 := hpt i
  have hs1 := fun j hj => hst i j hi hj (i + j)
  have hcli := hcl i
  rw [conN] at ih
  by_cases hz : co K i = 0
  · rw [if_pos hz] at ih
    rw [hz] at hri
    all_goals (refine go ?_; and_intros <;> (try exact trivial) <;> repeat (first | refine fun (Bk : Nat) => ?_ | intro h))
    repeat' ((first | (apply G.ix (i := i); rfl; rfl; rfl; omega; rfl)) <;> (refine go ?_; and_intros <;> (try exact trivial) <;> repeat (first | refine fun (Bk : Nat) => ?_ | intro h)))
    exact J.fin ih
  rw [if_neg hz] at ih
  have hprt := fun w' => vPart_holds (co K i) (sumL K) w' (by omega) (by omega) (by omega) (by omega) (by omega)
  have fwP : fewQ 16 (rQ (pk K i)) := by rw [hpk]; exact fewQ_div (by omega) (by omega) (by omega) (by omega) (by omega)
  rw [← hpk] at hprt
  clear hpk hco hrk hcl hst hpt
  generalize conN K F i = O0 at *
  generalize pk K i = c at *
  generalize co K i = wt at *
  all_goals (refine go ?_; and_intros <;> (try exact trivial) <;> repeat (first | refine fun (Bk : Nat) => ?_ | intro h))
  repeat' ((first | (apply G.ix (i := i); rfl; rfl; rfl; omega; rfl)) <;> (refine go ?_; and_intros <;> (try exact trivial) <;> repeat (first | refine fun (Bk : Nat) => ?_ | intro h)))
  refine J.loop (c := _) (0 : Nat) (fun s => F.length - s) (fun s => [(1, .slice (some ⟨bf, of, none⟩) F.length fc), (9, .slice (some ⟨B, 0, none⟩) N N), (10, .int .i64 (sumL K)), (11, .int .i64 i), (12, .int .i64 wt), (47, .slice (some ⟨b1, o1, none⟩) K.length kc), (48, .int .i64 K.length), (49, .int .i64 i), (56, .slice (some ⟨bf, of, none⟩) F.length fc), (57, .int .i64 F.length), (58, .int .i64 s)]) (fun s => [.blk B 78 (flat qF (rowN c i F O0 s)) (N * 3)]) (fun s => s ≤ F.length) ?_ sbT sbL ?_
  · exact Nat.zero_le _
  intro j j1 ih2
  by_cases hj : j < F.length
  case neg =>
    obtain rfl : j = F.length := by omega
    clear ih2
    all_goals (refine go ?_; and_intros <;> (try exact trivial) <;> repeat (first | refine fun (Bk : Nat) => ?_ | intro h))
    exact J.fin ih
  have ih2 := ih2 (j + 1) hj (by omega)
  have hrj := hrf j hj
  rw [rowN, Nat.add_comm i j] at ih2
  have fwO := fewQ_le ((hs1 j (by omega)).few hSD hb1 hb2) hkx
  have hfl := fsq_lt hj
  have fwJ := fwF j
  rw [Nat.add_comm i j] at fwO
  have fwX := fewQ_le (((hp1 _ (hF j)).le (Nat.mul_le_mul_right M (show wt.toNat ≤ (sumL K).toNat by omega))).few hSD hb1 hb2) hkx
  have hol : (rowN c i F O0 j).length = N := by rw [rowN_len]; exact hcli
  rw [← hfl] at hrj
  clear hrf ih hs1 hp1 fwF hfl
  generalize rowN c i F O0 j = O at *
  have hog : O[j + i]? = some (fsq O (j + i)) := by rw [fsq_lt (by omega)]; exact List.getElem?_eq_getElem _
  generalize fsq O (j + i) = x at *
  generalize fsq F j = y at *
  have hml := fun w' => ratMul_holds (rQ c) (rQ y) w' (Nat.le_trans fwP.1 (by decide)) (Nat.le_trans fwP.2 (by decide)) (Nat.le_trans fwJ.1 (by decide)) (Nat.le_trans fwJ.2 (by decide))
  have had := fun w' => ratAdd_holds (rQ x) (rQ (c * y)) w' (Nat.le_trans fwO.1 (by decide)) (Nat.le_trans fwO.2 (by decide)) (Nat.le_trans fwX.1 (by decide)) (Nat.le_trans fwX.2 (by decide))
  simp only [qR_rQ] at hml had
  have hset := fun Q (hQ : rQ (x + c * y) = Q) => qF_set (O := O) (i := j + i) (by omega) hQ
  have hld := fun {C : Ctx} {M} [TAgg C.P 78 3] (hm : Row.blk B 78 (flat qF O) (N * 3) ∈ M) => LdV.flat (C := C) (M := M) (T := 78) (n := 3) qF_len hm hog rfl
  have hln : 0 + (j + i) * 3 + 3 ≤ (flat qF O).length := by rw [flat_len qF_len]; omega
  clear fwP fwJ fwO fwX hog
  rw [qF] at hrj hld
  generalize hQ1 : rQ (x + c * y) = Q1 at *
  have hset := hset Q1 rfl
  generalize rQ x = Q2 at *
  generalize rQ y = Q3' at *
  generalize rQ (c * y) = Q4 at *
  generalize rQ c = Q5 at *
  generalize O.set (j + i) (x + c * y) = O2 at *
  obtain ⟨s2, u2, v2⟩ := Q2
  obtain ⟨s3, u3, v3⟩ := Q3'
  dsimp only [qA, qV] at *
  all_goals (refine go ?_; and_intros <;> (try exact trivial) <;> repeat (first | refine fun (Bk : Nat) => ?_ | intro h))
  repeat' ((first | (apply J.regA (.q 0 <| .q 1 <| .q 2 <| .q 3 <| .q 4 <| .q 5 <| .q 6 <| .q 7 <| .q 8 <| .q 9 <| .q 10 <| .q 11 <| .e 12 <| .q 13 <| .e 14 <| .e 15 <| .q 16 <| .r 17 <| .nil); exact Tryz.mixed; decide +kernel) | (apply G.ix (i := j); rfl; rfl; rfl; omega; rfl) | (apply G.ix (i := j + i); rfl; rfl; omega; omega; rfl) | (apply G.ld; rfl; exact hld mm; rfl) | (apply G.cV (g := 78); rfl; rfl; exact fun w' _ => hprt w') | (apply G.cV (g := 44); rfl; rfl; exact fun w' _ => hml w') | (apply G.cV (g := 36); rfl; rfl; exact fun w' _ => had w') | (apply G.sA; rfl; rfl; rfl; (repeat (first | exact RAt.head | apply RAt.tail)); rfl; rfl; exact hln; exact hset)) <;> (refine go ?_; and_intros <;> (try exact trivial) <;> repeat (first | refine fun (Bk : Nat) => ?_ | intro h)))
  exact J.fin ih2
end Go.Proofs.YtceaamdomkjmlaaGreatDoor
/-
  Plain laws of routing from gauge to gauge, and of what arrives in an interval.
-/
namespace Go.Proofs.YtceaamdomkjmlaaGreatDoor
open Go.RowKit Go.Sl Go.Num
theorem compE_err {a b : List Int} (h : (compE a b).2 ≠ 0) : (compE a b).1 = [] := by
  rw [compE] at h ⊢
  split
  · rfl
  split
  · rfl
  split
  · rfl
  split
  · rfl
  rename_i h1 h2 h3 h4
  rw [if_neg h1, if_neg h2, if_neg h3, if_neg h4] at h
  exact absurd rfl h
theorem foldK_err : ∀ (m : List (List Int)) (s : List Int × Int), (s.2 ≠ 0 → s.1 = []) → (foldK s m).2 ≠ 0 → (foldK s m).1 = []
  | [], s, h, h0 => h h0
  | x :: m, s, h, h0 => by
    rw [foldK] at h0 ⊢
    split
    · rename_i h1; exact h h1
    · rename_i h1; rw [if_neg h1] at h0
      exact foldK_err m _ compE_err h0
theorem along_err {l : List Rch} {fr to : Int} (h0 : (alongE l fr to).2 ≠ 0) : (alongE l fr to).1 = [] := by
  rw [alongE] at h0 ⊢
  split
  · rfl
  split
  · rename_i h1 h2; rw [if_neg h1, if_pos h2] at h0; exact absurd rfl h0
  · rename_i h1 h2; rw [if_neg h1, if_neg h2] at h0
    exact foldK_err _ _ (fun h => absurd rfl h) h0
/-- The flows after some gauges. -/
def rtN (l : List Rch) (g : Int) (F : List Rat) : Nat → List Rat
  | 0 => F
  | i + 1 => routeL (ker1 l (itr l i g)) (rtN l g F i)
theorem stepR_snoc (w : List Int) : ∀ (r : List (List Int)) (f : Nat → Rat), stepR (r ++ [w]) f = cv (pk w) (stepR r f)
  | [], f => rfl
  | x :: r, f => by rw [List.cons_append, stepR, stepR, stepR_snoc w r]
theorem kers_snoc (l : List Rch) (d : Nat) (g : Int) : kers l (d + 1) g = kers l d g ++ [ker1 l (itr l d g)] := by
  rw [kers_add l d 1, show kers l 1 (itr l d g) = [ker1 l (itr l d g)] from rfl]
theorem rtN_fsq (l : List Rch) (g : Int) (F : List Rat) : ∀ i t, fsq (rtN l g F i) t = stepR (kers l i g) (fsq F) t
  | 0, t => rfl
  | i + 1, t => by
    rw [rtN, route_fsq, kers_snoc, stepR_snoc, cv_comm _ t (pk _), cv_comm _ t (pk _)]
    exact cv_congr (fun _ => rfl) t fun s => rtN_fsq l g F i s
theorem routeL_le {K : List Int} (F : List Rat) (hK : 1 ≤ K.length ∧ K.length ≤ 400) : (routeL K F).length ≤ F.length + 399 := by
  rw [routeL]
  split
  · exact Nat.zero_le _
  · rw [conN_len]; omega
theorem rtN_len {l : List Rch} (hR : Riv l) {g : Int} (F : List Rat) (h1 : g < l.length) {d : Nat} (hd : 0 ≤ itr l d g) (h0 : -1 ≤ g) : ∀ {i : Nat}, i ≤ d → (rtN l g F i).length ≤ F.length + 399 * i
  | 0, _ => by rw [rtN]; omega
  | i + 1, h => by
    have h2 := rtN_len hR F h1 hd h0 (i := i) (by omega)
    have h3 := itr_pos hd (show i ≤ d by omega)
    have h4 := hR.in_ i h1 h0
    have h5 := itr_pos hd (show i + 1 ≤ d by omega)
    rw [itr_succ] at h5
    have h6 := (ker_of (hR.pos ⟨h3, h4.2⟩ h5).2).len
    have h7 := routeL_le (rtN l g F i) h6
    have h8 := Nat.add_le_add_right h2 399
    rw [rtN, Nat.mul_succ, ← Nat.add_assoc]
    exact Nat.le_trans h7 h8
theorem rtN_bnd {l : List Rch} (hR : Riv l) {g : Int} {F : List Rat} (h1 : g < l.length) {d : Nat} (hd : 0 ≤ itr l d g) (h0 : -1 ≤ g) {D0 M0 p : Nat} (hD : 0 < D0) (hDp : D0 ≤ 256 ^ p) (hMp : M0 ≤ 256 ^ p) (hF : ∀ t, Fr D0 M0 (fsq F t)) : ∀ {i : Nat}, i ≤ d → ∃ D M, 0 < D ∧ (∀ t, Fr D M (fsq (rtN l g F i) t)) ∧ D ≤ 256 ^ (p + 7 * i) ∧ M ≤ 256 ^ (p + 7 * i)
  | 0, _ => ⟨D0, M0, hD, hF, hDp, hMp⟩
  | i + 1, h => by
    obtain ⟨D, M, d1, d2, d3, d4⟩ := rtN_bnd hR h1 hd h0 hD hDp hMp hF (i := i) (by omega)
    have h3 := itr_pos hd (show i ≤ d by omega)
    have h4 := hR.in_ i h1 h0
    have h5 := itr_pos hd (show i + 1 ≤ d by omega)
    rw [itr_succ] at h5
    have hk := ker_of (hR.pos ⟨h3, h4.2⟩ h5).2
    have h6 := hk.sum
    have h7 : (sumL (ker1 l (itr l i g))).toNat ≤ 256 ^ 7 := Nat.le_trans (show _ ≤ 999999999999999 by omega) (by decide)
    have e : 256 ^ (p + 7 * (i + 1)) = 256 ^ 7 * 256 ^ (p + 7 * i) := by rw [show p + 7 * (i + 1) = 7 + (p + 7 * i) by omega, Nat.pow_add]
    rw [e]
    refine ⟨(sumL (ker1 l (itr l i g))).toNat * D, (sumL (ker1 l (itr l i g))).toNat * M, Nat.mul_pos (by omega) d1, fun t => route_bnd hk d2 t, Nat.mul_le_mul h7 d3, Nat.mul_le_mul h7 d4⟩
theorem own_want {l : List Rch} (h : rivErr l = 0) {g to : Int} (h1 : 0 ≤ g ∧ g < l.length) (h2 : 0 ≤ to ∧ to < l.length) {d : Nat} (hd : itr l d g = to) (he : (alongE l g to).2 = 0) (F : List Rat) (t : Nat) : fsq (rtN l g F d) t = fsq (routeL (alongE l g to).1 F) t := by
  obtain ⟨Y, y1, y2, y3⟩ := along_pk h h1 h2 hd he
  rw [rtN_fsq, stepR_eq, route_fsq, y2]
  exact cv_congr (fun _ => rfl) t fun s => by rw [pk_red y1, y3]
theorem wAt_arr {K : List Int} (h : Ker K) {fr to : Int} (h0 : 0 ≤ fr) (h1 : fr ≤ to) (t : Nat) : wAt (arrL K fr to) t = wIn K fr to t := by
  have hl := h.len
  obtain ⟨a, pa, a1, a2⟩ := arrL_ok (k := K) (fr := fr) (to := to)
  rw [pa.wAt]
  rw [t0Of] at a2 ⊢
  by_cases hs : t + K.length ≤ fr
  · rw [wIn_early K t hs]; split <;> rfl
  · by_cases hs2 : to ≤ t
    · rw [wIn_late K t hs2]; split <;> rfl
    · rw [if_pos]; omega
/-- What arrives in an interval is the sum of the flows, each with its weight. -/
theorem arrive_all {K : List Int} (h : Ker K) {fr to : Int} (h0 : 0 ≤ fr) (h1 : fr ≤ to) (F : List Rat) (N : Nat) (hN : (routeL K F).length ≤ N) :
    rS (fun t : Nat => ind fr to t * fsq (routeL K F) t) 0 N = rS (fun s : Nat => fsq F s * (((wAt (arrL K fr to) s : Int) : Rat) / ((sumL K : Int) : Rat))) 0 F.length := by
  rw [rS_congr (h := fun t : Nat => ind fr to t * cv (pk K) (fsq F) t) N 0 fun t _ _ => by rw [route_fsq]]
  rw [arrive_sum (fr := fr) (to := to) F N fun hf => by rw [routeL_len hf] at hN; have := h.len; omega]
  exact rS_congr _ 0 fun s _ _ => by rw [wAt_arr h h0 h1]
theorem few_parts {k : Nat} {x : Rat} (h : fewQ k (rQ x)) : x.num.natAbs ≤ 256 ^ k ∧ x.den ≤ 256 ^ k := by
  rw [rQ] at h
  split at h
  · rename_i h0
    have hx : x = 0 := Rat.num_eq_zero.1 h0
    subst hx
    exact ⟨Nat.zero_le _, Nat.pos_of_ne_zero (by simp)⟩
  · exact ⟨Nat.le_of_lt (nB_lt_pow h.1), Nat.le_of_lt (nB_lt_pow h.2)⟩
theorem pow_lt {S D q r : Nat} (h1 : S ≤ 256 ^ 7) (h2 : D ≤ 256 ^ q) (hq : 7 + q < r) : S * D < 256 ^ r := by
  have h3 := Nat.mul_le_mul h1 h2
  rw [← Nat.pow_add] at h3
  exact Nat.lt_of_le_of_lt h3 (Nat.pow_lt_pow_right (by decide) hq)
theorem flows_Fr {F : List Rat} {p : Nat} (hp : 260 ≤ p) (hl : F.length ≤ 12) (hf : ∀ x ∈ F, fewQ 20 (rQ x)) : ∃ D M, 0 < D ∧ D ≤ 256 ^ p ∧ M ≤ 256 ^ p ∧ ∀ t, Fr D M (fsq F t) := by
  have h1 := denP_lt (k := 20) fun x hx => (few_parts (hf x hx)).2
  have h2 := denP_Fr (m := 256 ^ 20) (F := F) fun x hx => (few_parts (hf x hx)).1
  have h4 := denP_pos F
  have h5 := Nat.mul_le_mul_left (256 ^ 20) h1
  rw [← Nat.pow_add] at h5
  exact ⟨denP F, 256 ^ 20 * denP F, h4, Nat.le_trans h1 (Nat.pow_le_pow_right (by decide) (by omega)), Nat.le_trans h5 (Nat.pow_le_pow_right (by decide) (by omega)), h2⟩
end Go.Proofs.YtceaamdomkjmlaaGreatDoor
