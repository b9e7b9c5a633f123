/-
  Contracts of kernels: reduced lists.
-/
import Derived.Test.YtceaamdomkjmlaaGreatDoorNA15
set_option linter.unusedVariables false
set_option linter.unusedSimpArgs false
set_option linter.unusedSectionVars false
namespace Go.Proofs.YtceaamdomkjmlaaGreatDoor
open Go.RowKit Go.Sl Go.Num
theorem fill_set {R : List Int} {i : Nat} (h : i < R.length) : (R.take i ++ List.replicate (R.length - i) 0).set i R[i] = R.take (i + 1) ++ List.replicate (R.length - (i + 1)) 0 := by
  rw [show R.length - i = (R.length - (i + 1)) + 1 by omega, List.replicate_succ]
  rw [List.take_succ_eq_append_getElem h, List.append_assoc, List.singleton_append]
  conv => lhs; rw [List.set_append_right _ _ (by rw [List.length_take]; omega)]
  rw [show i - (R.take i).length = 0 by rw [List.length_take]; omega, List.set_cons_zero]
theorem fill_len {R : List Int} {i : Nat} (h : i ≤ R.length) : (R.take i ++ List.replicate (R.length - i) (0 : Int)).length = R.length := by
  rw [List.length_append, List.length_take, List.length_replicate]; omega
theorem flat_zero (N : Nat) : flat (fun x : List Value => x) (List.replicate N [Value.int .i64 0]) = flat isV (List.replicate N 0) := by
  induction N with
  | zero => rfl
  | succ n ih => rw [List.replicate_succ, List.replicate_succ, flat_cons, flat_cons, ih]; rfl
theorem contF_le {w : Int} {g : Nat} (h1 : 0 ≤ w ∧ w ≤ 999999999999999) (h2 : g ≤ 999999999999999) : Nat.gcd g w.toNat ≤ 999999999999999 := by
  rcases Nat.eq_zero_or_pos g with rfl | h
  · rw [Nat.gcd_zero_left]; omega
  · exact Nat.le_trans (Nat.gcd_le_left _ h) h2
theorem red_get {k : List Int} {i : Nat} (h : i < (red k).length) : ∃ h2 : i < k.length, (red k)[i] = k[i] / (contF 0 k : Int) := by
  have h2 : i < k.length := by rw [red, List.length_map, List.length_take] at h; omega
  exact ⟨h2, by simp only [red, List.getElem_map, List.getElem_take]⟩
theorem red_len {k : List Int} (h : Pos k) : (red k).length = lastF 0 0 k := by
  obtain ⟨n, h1, h2, _⟩ := h.last
  rw [red, List.length_map, List.length_take]; omega
/-- What a call returns that lays a list of numbers anew, within a value. -/
def RetI (F : Value → Value) (w : World) (L : List Int) (e : Ending) (w' : World) : Prop := ∃ a' c', e = .returned (F (.slice a' L.length c')) ∧ SlAt w' a' 1 (L.map isV) ∧ (∀ p, a' = some p → w.heap.size ≤ p.block) ∧ Below w.heap.size w w'
theorem vReduced_holds (a : Option Addr) (k : List Int) (c : Nat) (w : World) (hA : SlAt w a 1 (k.map isV)) (hk : wOk k) (hp : Pos k) :
    Calls Tryz.prog 65 #[.agg #[.slice a k.length c]] w (RetI (fun v => .agg #[v]) w (red k)) := by
  have hl := hk.2
  have hlen := red_len hp
  have hC := hp.cont
  have hget := fun i h => red_get (k := k) (i := i) h
  generalize red k = R at *
  generalize hT : contF 0 k = T at *
  generalize hL : lastF 0 0 k = L at *
  refine enterA [(0, .agg #[.slice a k.length c])] Tryz.func65 Tryz.ntmps65 ?_
  all_goals (refine go ?_; and_intros <;> (try exact trivial) <;> repeat (first | refine fun (Bk : Nat) => ?_ | intro h))
  refine J.loop (c := _) ((0, 0, 0) : Nat × Nat × Nat) (fun s => k.length - s.1) (fun s => [(1, .pointer (some ⟨_, 0, none⟩)), (2, .pointer (some ⟨_, 0, none⟩)), (3, .int .i64 s.2.1), (4, .int .i64 s.2.2), (10, .slice a k.length c), (11, .int .i64 k.length), (12, .int .i64 s.1)]) (fun s => [.blk _ 41 [.slice none 0 0] 1, .blk _ 41 [.slice a k.length c] 1]) (fun s => s.1 ≤ k.length ∧ contF s.2.1 (k.drop s.1) = T ∧ lastF s.1 s.2.2 (k.drop s.1) = L ∧ s.2.1 ≤ 999999999999999 ∧ s.2.2 ≤ s.1) ?_ sbT sbL ?_
  · exact ⟨Nat.zero_le _, hT, hL, Nat.zero_le _, Nat.le_refl _⟩
  clear hT hL
  intro ⟨i, g, n⟩ ⟨h1, h2, h3, h4, h5⟩ ih
  dsimp only at h1 h2 h3 h4 h5 ⊢
  by_cases hi : i < k.length
  · obtain ⟨ba, oa, rfl, hra⟩ := SlAt.all hA (by omega)
    have hri := hra i hi
    have hw := hk.1 _ (List.getElem_mem hi)
    rw [List.drop_eq_getElem_cons hi, contF] at h2
    rw [List.drop_eq_getElem_cons hi, lastF] at h3
    clear hra hk hget
    generalize k[i] = z at *
    dsimp only [isV] at hri
    obtain ⟨z, rfl⟩ : ∃ n : Nat, z = n := ⟨z.toNat, by omega⟩
    rw [Int.toNat_natCast] at h2
    have hd := fun w' => divisor_holds g z w' h4 (by omega)
    have hg := contF_le hw h4
    rw [Int.toNat_natCast] at hg
    by_cases hz : 0 < (z : Int)
    · rw [if_pos hz] at h3
      have ih := ih (i + 1, Nat.gcd g z, i + 1) ⟨hi, h2, h3, hg, Nat.le_refl _⟩ (by dsimp only; omega)
      all_goals (refine go ?_; and_intros <;> (try exact trivial) <;> repeat (first | refine fun (Bk : Nat) => ?_ | intro h))
      repeat' ((first | (apply G.cV (g := 86); rfl; rfl; exact fun w' _ => hd w')) <;> (refine go ?_; and_intros <;> (try exact trivial) <;> repeat (first | refine fun (Bk : Nat) => ?_ | intro h)))
      exact J.fin ih
    · rw [if_neg hz] at h3
      have ih := ih (i + 1, Nat.gcd g z, n) ⟨hi, h2, h3, hg, by dsimp only; omega⟩ (by dsimp only; omega)
      all_goals (refine go ?_; and_intros <;> (try exact trivial) <;> repeat (first | refine fun (Bk : Nat) => ?_ | intro h))
      repeat' ((first | (apply G.cV (g := 86); rfl; rfl; exact fun w' _ => hd w')) <;> (refine go ?_; and_intros <;> (try exact trivial) <;> repeat (first | refine fun (Bk : Nat) => ?_ | intro h)))
      exact J.fin ih
  · obtain rfl : i = k.length := by omega
    rw [List.drop_length, contF] at h2
    rw [List.drop_length, lastF] at h3
    subst h2 h3
    clear ih
    rw [← hlen]
    all_goals (refine go ?_; and_intros <;> (try exact trivial) <;> repeat (first | refine fun (Bk : Nat) => ?_ | intro h))
    repeat' ((first | (apply G.make (n := R.length) [.int .i64 0]; rfl; rfl; rfl; rfl; rfl; rfl; rfl; rfl; omega; omega; intro B)) <;> (refine go ?_; and_intros <;> (try exact trivial) <;> repeat (first | refine fun (Bk : Nat) => ?_ | intro h)))
    rw [flat_zero]
    refine J.loop (c := _) (0 : Nat) (fun s => R.length - s) (fun s => [(1, .pointer (some ⟨_, 0, none⟩)), (2, .pointer (some ⟨_, 0, none⟩)), (3, .int .i64 g), (7, .slice (some ⟨B, 0, none⟩) R.length R.length), (28, .int .i64 R.length), (29, .int .i64 s)]) (fun s => [.blk B 3 (flat isV (R.take s ++ List.replicate (R.length - s) 0)) (R.length * 1), .blk _ 41 [.slice none 0 0] 1, .blk _ 41 [.slice a k.length c] 1]) (fun s => s ≤ R.length) ?_ sbT sbL ?_
    · exact Nat.zero_le _
    intro i hR ih
    by_cases hi : i < R.length
    · obtain ⟨h6, h7⟩ := hget i hi
      obtain ⟨ba, oa, rfl, hra⟩ := SlAt.all hA (by omega)
      have hri := hra i h6
      have hw := hk.1 _ (List.getElem_mem h6)
      have hset := is_set (p := R.take i ++ List.replicate (R.length - i) 0) (j := i) (v := R[i]) (by rw [fill_len hR]; exact hi)
      rw [fill_set hi] at hset
      have ih := ih (i + 1) hi (by omega)
      rw [h7] at hset
      have hfl : 0 + i * 1 < (flat isV (R.take i ++ List.replicate (R.length - i) 0)).length := by rw [isLen, fill_len hR]; omega
      clear hra hk hget h7
      generalize k[i] = z at *
      dsimp only [isV] at hri
      all_goals (refine go ?_; and_intros <;> (try exact trivial) <;> repeat (first | refine fun (Bk : Nat) => ?_ | intro h))
      repeat' ((first | (apply G.s1; rfl; rfl; rfl; (repeat (first | exact RAt.head | apply RAt.tail)); exact ⟨rfl, rfl⟩; exact hfl; exact hset)) <;> (refine go ?_; and_intros <;> (try exact trivial) <;> repeat (first | refine fun (Bk : Nat) => ?_ | intro h)))
      exact J.fin ih
    · obtain rfl : i = R.length := by omega
      rw [List.take_length, Nat.sub_self, List.replicate_zero, List.append_nil]
      clear ih
      all_goals (refine go ?_; and_intros <;> (try exact trivial) <;> repeat (first | refine fun (Bk : Nat) => ?_ | intro h))
      (refine ret1 Tryz.func65 Tryz.results65 ?_; intro w' hw)
      have hm := blkSlA hw isV_len (l := R)
      exact ⟨_, _, rfl, hm.1, fun p hp => by cases hp; exact hm.2, hw.below⟩
end Go.Proofs.YtceaamdomkjmlaaGreatDoor
/-
  Contracts of kernels: reduced lists by the specification; Reduce and Delay of both.
-/
namespace Go.Proofs.YtceaamdomkjmlaaGreatDoor
open Go.RowKit Go.Sl Go.Num
theorem satI {w0 w : World} {M : List Row} {i E base : Nat} {a : Option Addr} {n c : Nat} {l : List Int} (hw : Sat w0 M w) (hm : M[i]? = some (.own base (.slice a n c) E 1 n (flat isV l))) (hn : l.length = n) (F : Value → Value) : RetI F w0 l (.returned (F (.slice a n c))) w := by
  have hmem := List.mem_of_getElem? hm
  exact ⟨a, c, by rw [hn], SlAt.ofOwn isV_len (hw.hold _ hmem) hn, fun p hp => ((hw.old _ hmem).2 p.block (by subst hp; rfl)).1, hw.below⟩
theorem retI_nil {w w' : World} (F : Value → Value) (hb : Below w.heap.size w w') : RetI F w [] (.returned (F (.slice none 0 0))) w' := ⟨none, 0, rfl, SlAt.nil, (fun p hp => by cases hp), hb⟩
theorem rReduced_holds (a : Option Addr) (k : List Int) (c : Nat) (w : World) (hA : SlAt w a 1 (k.map isV)) (hk : wOk k) (hp : Pos k) :
    Calls Tryz.prog 82 #[.slice a k.length c] w (RetI (fun v => v) w (red k)) := by
  have hl := hk.2
  have hlen := red_len hp
  have hC := hp.cont
  have hget := fun i h => red_get (k := k) (i := i) h
  generalize red k = R at *
  generalize hT : contF 0 k = T at *
  generalize hL : lastF 0 0 k = L at *
  refine enterA [(0, .slice a k.length c)] Tryz.func82 Tryz.ntmps82 ?_
  all_goals (refine go ?_; and_intros <;> (try exact trivial) <;> repeat (first | refine fun (Bk : Nat) => ?_ | intro h))
  refine J.loop (c := _) ((0, 0, 0) : Nat × Nat × Nat) (fun s => k.length - s.1) (fun s => [(0, .slice a k.length c), (3, .int .i64 s.2.1), (4, .int .i64 s.2.2), (5, .int .i64 s.1)]) (fun s => []) (fun s => s.1 ≤ k.length ∧ contF s.2.1 (k.drop s.1) = T ∧ lastF s.1 s.2.2 (k.drop s.1) = L ∧ s.2.1 ≤ 999999999999999 ∧ s.2.2 ≤ s.1) ?_ sbT sbL ?_
  · exact ⟨Nat.zero_le _, hT, hL, Nat.zero_le _, Nat.le_refl _⟩
  clear hT hL
  intro ⟨i, g, n⟩ ⟨h1, h2, h3, h4, h5⟩ ih
  dsimp only at h1 h2 h3 h4 h5 ⊢
  by_cases hi : i < k.length
  · obtain ⟨ba, oa, rfl, hra⟩ := SlAt.all hA (by omega)
    have hri := hra i hi
    have hw := hk.1 _ (List.getElem_mem hi)
    rw [List.drop_eq_getElem_cons hi, contF] at h2
    rw [List.drop_eq_getElem_cons hi, lastF] at h3
    clear hra hk hget
    generalize k[i] = z at *
    dsimp only [isV] at hri
    obtain ⟨z, rfl⟩ : ∃ n : Nat, z = n := ⟨z.toNat, by omega⟩
    rw [Int.toNat_natCast] at h2
    have hd := fun w' => common_holds g z w' h4 (by omega)
    have hg := contF_le hw h4
    rw [Int.toNat_natCast] at hg
    by_cases hz : 0 < (z : Int)
    · rw [if_pos hz] at h3
      have ih := ih (i + 1, Nat.gcd g z, i + 1) ⟨hi, h2, h3, hg, Nat.le_refl _⟩ (by dsimp only; omega)
      all_goals (refine go ?_; and_intros <;> (try exact trivial) <;> repeat (first | refine fun (Bk : Nat) => ?_ | intro h))
      repeat' ((first | (apply G.cV (g := 107); rfl; rfl; exact fun w' _ => hd w')) <;> (refine go ?_; and_intros <;> (try exact trivial) <;> repeat (first | refine fun (Bk : Nat) => ?_ | intro h)))
      exact J.fin ih
    · rw [if_neg hz] at h3
      have ih := ih (i + 1, Nat.gcd g z, n) ⟨hi, h2, h3, hg, by dsimp only; omega⟩ (by dsimp only; omega)
      all_goals (refine go ?_; and_intros <;> (try exact trivial) <;> repeat (first | refine fun (Bk : Nat) => ?_ | intro h))
      repeat' ((first | (apply G.cV (g := 107); rfl; rfl; exact fun w' _ => hd w')) <;> (refine go ?_; and_intros <;> (try exact trivial) <;> repeat (first | refine fun (Bk : Nat) => ?_ | intro h)))
      exact J.fin ih
  · obtain rfl : i = k.length := by omega
    rw [List.drop_length, contF] at h2
    rw [List.drop_length, lastF] at h3
    subst h2 h3
    clear ih
    rw [← hlen]
    all_goals (refine go ?_; and_intros <;> (try exact trivial) <;> repeat (first | refine fun (Bk : Nat) => ?_ | intro h))
    apply J.nilOwn (E := 3) (size := 1)
    refine J.loop (c := _) ((0, .slice none 0 0) : Nat × Value) (fun s => R.length - s.1) (fun s => [(0, .slice a k.length c), (3, .int .i64 g), (4, .int .i64 R.length), (6, s.2), (7, .int .i64 s.1)]) (fun s => [.own 0 s.2 3 1 s.1 (flat isV (R.take s.1))]) (fun s => s.1 ≤ R.length) ?_ sbT sbL ?_
    · exact Nat.zero_le _
    intro ⟨i, u⟩ hR ih
    dsimp only at hR ⊢
    by_cases hi : i < R.length
    · obtain ⟨h6, h7⟩ := hget i hi
      obtain ⟨ba, oa, rfl, hra⟩ := SlAt.all hA (by omega)
      have hri := hra i h6
      have hw := hk.1 _ (List.getElem_mem h6)
      have ih := fun u2 => ih (i + 1, u2) hi (by dsimp only; omega)
      have hap : flat isV (R.take i) ++ isV R[i] = flat isV (R.take (i + 1)) := by rw [List.take_succ_eq_append_getElem hi]; exact flat1 isV _ _
      rw [h7] at hap
      clear hra hk hget h7
      generalize k[i] = z at *
      dsimp only [isV] at hri hap
      all_goals (refine go ?_; and_intros <;> (try exact trivial) <;> repeat (first | refine fun (Bk : Nat) => ?_ | intro h))
      repeat' ((first | (apply G.sliceL; rfl; rfl; rfl; rfl; rfl; rfl; rfl; rfl; intro Bs) | (apply G.ap; rfl; rfl; rfl; (repeat (first | exact RAt.head | apply RAt.tail)); exact SrcV.blk (by exact mm) rfl rfl; exact hap; omega; omega; intro v2)) <;> (refine go ?_; and_intros <;> (try exact trivial) <;> repeat (first | refine fun (Bk : Nat) => ?_ | intro h)))
      exact J.fin (ih _)
    · obtain rfl : i = R.length := by omega
      rw [List.take_length]
      apply J.ownForm (i := 0) rfl
      intro a2 c2 hu
      subst hu
      clear ih
      all_goals (refine go ?_; and_intros <;> (try exact trivial) <;> repeat (first | refine fun (Bk : Nat) => ?_ | intro h))
      (refine ret1 Tryz.func82 Tryz.results82 ?_; intro w' hw)
      exact satI hw (i := 0) rfl rfl fun v => v
/-- The reduced list, or the error. -/
def redE (k : List Int) : List Int × Int := if kerErr k = 0 then (red k, 0) else ([], kerErr k)
theorem vReduce_holds (a : Option Addr) (k : List Int) (c : Nat) (w : World) (hA : SlAt w a 1 (k.map isV)) :
    Calls Tryz.prog 57 #[.agg #[.slice a k.length c]] w (RetI (fun v => .tuple #[.agg #[v], .int .i64 (redE k).2]) w (redE k).1) := by
  have hc := fun w' (hb : Below w.heap.size w w') => kCheck_holds a k c w' (hA.below hb)
  rw [redE]
  by_cases h0 : kerErr k = 0
  · have hr := fun w' (hb : Below w.heap.size w w') => vReduced_holds a k c w' (hA.below hb) (ker_of h0).wOk (ker_of h0).pos
    rw [if_pos h0]
    rw [h0] at hc
    dsimp only
    refine enterA [(0, .agg #[.slice a k.length c])] Tryz.func57 Tryz.ntmps57 ?_
    all_goals (refine go ?_; and_intros <;> (try exact trivial) <;> repeat (first | refine fun (Bk : Nat) => ?_ | intro h))
    repeat' ((first | (refine G.cvb hc ?_) | (apply G.cN (g := 65) (fun a' c' => .agg #[.slice a' (red k).length c']) ((red k).map isV); rfl; rfl; exact fun w' hw' => hr w' hw'.below; intro a1 c1 hp1 hq1)) <;> (refine go ?_; and_intros <;> (try exact trivial) <;> repeat (first | refine fun (Bk : Nat) => ?_ | intro h)))
    (refine ret2 Tryz.func57 Tryz.results57 ?_; intro w' hw)
    exact ⟨a1, c1, rfl, hw.sl (by exact mm), hq1, hw.below⟩
  · rw [if_neg h0]
    dsimp only
    generalize kerErr k = E at *
    refine enterA [(0, .agg #[.slice a k.length c])] Tryz.func57 Tryz.ntmps57 ?_
    all_goals (refine go ?_; and_intros <;> (try exact trivial) <;> repeat (first | refine fun (Bk : Nat) => ?_ | intro h))
    repeat' ((first | (refine G.cvb hc ?_)) <;> (refine go ?_; and_intros <;> (try exact trivial) <;> repeat (first | refine fun (Bk : Nat) => ?_ | intro h)))
    (refine ret2 Tryz.func57 Tryz.results57 ?_; intro w' hw)
    exact retI_nil (fun v => .tuple #[.agg #[v], .int .i64 E]) hw.below
theorem rReduce_holds (a : Option Addr) (k : List Int) (c : Nat) (w : World) (hA : SlAt w a 1 (k.map isV)) :
    Calls Tryz.prog 58 #[.agg #[.slice a k.length c]] w (RetI (fun v => .agg #[v, .int .i64 (redE k).2]) w (redE k).1) := by
  have hc := fun w' (hb : Below w.heap.size w w') => rkCheck_holds a k c w' (hA.below hb)
  rw [redE]
  by_cases h0 : kerErr k = 0
  · have hr := fun w' (hb : Below w.heap.size w w') => rReduced_holds a k c w' (hA.below hb) (ker_of h0).wOk (ker_of h0).pos
    rw [if_pos h0]
    rw [h0] at hc
    dsimp only
    refine enterA [(0, .agg #[.slice a k.length c])] Tryz.func58 Tryz.ntmps58 ?_
    all_goals (refine go ?_; and_intros <;> (try exact trivial) <;> repeat (first | refine fun (Bk : Nat) => ?_ | intro h))
    repeat' ((first | (refine G.cvb hc ?_) | (apply G.cN (g := 82) (fun a' c' => .slice a' (red k).length c') ((red k).map isV); rfl; rfl; exact fun w' hw' => hr w' hw'.below; intro a1 c1 hp1 hq1)) <;> (refine go ?_; and_intros <;> (try exact trivial) <;> repeat (first | refine fun (Bk : Nat) => ?_ | intro h)))
    (refine ret1 Tryz.func58 Tryz.results58 ?_; intro w' hw)
    exact ⟨a1, c1, rfl, hw.sl (by exact mm), hq1, hw.below⟩
  · rw [if_neg h0]
    dsimp only
    generalize kerErr k = E at *
    refine enterA [(0, .agg #[.slice a k.length c])] Tryz.func58 Tryz.ntmps58 ?_
    all_goals (refine go ?_; and_intros <;> (try exact trivial) <;> repeat (first | refine fun (Bk : Nat) => ?_ | intro h))
    repeat' ((first | (refine G.cvb hc ?_)) <;> (refine go ?_; and_intros <;> (try exact trivial) <;> repeat (first | refine fun (Bk : Nat) => ?_ | intro h)))
    (refine ret1 Tryz.func58 Tryz.results58 ?_; intro w' hw)
    exact retI_nil (fun v => .agg #[v, .int .i64 E]) hw.below
/-- The kernel of no ticks. -/
theorem vDelay0_holds (w : World) : Calls Tryz.prog 56 #[.int .i64 0] w (RetI (fun v => .tuple #[.agg #[v], .int .i64 0]) w [1]) := by
  refine enterA [(0, .int .i64 0)] Tryz.func56 Tryz.ntmps56 ?_
  all_goals (refine go ?_; and_intros <;> (try exact trivial) <;> repeat (first | refine fun (Bk : Nat) => ?_ | intro h))
  repeat' ((first | (apply G.make (n := 1) [.int .i64 0]; rfl; rfl; rfl; rfl; rfl; rfl; rfl; rfl; omega; omega; intro B)) <;> (refine go ?_; and_intros <;> (try exact trivial) <;> repeat (first | refine fun (Bk : Nat) => ?_ | intro h)))
  (refine ret2 Tryz.func56 Tryz.results56 ?_; intro w' hw)
  have hm := blkSlA (f := isV) (sz := 1) (b := B) (e := 3) (tot := 1) (l := [1]) hw isV_len
  exact ⟨_, _, rfl, hm.1, fun p hp => by cases hp; exact hm.2, hw.below⟩
end Go.Proofs.YtceaamdomkjmlaaGreatDoor
/-
  Contracts of kernels: Compose of both.
-/
namespace Go.Proofs.YtceaamdomkjmlaaGreatDoor
open Go.RowKit Go.Sl Go.Num
theorem red_wOk {k : List Int} (h : Ker k) : wOk (red k) := by
  have hp := h.pos
  obtain ⟨n, h1, h2, _⟩ := hp.len_red
  have h3 := h.len
  refine ⟨fun w hw => ?_, by omega⟩
  have h4 := (red_pos hp).1 w hw
  have h5 := elem_le (red_pos hp).1 w hw
  have h6 := sum_red hp
  have h7 := hp.cont
  have h8 : sumL (red k) ≤ (contF 0 k : Int) * sumL (red k) := by
    have := sumL_nn (red_pos hp).1
    have := Int.mul_le_mul_of_nonneg_right (show (1 : Int) ≤ contF 0 k by omega) this
    omega
  have := h.sum
  omega
theorem vCompose_holds (a b : Option Addr) (k l : List Int) (c d : Nat) (w : World) (hA : SlAt w a 1 (k.map isV)) (hB : SlAt w b 1 (l.map isV)) :
    Calls Tryz.prog 33 #[.agg #[.slice a k.length c], .agg #[.slice b l.length d]] w (RetI (fun v => .tuple #[.agg #[v], .int .i64 (compE k l).2]) w (compE k l).1) := by
  have h1 := fun w' (hb : Below w.heap.size w w') => kCheck_holds a k c w' (hA.below hb)
  have h2 := fun w' (hb : Below w.heap.size w w') => kCheck_holds b l d w' (hB.below hb)
  rw [compE]
  by_cases e1 : kerErr k = 0
  case neg =>
    rw [if_pos e1]
    dsimp only
    generalize kerErr k = E at *
    refine enterA [(0, .agg #[.slice a k.length c]), (1, .agg #[.slice b l.length d])] Tryz.func33 Tryz.ntmps33 ?_
    all_goals (refine go ?_; and_intros <;> (try exact trivial) <;> repeat (first | refine fun (Bk : Nat) => ?_ | intro h))
    repeat' ((first | (apply G.cV (g := 62) (vs := [.agg #[.slice a k.length c]]); rfl; rfl; exact fun w' hw' => h1 w' hw'.below) | (apply G.cV (g := 62) (vs := [.agg #[.slice b l.length d]]); rfl; rfl; exact fun w' hw' => h2 w' hw'.below)) <;> (refine go ?_; and_intros <;> (try exact trivial) <;> repeat (first | refine fun (Bk : Nat) => ?_ | intro h)))
    (refine ret2 Tryz.func33 Tryz.results33 ?_; intro w' hw)
    exact retI_nil (fun v => .tuple #[.agg #[v], .int .i64 E]) hw.below
  rw [if_neg (fun h => h e1)]
  have k1 := ker_of e1
  rw [e1] at h1
  by_cases e2 : kerErr l = 0
  case neg =>
    rw [if_pos e2]
    dsimp only
    generalize kerErr l = E at *
    refine enterA [(0, .agg #[.slice a k.length c]), (1, .agg #[.slice b l.length d])] Tryz.func33 Tryz.ntmps33 ?_
    all_goals (refine go ?_; and_intros <;> (try exact trivial) <;> repeat (first | refine fun (Bk : Nat) => ?_ | intro h))
    repeat' ((first | (apply G.cV (g := 62) (vs := [.agg #[.slice a k.length c]]); rfl; rfl; exact fun w' hw' => h1 w' hw'.below) | (apply G.cV (g := 62) (vs := [.agg #[.slice b l.length d]]); rfl; rfl; exact fun w' hw' => h2 w' hw'.below)) <;> (refine go ?_; and_intros <;> (try exact trivial) <;> repeat (first | refine fun (Bk : Nat) => ?_ | intro h)))
    (refine ret2 Tryz.func33 Tryz.results33 ?_; intro w' hw)
    exact retI_nil (fun v => .tuple #[.agg #[v], .int .i64 E]) hw.below
  rw [if_neg (fun h => h e2)]
  have k2 := ker_of e2
  rw [e2] at h2
  have r1 := fun w' (hb : Below w.heap.size w w') => vReduced_holds a k c w' (hA.below hb) k1.wOk k1.pos
  have r2 := fun w' (hb : Below w.heap.size w w') => vReduced_holds b l d w' (hB.below hb) k2.wOk k2.pos
  have wx := red_wOk k1
  have wy := red_wOk k2
  have px := red_pos k1.pos
  have py := red_pos k2.pos
  obtain ⟨n1, lx, n2, _⟩ := k1.pos.len_red
  obtain ⟨m1, ly, m2, _⟩ := k2.pos.len_red
  have g1 := k1.len
  have g2 := k2.len
  generalize red k = x at *
  generalize red l = y at *
  have sx := pos_sum px.1 px.2
  have sy := pos_sum py.1 py.2
  by_cases e3 : 400 < x.length + y.length - 1
  · rw [if_pos e3]
    dsimp only
    refine enterA [(0, .agg #[.slice a k.length c]), (1, .agg #[.slice b l.length d])] Tryz.func33 Tryz.ntmps33 ?_
    all_goals (refine goR ?_; and_intros <;> (try exact trivial) <;> repeat (first | refine fun (Bk : Nat) => ?_ | intro h))
    repeat' ((first | (apply G.cV (g := 62) (vs := [.agg #[.slice a k.length c]]); rfl; rfl; exact fun w' hw' => h1 w' hw'.below) | (apply G.cV (g := 62) (vs := [.agg #[.slice b l.length d]]); rfl; rfl; exact fun w' hw' => h2 w' hw'.below) | (apply J.regQ; exact Tryz.mixed; decide +kernel) | (apply J.regA (.q 0 <| .q 2 <| .e 1 <| .r 3 <| .r 4 <| .r 5 <| .nil); exact Tryz.mixed; decide +kernel) | (apply G.cN (g := 65) (vs := [.agg #[.slice a k.length c]]) (fun a' c' => .agg #[.slice a' x.length c']) (x.map isV); rfl; rfl; exact fun w' hw' => r1 w' hw'.below; intro a1 c1 hp1 hq1) | (apply G.cN (g := 65) (vs := [.agg #[.slice b l.length d]]) (fun a' c' => .agg #[.slice a' y.length c']) (y.map isV); rfl; rfl; exact fun w' hw' => r2 w' hw'.below; intro a2 c2 hp2 hq2) | (apply J.regQ; exact Tryz.mixed; decide +kernel) | (apply J.regL'; exact Tryz.mixed; decide +kernel)) <;> (refine goR ?_; and_intros <;> (try exact trivial) <;> repeat (first | refine fun (Bk : Nat) => ?_ | intro h)))
    (refine ret2 Tryz.func33 Tryz.results33 ?_; intro w' hw)
    exact retI_nil (fun v => .tuple #[.agg #[v], .int .i64 2]) hw.below
  rw [if_neg e3]
  by_cases e4 : 999999999999999 / sumL y < sumL x
  · rw [if_pos e4]
    dsimp only
    refine enterA [(0, .agg #[.slice a k.length c]), (1, .agg #[.slice b l.length d])] Tryz.func33 Tryz.ntmps33 ?_
    all_goals (refine goR ?_; and_intros <;> (try exact trivial) <;> repeat (first | refine fun (Bk : Nat) => ?_ | intro h))
    repeat' ((first | (apply G.cV (g := 62) (vs := [.agg #[.slice a k.length c]]); rfl; rfl; exact fun w' hw' => h1 w' hw'.below) | (apply G.cV (g := 62) (vs := [.agg #[.slice b l.length d]]); rfl; rfl; exact fun w' hw' => h2 w' hw'.below) | (apply J.regQ; exact Tryz.mixed; decide +kernel) | (apply J.regA (.q 0 <| .q 2 <| .e 1 <| .r 3 <| .r 4 <| .r 5 <| .nil); exact Tryz.mixed; decide +kernel) | (apply G.cN (g := 65) (vs := [.agg #[.slice a k.length c]]) (fun a' c' => .agg #[.slice a' x.length c']) (x.map isV); rfl; rfl; exact fun w' hw' => r1 w' hw'.below; intro a1 c1 hp1 hq1) | (apply G.cN (g := 65) (vs := [.agg #[.slice b l.length d]]) (fun a' c' => .agg #[.slice a' y.length c']) (y.map isV); rfl; rfl; exact fun w' hw' => r2 w' hw'.below; intro a2 c2 hp2 hq2) | (apply G.cV (g := 66) (vs := [.agg #[.slice a1 x.length c1]]); rfl; rfl; exact fun w' hw' => total_holds a1 x c1 w' (hw'.sl (by exact mm)) wx) | (apply G.cV (g := 66) (vs := [.agg #[.slice a2 y.length c2]]); rfl; rfl; exact fun w' hw' => total_holds a2 y c2 w' (hw'.sl (by exact mm)) wy) | (apply J.regQ; exact Tryz.mixed; decide +kernel) | (apply J.regL'; exact Tryz.mixed; decide +kernel)) <;> (refine goR ?_; and_intros <;> (try exact trivial) <;> repeat (first | refine fun (Bk : Nat) => ?_ | intro h)))
    (refine ret2 Tryz.func33 Tryz.results33 ?_; intro w' hw)
    exact retI_nil (fun v => .tuple #[.agg #[v], .int .i64 3]) hw.below
  rw [if_neg e4]
  dsimp only
  have hS := quo_mul sx sy e4
  have hcp := convL_pos px py
  have hcl := convL_len x y
  have hcs := convL_sum (a := x) (b := y) (by omega)
  have hN : ((x.length : Int) + y.length - 1) = ((x.length + y.length - 1 : Nat) : Int) := by omega
  have hZ : convF 0 (List.replicate (x.length + y.length - 1) 0) x y = convL x y := rfl
  have hNe : x.length + y.length - 1 + 1 = x.length + y.length := by omega
  generalize convL x y = Z at *
  have wZ : wOk Z := ⟨fun w hw => ⟨hcp.1 w hw, by have := elem_le hcp.1 w hw; omega⟩, by omega⟩
  generalize x.length + y.length - 1 = N at *
  refine enterA [(0, .agg #[.slice a k.length c]), (1, .agg #[.slice b l.length d])] Tryz.func33 Tryz.ntmps33 ?_
  all_goals (refine goR ?_; and_intros <;> (try exact trivial) <;> repeat (first | refine fun (Bk : Nat) => ?_ | intro h))
  repeat' ((first | (apply G.cV (g := 62) (vs := [.agg #[.slice a k.length c]]); rfl; rfl; exact fun w' hw' => h1 w' hw'.below) | (apply G.cV (g := 62) (vs := [.agg #[.slice b l.length d]]); rfl; rfl; exact fun w' hw' => h2 w' hw'.below) | (apply J.regQ; exact Tryz.mixed; decide +kernel) | (apply J.regA (.q 0 <| .q 2 <| .e 1 <| .r 3 <| .r 4 <| .r 5 <| .nil); exact Tryz.mixed; decide +kernel) | (apply G.cN (g := 65) (vs := [.agg #[.slice a k.length c]]) (fun a' c' => .agg #[.slice a' x.length c']) (x.map isV); rfl; rfl; exact fun w' hw' => r1 w' hw'.below; intro a1 c1 hp1 hq1) | (apply G.cN (g := 65) (vs := [.agg #[.slice b l.length d]]) (fun a' c' => .agg #[.slice a' y.length c']) (y.map isV); rfl; rfl; exact fun w' hw' => r2 w' hw'.below; intro a2 c2 hp2 hq2) | (apply G.cV (g := 66) (vs := [.agg #[.slice a1 x.length c1]]); rfl; rfl; exact fun w' hw' => total_holds a1 x c1 w' (hw'.sl (by exact mm)) wx) | (apply G.cV (g := 66) (vs := [.agg #[.slice a2 y.length c2]]); rfl; rfl; exact fun w' hw' => total_holds a2 y c2 w' (hw'.sl (by exact mm)) wy) | (apply J.regQ; exact Tryz.mixed; decide +kernel) | (apply J.regL'; exact Tryz.mixed; decide +kernel)) <;> (refine goR ?_; and_intros <;> (try exact trivial) <;> repeat (first | refine fun (Bk : Nat) => ?_ | intro h)))
  rw [hN]
  clear h1 h2 r1 r2 hN
  all_goals (refine go ?_; and_intros <;> (try exact trivial) <;> repeat (first | refine fun (Bk : Nat) => ?_ | intro h))
  repeat' ((first | (apply G.make (n := N) [.int .i64 0]; rfl; rfl; rfl; rfl; rfl; rfl; rfl; rfl; omega; omega; intro B)) <;> (refine go ?_; and_intros <;> (try exact trivial) <;> repeat (first | refine fun (Bk : Nat) => ?_ | intro h)))
  obtain ⟨b1, o1, rfl⟩ := hp1 (by rw [List.length_map]; omega)
  obtain ⟨b2, o2, rfl⟩ := hp2 (by rw [List.length_map]; omega)
  rw [flat_zero]
  refine J.loop (c := _) ((0, List.replicate N 0) : Nat × List Int) (fun s => x.length - s.1) (fun s => [(3, .pointer (some ⟨_, 0, none⟩)), (4, .pointer (some ⟨_, 0, none⟩)), (9, .slice (some ⟨B, 0, none⟩) N N), (52, .slice (some ⟨b1, o1, none⟩) x.length c1), (53, .int .i64 x.length), (54, .int .i64 s.1)]) (fun s => [.blk B 3 (flat isV s.2) (N * 1), slRow w.heap.size (some ⟨b2, o2, none⟩) 1 (y.map isV), slRow w.heap.size (some ⟨b1, o1, none⟩) 1 (x.map isV), .blk _ 41 [.slice none 0 0] 1, .blk _ 41 [.slice (some ⟨b2, o2, none⟩) y.length c2] 1]) (fun s => s.1 ≤ x.length ∧ s.2.length = N ∧ (∀ v ∈ s.2, 0 ≤ v) ∧ convF s.1 s.2 (x.drop s.1) y = Z) ?_ sbT sbL ?_
  · exact ⟨Nat.zero_le _, List.length_replicate, fun v hv => by rw [(List.mem_replicate.1 hv).2]; exact Int.le_refl _, hZ⟩
  clear hZ
  intro ⟨i, o⟩ ⟨q1, q2, q3, q4⟩ ih
  dsimp only at q1 q2 q3 q4 ⊢
  by_cases hi : i < x.length
  · have q5 := conv_step q4 hi
    have hxi := px.1 _ (List.getElem_mem hi)
    generalize hO : rowF i x[i] 0 o y = O at q5
    have hOl : O.length = N := by rw [← hO, rowF_len, q2]
    have q6 := conv_bd q5 px.1 py.1 (by omega) (by omega)
    have hOn : ∀ v ∈ O, 0 ≤ v := by rw [← hO]; exact rowF_nn i hxi y 0 o py.1 q3
    have ih := ih (i + 1, O) ⟨hi, hOl, hOn, q5⟩ (by dsimp only; omega)
    all_goals (refine go ?_; and_intros <;> (try exact trivial) <;> repeat (first | refine fun (Bk : Nat) => ?_ | intro h))
    repeat' ((first | (apply G.ld; rfl; (apply LdV.one; exact CellV.sl0 (f := isV) (l := x) (by exact mm) hi rfl); rfl) | (apply G.sl3 (l := i) (h := i + y.length) (m := i + y.length) (off := i) (len := y.length) (cap := y.length); rfl; rfl; rfl; rfl; rfl; rfl; rfl; omega; omega; omega; omega; omega; omega; omega; rfl)) <;> (refine go ?_; and_intros <;> (try exact trivial) <;> repeat (first | refine fun (Bk : Nat) => ?_ | intro h)))
    refine J.loop (c := _) ((0, o) : Nat × List Int) (fun s => y.length - s.1) (fun s => [(3, .pointer (some ⟨_, 0, none⟩)), (4, .pointer (some ⟨_, 0, none⟩)), (9, .slice (some ⟨B, 0, none⟩) N N), (11, .int .i64 x[i]), (12, .slice (some ⟨B, i, none⟩) y.length y.length), (52, .slice (some ⟨b1, o1, none⟩) x.length c1), (53, .int .i64 x.length), (54, .int .i64 i), (73, .slice (some ⟨b2, o2, none⟩) y.length c2), (74, .int .i64 y.length), (75, .int .i64 s.1)]) (fun s => [.blk B 3 (flat isV s.2) (N * 1), slRow w.heap.size (some ⟨b2, o2, none⟩) 1 (y.map isV), slRow w.heap.size (some ⟨b1, o1, none⟩) 1 (x.map isV), .blk _ 41 [.slice none 0 0] 1, .blk _ 41 [.slice (some ⟨b2, o2, none⟩) y.length c2] 1]) (fun s => s.1 ≤ y.length ∧ s.2.length = N ∧ (∀ v ∈ s.2, 0 ≤ v) ∧ rowF i x[i] s.1 s.2 (y.drop s.1) = O) ?_ sbT sbL ?_
    · exact ⟨Nat.zero_le _, q2, q3, hO⟩
    clear hO q2 q3 q4
    intro ⟨j, o⟩ ⟨p1, p2, p3, p4⟩ ih2
    dsimp only at p1 p2 p3 p4 ⊢
    by_cases hj : j < y.length
    · have ⟨u1, u2, u3⟩ := row_bd p4 hxi py.1 p3 (by omega) hj
      have u4 := row_step p4 hj
      have hij : i + j < o.length := by omega
      have ih2 := ih2 (j + 1, o.set (i + j) (co o (i + j) + x[i] * y[j])) ⟨hj, by rw [List.length_set]; exact p2, fun v hv => by
        rcases List.mem_or_eq_of_mem_set hv with hv | rfl
        · exact p3 v hv
        · omega, u4⟩ (by dsimp only; omega)
      have gs : (flat isV o)[i + j * 1]? = some (.int .i64 (co o (i + j))) := get_sw hij
      have ss := set_sw (v := co o (i + j) + x[i] * y[j]) hij
      have sl : i + j * 1 < (flat isV o).length := by rw [isLen]; omega
      clear ih p3 p4 u4
      all_goals (refine go ?_; and_intros <;> (try exact trivial) <;> repeat (first | refine fun (Bk : Nat) => ?_ | intro h))
      repeat' ((first | (apply G.ld; rfl; (apply LdV.one; exact CellV.sl0 (f := isV) (l := y) (by exact mm) hj rfl); rfl) | (apply G.ld; rfl; (apply LdV.one; apply CellV.blk; exact mm; exact gs); rfl) | (apply G.s1; rfl; rfl; rfl; (repeat (first | exact RAt.head | apply RAt.tail)); exact ⟨rfl, rfl⟩; exact sl; exact ss)) <;> (refine go ?_; and_intros <;> (try exact trivial) <;> repeat (first | refine fun (Bk : Nat) => ?_ | intro h)))
      exact J.fin ih2
    · obtain rfl : j = y.length := by omega
      rw [List.drop_length, rowF] at p4
      subst p4
      clear ih2
      all_goals (refine go ?_; and_intros <;> (try exact trivial) <;> repeat (first | refine fun (Bk : Nat) => ?_ | intro h))
      exact J.fin ih
  · rw [List.drop_eq_nil_of_le (by omega), convF] at q4
    subst q4 q2
    clear ih
    all_goals (refine go ?_; and_intros <;> (try exact trivial) <;> repeat (first | refine fun (Bk : Nat) => ?_ | intro h))
    repeat' ((first | (apply G.cN (g := 65) (vs := [.agg #[.slice (some ⟨B, 0, none⟩) o.length o.length]]) (fun a' c' => .agg #[.slice a' (red o).length c']) ((red o).map isV); rfl; rfl; exact fun w' hw' => vReduced_holds (some ⟨B, 0, none⟩) o o.length w' (SlAt.ofBlk isV_len hw' (by exact mm)) wZ hcp; intro a3 c3 hp3 hq3)) <;> (refine go ?_; and_intros <;> (try exact trivial) <;> repeat (first | refine fun (Bk : Nat) => ?_ | intro h)))
    (refine ret2 Tryz.func33 Tryz.results33 ?_; intro w' hw)
    exact ⟨a3, c3, rfl, hw.sl (by exact mm), hq3, hw.below⟩
end Go.Proofs.YtceaamdomkjmlaaGreatDoor
/-
  Contracts of kernels: Compose of the specification.
-/
namespace Go.Proofs.YtceaamdomkjmlaaGreatDoor
open Go.RowKit Go.Sl Go.Num
theorem rCompose_holds (a b : Option Addr) (k l : List Int) (c d : Nat) (w : World) (hA : SlAt w a 1 (k.map isV)) (hB : SlAt w b 1 (l.map isV)) :
    Calls Tryz.prog 59 #[.agg #[.slice a k.length c], .agg #[.slice b l.length d]] w (RetI (fun v => .agg #[v, .int .i64 (compE k l).2]) w (compE k l).1) := by
  have h1 := fun w' (hb : Below w.heap.size w w') => rkCheck_holds a k c w' (hA.below hb)
  have h2 := fun w' (hb : Below w.heap.size w w') => rkCheck_holds b l d w' (hB.below hb)
  rw [compE]
  by_cases e1 : kerErr k = 0
  case neg =>
    rw [if_pos e1]
    dsimp only
    generalize kerErr k = E at *
    refine enterA [(0, .agg #[.slice a k.length c]), (1, .agg #[.slice b l.length d])] Tryz.func59 Tryz.ntmps59 ?_
    all_goals (refine go ?_; and_intros <;> (try exact trivial) <;> repeat (first | refine fun (Bk : Nat) => ?_ | intro h))
    repeat' ((first | (apply G.cV (g := 63) (vs := [.agg #[.slice a k.length c]]); rfl; rfl; exact fun w' hw' => h1 w' hw'.below) | (apply G.cV (g := 63) (vs := [.agg #[.slice b l.length d]]); rfl; rfl; exact fun w' hw' => h2 w' hw'.below)) <;> (refine go ?_; and_intros <;> (try exact trivial) <;> repeat (first | refine fun (Bk : Nat) => ?_ | intro h)))
    (refine ret1 Tryz.func59 Tryz.results59 ?_; intro w' hw)
    exact retI_nil (fun v => .agg #[v, .int .i64 E]) hw.below
  rw [if_neg (fun h => h e1)]
  have k1 := ker_of e1
  rw [e1] at h1
  by_cases e2 : kerErr l = 0
  case neg =>
    rw [if_pos e2]
    dsimp only
    generalize kerErr l = E at *
    refine enterA [(0, .agg #[.slice a k.length c]), (1, .agg #[.slice b l.length d])] Tryz.func59 Tryz.ntmps59 ?_
    all_goals (refine go ?_; and_intros <;> (try exact trivial) <;> repeat (first | refine fun (Bk : Nat) => ?_ | intro h))
    repeat' ((first | (apply G.cV (g := 63) (vs := [.agg #[.slice a k.length c]]); rfl; rfl; exact fun w' hw' => h1 w' hw'.below) | (apply G.cV (g := 63) (vs := [.agg #[.slice b l.length d]]); rfl; rfl; exact fun w' hw' => h2 w' hw'.below)) <;> (refine go ?_; and_intros <;> (try exact trivial) <;> repeat (first | refine fun (Bk : Nat) => ?_ | intro h)))
    (refine ret1 Tryz.func59 Tryz.results59 ?_; intro w' hw)
    exact retI_nil (fun v => .agg #[v, .int .i64 E]) hw.below
  rw [if_neg (fun h => h e2)]
  have k2 := ker_of e2
  rw [e2] at h2
  have r1 := fun w' (hb : Below w.heap.size w w') => rReduced_holds a k c w' (hA.below hb) k1.wOk k1.pos
  have r2 := fun w' (hb : Below w.heap.size w w') => rReduced_holds b l d w' (hB.below hb) k2.wOk k2.pos
  have wx := red_wOk k1
  have wy := red_wOk k2
  have px := red_pos k1.pos
  have py := red_pos k2.pos
  obtain ⟨n1, lx, n2, _⟩ := k1.pos.len_red
  obtain ⟨m1, ly, m2, _⟩ := k2.pos.len_red
  have g1 := k1.len
  have g2 := k2.len
  generalize red k = x at *
  generalize red l = y at *
  have sx := pos_sum px.1 px.2
  have sy := pos_sum py.1 py.2
  by_cases e3 : 400 < x.length + y.length - 1
  · rw [if_pos e3]
    dsimp only
    refine enterA [(0, .agg #[.slice a k.length c]), (1, .agg #[.slice b l.length d])] Tryz.func59 Tryz.ntmps59 ?_
    all_goals (refine goR ?_; and_intros <;> (try exact trivial) <;> repeat (first | refine fun (Bk : Nat) => ?_ | intro h))
    repeat' ((first | (apply G.cV (g := 63) (vs := [.agg #[.slice a k.length c]]); rfl; rfl; exact fun w' hw' => h1 w' hw'.below) | (apply G.cV (g := 63) (vs := [.agg #[.slice b l.length d]]); rfl; rfl; exact fun w' hw' => h2 w' hw'.below) | (apply J.regQ; exact Tryz.mixed; decide +kernel) | (apply G.cN (g := 82) (vs := [.slice a k.length c]) (fun a' c' => .slice a' x.length c') (x.map isV); rfl; rfl; exact fun w' hw' => r1 w' hw'.below; intro a1 c1 hp1 hq1) | (apply G.cN (g := 82) (vs := [.slice b l.length d]) (fun a' c' => .slice a' y.length c') (y.map isV); rfl; rfl; exact fun w' hw' => r2 w' hw'.below; intro a2 c2 hp2 hq2) | (apply J.regQ; exact Tryz.mixed; decide +kernel) | (apply J.regL'; exact Tryz.mixed; decide +kernel)) <;> (refine goR ?_; and_intros <;> (try exact trivial) <;> repeat (first | refine fun (Bk : Nat) => ?_ | intro h)))
    (refine ret1 Tryz.func59 Tryz.results59 ?_; intro w' hw)
    exact retI_nil (fun v => .agg #[v, .int .i64 2]) hw.below
  rw [if_neg e3]
  by_cases e4 : 999999999999999 / sumL y < sumL x
  · rw [if_pos e4]
    dsimp only
    refine enterA [(0, .agg #[.slice a k.length c]), (1, .agg #[.slice b l.length d])] Tryz.func59 Tryz.ntmps59 ?_
    all_goals (refine goR ?_; and_intros <;> (try exact trivial) <;> repeat (first | refine fun (Bk : Nat) => ?_ | intro h))
    repeat' ((first | (apply G.cV (g := 63) (vs := [.agg #[.slice a k.length c]]); rfl; rfl; exact fun w' hw' => h1 w' hw'.below) | (apply G.cV (g := 63) (vs := [.agg #[.slice b l.length d]]); rfl; rfl; exact fun w' hw' => h2 w' hw'.below) | (apply J.regQ; exact Tryz.mixed; decide +kernel) | (apply G.cN (g := 82) (vs := [.slice a k.length c]) (fun a' c' => .slice a' x.length c') (x.map isV); rfl; rfl; exact fun w' hw' => r1 w' hw'.below; intro a1 c1 hp1 hq1) | (apply G.cN (g := 82) (vs := [.slice b l.length d]) (fun a' c' => .slice a' y.length c') (y.map isV); rfl; rfl; exact fun w' hw' => r2 w' hw'.below; intro a2 c2 hp2 hq2) | (apply G.cV (g := 83) (vs := [.slice a1 x.length c1]); rfl; rfl; exact fun w' hw' => sum_holds a1 x c1 w' (hw'.sl (by exact mm)) wx) | (apply G.cV (g := 83) (vs := [.slice a2 y.length c2]); rfl; rfl; exact fun w' hw' => sum_holds a2 y c2 w' (hw'.sl (by exact mm)) wy) | (apply J.regQ; exact Tryz.mixed; decide +kernel) | (apply J.regL'; exact Tryz.mixed; decide +kernel)) <;> (refine goR ?_; and_intros <;> (try exact trivial) <;> repeat (first | refine fun (Bk : Nat) => ?_ | intro h)))
    (refine ret1 Tryz.func59 Tryz.results59 ?_; intro w' hw)
    exact retI_nil (fun v => .agg #[v, .int .i64 3]) hw.below
  rw [if_neg e4]
  dsimp only
  have hS := quo_mul sx sy e4
  have hcp := convL_pos px py
  have hcl := convL_len x y
  have hcs := convL_sum (a := x) (b := y) (by omega)
  have hN : ((x.length : Int) + y.length - 1) = ((x.length + y.length - 1 : Nat) : Int) := by omega
  have hZ : convF 0 (List.replicate (x.length + y.length - 1) 0) x y = convL x y := rfl
  have hNe : x.length + y.length - 1 + 1 = x.length + y.length := by omega
  generalize convL x y = Z at *
  have wZ : wOk Z := ⟨fun w hw => ⟨hcp.1 w hw, by have := elem_le hcp.1 w hw; omega⟩, by omega⟩
  generalize x.length + y.length - 1 = N at *
  refine enterA [(0, .agg #[.slice a k.length c]), (1, .agg #[.slice b l.length d])] Tryz.func59 Tryz.ntmps59 ?_
  all_goals (refine goR ?_; and_intros <;> (try exact trivial) <;> repeat (first | refine fun (Bk : Nat) => ?_ | intro h))
  repeat' ((first | (apply G.cV (g := 63) (vs := [.agg #[.slice a k.length c]]); rfl; rfl; exact fun w' hw' => h1 w' hw'.below) | (apply G.cV (g := 63) (vs := [.agg #[.slice b l.length d]]); rfl; rfl; exact fun w' hw' => h2 w' hw'.below) | (apply J.regQ; exact Tryz.mixed; decide +kernel) | (apply G.cN (g := 82) (vs := [.slice a k.length c]) (fun a' c' => .slice a' x.length c') (x.map isV); rfl; rfl; exact fun w' hw' => r1 w' hw'.below; intro a1 c1 hp1 hq1) | (apply G.cN (g := 82) (vs := [.slice b l.length d]) (fun a' c' => .slice a' y.length c') (y.map isV); rfl; rfl; exact fun w' hw' => r2 w' hw'.below; intro a2 c2 hp2 hq2) | (apply G.cV (g := 83) (vs := [.slice a1 x.length c1]); rfl; rfl; exact fun w' hw' => sum_holds a1 x c1 w' (hw'.sl (by exact mm)) wx) | (apply G.cV (g := 83) (vs := [.slice a2 y.length c2]); rfl; rfl; exact fun w' hw' => sum_holds a2 y c2 w' (hw'.sl (by exact mm)) wy) | (apply J.regQ; exact Tryz.mixed; decide +kernel) | (apply J.regL'; exact Tryz.mixed; decide +kernel)) <;> (refine goR ?_; and_intros <;> (try exact trivial) <;> repeat (first | refine fun (Bk : Nat) => ?_ | intro h)))
  rw [hN]
  clear h1 h2 r1 r2 hN
  all_goals (refine go ?_; and_intros <;> (try exact trivial) <;> repeat (first | refine fun (Bk : Nat) => ?_ | intro h))
  repeat' ((first | (apply G.make (n := N) [.int .i64 0]; rfl; rfl; rfl; rfl; rfl; rfl; rfl; rfl; omega; omega; intro B)) <;> (refine go ?_; and_intros <;> (try exact trivial) <;> repeat (first | refine fun (Bk : Nat) => ?_ | intro h)))
  obtain ⟨b1, o1, rfl⟩ := hp1 (by rw [List.length_map]; omega)
  obtain ⟨b2, o2, rfl⟩ := hp2 (by rw [List.length_map]; omega)
  rw [flat_zero]
  refine J.loop (c := _) ((0, List.replicate N 0) : Nat × List Int) (fun s => x.length - s.1) (fun s => [(4, .pointer (some ⟨_, 0, none⟩)), (6, .slice (some ⟨b1, o1, none⟩) x.length c1), (7, .slice (some ⟨b2, o2, none⟩) y.length c2), (8, .slice (some ⟨B, 0, none⟩) N N), (9, .int .i64 s.1)]) (fun s => [.blk B 3 (flat isV s.2) (N * 1), slRow w.heap.size (some ⟨b2, o2, none⟩) 1 (y.map isV), slRow w.heap.size (some ⟨b1, o1, none⟩) 1 (x.map isV), .blk _ 111 [.slice none 0 0, .int .i64 0] 2]) (fun s => s.1 ≤ x.length ∧ s.2.length = N ∧ (∀ v ∈ s.2, 0 ≤ v) ∧ convF s.1 s.2 (x.drop s.1) y = Z) ?_ sbT sbL ?_
  · exact ⟨Nat.zero_le _, List.length_replicate, fun v hv => by rw [(List.mem_replicate.1 hv).2]; exact Int.le_refl _, hZ⟩
  clear hZ
  intro ⟨i, o⟩ ⟨q1, q2, q3, q4⟩ ih
  dsimp only at q1 q2 q3 q4 ⊢
  by_cases hi : i < x.length
  · have q5 := conv_step q4 hi
    have hxi := px.1 _ (List.getElem_mem hi)
    generalize hO : rowF i x[i] 0 o y = O at q5
    have hOl : O.length = N := by rw [← hO, rowF_len, q2]
    have q6 := conv_bd q5 px.1 py.1 (by omega) (by omega)
    have hOn : ∀ v ∈ O, 0 ≤ v := by rw [← hO]; exact rowF_nn i hxi y 0 o py.1 q3
    have ih := ih (i + 1, O) ⟨hi, hOl, hOn, q5⟩ (by dsimp only; omega)
    all_goals (refine go ?_; and_intros <;> (try exact trivial) <;> repeat (first | refine fun (Bk : Nat) => ?_ | intro h))
    refine J.loop (c := _) ((0, o) : Nat × List Int) (fun s => y.length - s.1) (fun s => [(4, .pointer (some ⟨_, 0, none⟩)), (6, .slice (some ⟨b1, o1, none⟩) x.length c1), (7, .slice (some ⟨b2, o2, none⟩) y.length c2), (8, .slice (some ⟨B, 0, none⟩) N N), (9, .int .i64 i), (10, .int .i64 s.1)]) (fun s => [.blk B 3 (flat isV s.2) (N * 1), slRow w.heap.size (some ⟨b2, o2, none⟩) 1 (y.map isV), slRow w.heap.size (some ⟨b1, o1, none⟩) 1 (x.map isV), .blk _ 111 [.slice none 0 0, .int .i64 0] 2]) (fun s => s.1 ≤ y.length ∧ s.2.length = N ∧ (∀ v ∈ s.2, 0 ≤ v) ∧ rowF i x[i] s.1 s.2 (y.drop s.1) = O) ?_ sbT sbL ?_
    · exact ⟨Nat.zero_le _, q2, q3, hO⟩
    clear hO q2 q3 q4
    intro ⟨j, o⟩ ⟨p1, p2, p3, p4⟩ ih2
    dsimp only at p1 p2 p3 p4 ⊢
    by_cases hj : j < y.length
    · have ⟨u1, u2, u3⟩ := row_bd p4 hxi py.1 p3 (by omega) hj
      have u4 := row_step p4 hj
      have hij : i + j < o.length := by omega
      have ih2 := ih2 (j + 1, o.set (i + j) (co o (i + j) + x[i] * y[j])) ⟨hj, by rw [List.length_set]; exact p2, fun v hv => by
        rcases List.mem_or_eq_of_mem_set hv with hv | rfl
        · exact p3 v hv
        · omega, u4⟩ (by dsimp only; omega)
      have gs : (flat isV o)[0 + (i + j) * 1]? = some (.int .i64 (co o (i + j))) := by rw [co_lt hij]; exact is_get hij
      have ss := is_set (v := co o (i + j) + x[i] * y[j]) hij
      have sl : 0 + (i + j) * 1 < (flat isV o).length := by rw [isLen]; omega
      clear ih p3 p4 u4
      all_goals (refine goR ?_; and_intros <;> (try exact trivial) <;> repeat (first | refine fun (Bk : Nat) => ?_ | intro h))
      repeat' ((first | (apply J.regA (.q 0 <| .q 1 <| .q 2 <| .q 3 <| .q 4 <| .q 5 <| .q 6 <| .q 7 <| .q 8 <| .q 9 <| .q 10 <| .q 11 <| .q 12 <| .q 13 <| .q 14 <| .q 15 <| .q 16 <| .q 17 <| .q 18 <| .q 19 <| .q 20 <| .r 21 <| .nil); exact Tryz.mixed; decide +kernel) | (apply G.ix (i := i + j) (b := B) (o := 0); rfl; rfl; omega; omega; rfl) | (apply G.ld; rfl; (apply LdV.one; exact CellV.sl0 (f := isV) (l := x) (by exact mm) hi rfl); rfl) | (apply G.ld; rfl; (apply LdV.one; exact CellV.sl0 (f := isV) (l := y) (by exact mm) hj rfl); rfl) | (apply G.ld; rfl; (apply LdV.one; apply CellV.blk; exact mm; exact gs); rfl) | (apply G.s1; rfl; rfl; rfl; (repeat (first | exact RAt.head | apply RAt.tail)); exact ⟨rfl, rfl⟩; exact sl; exact ss) | (apply J.regQ; exact Tryz.mixed; decide +kernel) | (apply J.regL'; exact Tryz.mixed; decide +kernel)) <;> (refine goR ?_; and_intros <;> (try exact trivial) <;> repeat (first | refine fun (Bk : Nat) => ?_ | intro h)))
      exact J.fin ih2
    · obtain rfl : j = y.length := by omega
      rw [List.drop_length, rowF] at p4
      subst p4
      clear ih2
      all_goals (refine go ?_; and_intros <;> (try exact trivial) <;> repeat (first | refine fun (Bk : Nat) => ?_ | intro h))
      exact J.fin ih
  · rw [List.drop_eq_nil_of_le (by omega), convF] at q4
    subst q4 q2
    clear ih
    all_goals (refine go ?_; and_intros <;> (try exact trivial) <;> repeat (first | refine fun (Bk : Nat) => ?_ | intro h))
    repeat' ((first | (apply G.cN (g := 82) (vs := [.slice (some ⟨B, 0, none⟩) o.length o.length]) (fun a' c' => .slice a' (red o).length c') ((red o).map isV); rfl; rfl; exact fun w' hw' => rReduced_holds (some ⟨B, 0, none⟩) o o.length w' (SlAt.ofBlk isV_len hw' (by exact mm)) wZ hcp; intro a3 c3 hp3 hq3)) <;> (refine go ?_; and_intros <;> (try exact trivial) <;> repeat (first | refine fun (Bk : Nat) => ?_ | intro h)))
    (refine ret1 Tryz.func59 Tryz.results59 ?_; intro w' hw)
    exact ⟨a3, c3, rfl, hw.sl (by exact mm), hq3, hw.below⟩
end Go.Proofs.YtceaamdomkjmlaaGreatDoor
/-
  Contracts: parts of kernels, equal lists, equal kernels.
-/
namespace Go.Proofs.YtceaamdomkjmlaaGreatDoor
open Go.RowKit Go.Sl Go.Num
theorem vPart_holds (m n : Int) (w : World) (h1 : -999999999999999 ≤ m) (h2 : m ≤ 999999999999999) (h3 : -999999999999999 ≤ n) (h4 : n ≤ 999999999999999) (h0 : n ≠ 0) :
    Calls Tryz.prog 78 #[.int .i64 m, .int .i64 n] w fun e w' => e = .returned (qA (rQ ((m : Rat) / (n : Rat)))) ∧ Below w.heap.size w w' := by
  have hm := fun w' (_ : Below w.heap.size w w') => make_holds m n w' h1 h2 h3 h4 h0
  generalize rQ ((m : Rat) / (n : Rat)) = Q at *
  refine enterA [(0, .int .i64 m), (1, .int .i64 n)] Tryz.func78 Tryz.ntmps78 ?_
  all_goals (refine go ?_; and_intros <;> (try exact trivial) <;> repeat (first | refine fun (Bk : Nat) => ?_ | intro h))
  repeat' ((first | (refine G.cvb hm ?_)) <;> (refine go ?_; and_intros <;> (try exact trivial) <;> repeat (first | refine fun (Bk : Nat) => ?_ | intro h)))
  all_goals refine ret1b Tryz.func78 Tryz.results78 ?_
  all_goals rfl
theorem rPart_holds (m n : Int) (w : World) (h1 : -999999999999999 ≤ m) (h2 : m ≤ 999999999999999) (h3 : -999999999999999 ≤ n) (h4 : n ≤ 999999999999999) (h0 : n ≠ 0) :
    Calls Tryz.prog 85 #[.int .i64 m, .int .i64 n] w fun e w' => e = .returned (qA (rQ ((m : Rat) / (n : Rat)))) ∧ Below w.heap.size w w' := by
  have hm := fun w' (_ : Below w.heap.size w w') => sMake_holds m n w' h1 h2 h3 h4 h0
  generalize rQ ((m : Rat) / (n : Rat)) = Q at *
  refine enterA [(0, .int .i64 m), (1, .int .i64 n)] Tryz.func85 Tryz.ntmps85 ?_
  all_goals (refine go ?_; and_intros <;> (try exact trivial) <;> repeat (first | refine fun (Bk : Nat) => ?_ | intro h))
  repeat' ((first | (refine G.cvb hm ?_)) <;> (refine go ?_; and_intros <;> (try exact trivial) <;> repeat (first | refine fun (Bk : Nat) => ?_ | intro h)))
  all_goals refine ret1b Tryz.func85 Tryz.results85 ?_
  all_goals rfl
theorem eq_all {l m : List Int} (hl : l.length = m.length) (h : ∀ i (h : i < l.length) (h2 : i < m.length), i < l.length → l[i] = m[i]) : l = m := List.ext_getElem hl fun i h1 h2 => h i h1 h2 h1
theorem sameInts_holds (a b : Option Addr) (l m : List Int) (c d : Nat) (w : World) (hA : SlAt w a 1 (l.map isV)) (hB : SlAt w b 1 (m.map isV)) (hn : l.length ≤ 1000000000) :
    Calls Tryz.prog 27 #[.slice a l.length c, .slice b m.length d] w fun e w' => e = .returned (.bool (decide (l = m))) ∧ Below w.heap.size w w' := by
  refine enterA [(0, .slice a l.length c), (1, .slice b m.length d)] Tryz.func27 Tryz.ntmps27 ?_
  by_cases hl : l.length = m.length
  case neg =>
    rw [decide_eq_false (fun e => hl (by rw [e]))]
    all_goals (refine go ?_; and_intros <;> (try exact trivial) <;> repeat (first | refine fun (Bk : Nat) => ?_ | intro h))
    all_goals refine ret1b Tryz.func27 Tryz.results27 ?_
    all_goals rfl
  all_goals (refine go ?_; and_intros <;> (try exact trivial) <;> repeat (first | refine fun (Bk : Nat) => ?_ | intro h))
  refine J.loop (c := _) (0 : Nat) (fun s => l.length - s) (fun s => [(0, .slice a l.length c), (1, .slice b m.length d), (5, .int .i64 s)]) (fun s => []) (fun s => s ≤ l.length ∧ ∀ i (h : i < l.length) (h2 : i < m.length), i < s → l[i] = m[i]) ?_ sbT sbL ?_
  · exact ⟨Nat.zero_le _, fun i _ _ h => absurd h (Nat.not_lt_zero _)⟩
  intro i ⟨h1, h2⟩ ih
  by_cases hi : i < l.length
  · have hj : i < m.length := by omega
    obtain ⟨ba, oa, rfl, hra⟩ := SlAt.all hA (by omega)
    obtain ⟨bb, ob, rfl, hrb⟩ := SlAt.all hB (by omega)
    have hri := hra i hi
    have hrj := hrb i hj
    by_cases he : l[i] = m[i]
    · have ih := ih (i + 1) ⟨hi, fun j q1 q2 q3 => by
        rcases Nat.lt_or_ge j i with h | h
        · exact h2 j q1 q2 h
        · obtain rfl : j = i := by omega
          exact he⟩ (by omega)
      clear hra hrb h2
      generalize l[i] = y at *
      generalize m[i] = z at *
      dsimp only [isV] at hri hrj
      all_goals (refine go ?_; and_intros <;> (try exact trivial) <;> repeat (first | refine fun (Bk : Nat) => ?_ | intro h))
      exact J.fin ih
    · rw [decide_eq_false (fun e => he (by subst e; rfl))]
      clear hra hrb h2 ih
      generalize l[i] = y at *
      generalize m[i] = z at *
      dsimp only [isV] at hri hrj
      all_goals (refine go ?_; and_intros <;> (try exact trivial) <;> repeat (first | refine fun (Bk : Nat) => ?_ | intro h))
      all_goals refine ret1b Tryz.func27 Tryz.results27 ?_
      all_goals rfl
  · obtain rfl : i = l.length := by omega
    rw [decide_eq_true (eq_all hl h2)]
    clear ih
    all_goals (refine go ?_; and_intros <;> (try exact trivial) <;> repeat (first | refine fun (Bk : Nat) => ?_ | intro h))
    all_goals refine ret1b Tryz.func27 Tryz.results27 ?_
    all_goals rfl
theorem same_holds (a b : Option Addr) (l m : List Int) (c d : Nat) (w : World) (hA : SlAt w a 1 (l.map isV)) (hB : SlAt w b 1 (m.map isV)) (hn : l.length ≤ 1000000000) :
    Calls Tryz.prog 28 #[.agg #[.slice a l.length c], .agg #[.slice b m.length d]] w fun e w' => e = .returned (.bool (decide (l = m))) ∧ Below w.heap.size w w' := by
  refine enterA [(0, .agg #[.slice a l.length c]), (1, .agg #[.slice b m.length d])] Tryz.func28 Tryz.ntmps28 ?_
  by_cases hl : l.length = m.length
  case neg =>
    rw [decide_eq_false (fun e => hl (by rw [e]))]
    all_goals (refine go ?_; and_intros <;> (try exact trivial) <;> repeat (first | refine fun (Bk : Nat) => ?_ | intro h))
    all_goals refine ret1b Tryz.func28 Tryz.results28 ?_
    all_goals rfl
  all_goals (refine go ?_; and_intros <;> (try exact trivial) <;> repeat (first | refine fun (Bk : Nat) => ?_ | intro h))
  refine J.loop (c := _) (0 : Nat) (fun s => l.length - s) (fun s => [(2, .pointer (some ⟨_, 0, none⟩)), (3, .pointer (some ⟨_, 0, none⟩)), (5, .int .i64 s)]) (fun s => [.blk _ 41 [.slice b m.length d] 1, .blk _ 41 [.slice a l.length c] 1]) (fun s => s ≤ l.length ∧ ∀ i (h : i < l.length) (h2 : i < m.length), i < s → l[i] = m[i]) ?_ sbT sbL ?_
  · exact ⟨Nat.zero_le _, fun i _ _ h => absurd h (Nat.not_lt_zero _)⟩
  intro i ⟨h1, h2⟩ ih
  by_cases hi : i < l.length
  · have hj : i < m.length := by omega
    obtain ⟨ba, oa, rfl, hra⟩ := SlAt.all hA (by omega)
    obtain ⟨bb, ob, rfl, hrb⟩ := SlAt.all hB (by omega)
    have hri := hra i hi
    have hrj := hrb i hj
    by_cases he : l[i] = m[i]
    · have ih := ih (i + 1) ⟨hi, fun j q1 q2 q3 => by
        rcases Nat.lt_or_ge j i with h | h
        · exact h2 j q1 q2 h
        · obtain rfl : j = i := by omega
          exact he⟩ (by omega)
      clear hra hrb h2
      generalize l[i] = y at *
      generalize m[i] = z at *
      dsimp only [isV] at hri hrj
      all_goals (refine go ?_; and_intros <;> (try exact trivial) <;> repeat (first | refine fun (Bk : Nat) => ?_ | intro h))
      exact J.fin ih
    · rw [decide_eq_false (fun e => he (by subst e; rfl))]
      clear hra hrb h2 ih
      generalize l[i] = y at *
      generalize m[i] = z at *
      dsimp only [isV] at hri hrj
      all_goals (refine go ?_; and_intros <;> (try exact trivial) <;> repeat (first | refine fun (Bk : Nat) => ?_ | intro h))
      all_goals refine ret1b Tryz.func28 Tryz.results28 ?_
      all_goals rfl
  · obtain rfl : i = l.length := by omega
    rw [decide_eq_true (eq_all hl h2)]
    clear ih
    all_goals (refine go ?_; and_intros <;> (try exact trivial) <;> repeat (first | refine fun (Bk : Nat) => ?_ | intro h))
    all_goals refine ret1b Tryz.func28 Tryz.results28 ?_
    all_goals rfl
end Go.Proofs.YtceaamdomkjmlaaGreatDoor
/-
  Contracts of rivers: the gauges directly above one; has, free.
-/
namespace Go.Proofs.YtceaamdomkjmlaaGreatDoor
open Go.RowKit Go.Sl Go.Num
/-- Of the first i gauges those directly above g. -/
def abU (l : List Rch) (i : Nat) (g : Int) : List Int := ((List.range i).filter fun k : Nat => decide (dnOf l k = g)).map fun k : Nat => (k : Int)
theorem abU_succ (l : List Rch) (i : Nat) (g : Int) : abU l (i + 1) g = abU l i g ++ if dnOf l i = g then [(i : Int)] else [] := by
  rw [abU, abU, List.range_succ, List.filter_append, List.map_append]
  congr 1
  rw [List.filter_cons]
  split
  · rename_i h
    rw [decide_eq_true_eq] at h
    rw [if_pos h]; rfl
  · rename_i h
    rw [decide_eq_true_eq] at h
    rw [if_neg h]; rfl
theorem abU_len (l : List Rch) (i : Nat) (g : Int) : (abU l i g).length ≤ i := by
  rw [abU, List.length_map]
  have := List.length_filter_le (fun k : Nat => decide (dnOf l k = g)) (List.range i)
  rwa [List.length_range] at this
theorem above_holds (a : Option Addr) (l : List Rch) (c : Nat) (g : Int) (w : World) (hA : SlAt w a 2 (l.map rcV)) (hn : l.length ≤ 1000000) :
    Calls Tryz.prog 52 #[.slice a l.length c, .int .i64 g] w (RetI (fun v => v) w (aboveL l g)) := by
  rw [show aboveL l g = abU l l.length g from rfl]
  refine enterA [(0, .slice a l.length c), (1, .int .i64 g)] Tryz.func52 Tryz.ntmps52 ?_
  all_goals (refine go ?_; and_intros <;> (try exact trivial) <;> repeat (first | refine fun (Bk : Nat) => ?_ | intro h))
  apply J.nilOwn (E := 3) (size := 1)
  refine J.loop (c := _) ((0, none, 0, 0) : Nat × Option Addr × Nat × Nat) (fun s => l.length - s.1) (fun s => [(1, .int .i64 g), (5, .slice s.2.1 s.2.2.2 s.2.2.1), (8, .slice a l.length c), (9, .int .i64 l.length), (10, .int .i64 s.1)]) (fun s => [.own 0 (.slice s.2.1 s.2.2.2 s.2.2.1) 3 1 s.2.2.2 (flat isV (abU l s.1 g))]) (fun s => s.1 ≤ l.length ∧ s.2.2.2 = (abU l s.1 g).length) ?_ sbT sbL ?_
  · exact ⟨Nat.zero_le _, rfl⟩
  intro ⟨i, au, cu, j⟩ ⟨h1, h2⟩ ih
  dsimp only at h1 h2 ⊢
  by_cases hi : i < l.length
  · obtain ⟨ba, oa, rfl, hra⟩ := SlAt.all hA (by omega)
    have hri := hra i hi
    have hl := abU_len l i g
    have hs := abU_succ l i g
    rw [dnOf_at hi] at hs
    have hap : flat isV (abU l i g) ++ isV i = flat isV (abU l i g ++ [(i : Int)]) := flat1 isV _ _
    clear hra
    by_cases hg : l[i].dn = g
    · rw [if_pos hg] at hs
      have ih := fun a2 c2 => ih (i + 1, a2, c2, j + 1) ⟨hi, by dsimp only; rw [hs, List.length_append, h2]; rfl⟩ (by dsimp only; omega)
      simp only [hs] at ih
      generalize l[i] = r at *
      obtain ⟨dn, ws, adr, cap⟩ := r
      dsimp only [rcV, isV] at *
      all_goals (refine go ?_; and_intros <;> (try exact trivial) <;> repeat (first | refine fun (Bk : Nat) => ?_ | intro h))
      repeat' ((first | (apply G.sliceL; rfl; rfl; rfl; rfl; rfl; rfl; rfl; rfl; intro Bs) | (apply G.apV; rfl; rfl; rfl; (repeat (first | exact RAt.head | apply RAt.tail)); exact SrcV.blk (by exact mm) rfl rfl; exact hap; omega; omega; intro a2 c2)) <;> (refine go ?_; and_intros <;> (try exact trivial) <;> repeat (first | refine fun (Bk : Nat) => ?_ | intro h)))
      exact J.fin (ih a2 c2)
    · rw [if_neg hg, List.append_nil] at hs
      have ih := ih (i + 1, au, cu, j) ⟨hi, by dsimp only; rw [hs, h2]⟩ (by dsimp only; omega)
      simp only [hs] at ih
      generalize l[i] = r at *
      obtain ⟨dn, ws, adr, cap⟩ := r
      dsimp only [rcV, isV] at *
      all_goals (refine go ?_; and_intros <;> (try exact trivial) <;> repeat (first | refine fun (Bk : Nat) => ?_ | intro h))
      exact J.fin ih
  · obtain rfl : i = l.length := by omega
    clear ih
    all_goals (refine go ?_; and_intros <;> (try exact trivial) <;> repeat (first | refine fun (Bk : Nat) => ?_ | intro h))
    (refine ret1 Tryz.func52 Tryz.results52 ?_; intro w' hw)
    subst h2
    exact satI hw (i := 0) rfl rfl fun v => v
end Go.Proofs.YtceaamdomkjmlaaGreatDoor
/-
  Contracts of rivers: has, free of the specification.
-/
namespace Go.Proofs.YtceaamdomkjmlaaGreatDoor
open Go.RowKit Go.Sl Go.Num
theorem has_holds (a : Option Addr) (l : List Int) (c : Nat) (n : Int) (w : World) (hA : SlAt w a 1 (l.map isV)) (hn : l.length ≤ 1000000000) :
    Calls Tryz.prog 54 #[.slice a l.length c, .int .i64 n] w fun e w' => e = .returned (.bool (l.contains n)) ∧ Below w.heap.size w w' := by
  rw [List.contains_eq_mem]
  refine enterA [(0, .slice a l.length c), (1, .int .i64 n)] Tryz.func54 Tryz.ntmps54 ?_
  all_goals (refine go ?_; and_intros <;> (try exact trivial) <;> repeat (first | refine fun (Bk : Nat) => ?_ | intro h))
  refine J.loop (c := _) (0 : Nat) (fun s => l.length - s) (fun s => [(0, .slice a l.length c), (1, .int .i64 n), (5, .int .i64 s)]) (fun s => []) (fun s => s ≤ l.length ∧ ∀ i (h : i < l.length), i < s → l[i] ≠ n) ?_ sbT sbL ?_
  · exact ⟨Nat.zero_le _, fun i _ h => absurd h (Nat.not_lt_zero _)⟩
  intro i ⟨h1, h2⟩ ih
  by_cases hi : i < l.length
  · obtain ⟨ba, oa, rfl, hra⟩ := SlAt.all hA (by omega)
    have hri := hra i hi
    by_cases he : l[i] = n
    · rw [decide_eq_true (by rw [← he]; exact List.getElem_mem hi)]
      clear hra h2 ih
      generalize l[i] = y at *
      dsimp only [isV] at hri
      all_goals (refine go ?_; and_intros <;> (try exact trivial) <;> repeat (first | refine fun (Bk : Nat) => ?_ | intro h))
      all_goals refine ret1b Tryz.func54 Tryz.results54 ?_
      all_goals rfl
    · have ih := ih (i + 1) ⟨hi, fun j q1 q3 => by
        rcases Nat.lt_or_ge j i with h | h
        · exact h2 j q1 h
        · obtain rfl : j = i := by omega
          exact he⟩ (by omega)
      clear hra h2
      generalize l[i] = y at *
      dsimp only [isV] at hri
      all_goals (refine go ?_; and_intros <;> (try exact trivial) <;> repeat (first | refine fun (Bk : Nat) => ?_ | intro h))
      exact J.fin ih
  · obtain rfl : i = l.length := by omega
    rw [decide_eq_false (fun h => by
      obtain ⟨j, hj, h3⟩ := List.getElem_of_mem h
      exact h2 j hj hj h3)]
    clear ih
    all_goals (refine go ?_; and_intros <;> (try exact trivial) <;> repeat (first | refine fun (Bk : Nat) => ?_ | intro h))
    all_goals refine ret1b Tryz.func54 Tryz.results54 ?_
    all_goals rfl
/-- All gauges directly above g are in the list. -/
def upB (l : List Rch) (g : Int) (out : List Int) : Bool := (aboveL l g).all fun u => out.contains u
theorem upB_no {l : List Rch} {g : Int} {out : List Int} {i : Nat} (hi : i < l.length) (h1 : l[i].dn = g) (h2 : out.contains (i : Int) = false) : upB l g out = false := by
  rw [upB, List.all_eq_false]
  exact ⟨(i : Int), mem_above.2 ⟨by omega, by omega, by rw [dnOf_at hi]; exact h1⟩, by rw [h2]; decide⟩
theorem upB_yes {l : List Rch} {g : Int} {out : List Int} (h : ∀ i (hi : i < l.length), i < l.length → l[i].dn = g → out.contains (i : Int) = true) : upB l g out = true := by
  rw [upB, List.all_eq_true]
  intro u hu
  obtain ⟨h1, h2, h3⟩ := mem_above.1 hu
  obtain ⟨k, rfl⟩ : ∃ k : Nat, u = k := ⟨u.toNat, by omega⟩
  have hk : k < l.length := by omega
  rw [dnOf_at hk] at h3
  exact h k hk hk h3
theorem free_holds (a b : Option Addr) (l : List Rch) (out : List Int) (c d : Nat) (g : Int) (w : World) (hA : SlAt w a 2 (l.map rcV)) (hB : SlAt w b 1 (out.map isV)) (hn : l.length ≤ 1000000000) (hm : out.length ≤ 1000000000) :
    Calls Tryz.prog 55 #[.slice a l.length c, .int .i64 g, .slice b out.length d] w fun e w' => e = .returned (.bool (upB l g out)) ∧ Below w.heap.size w w' := by
  refine enterA [(0, .slice a l.length c), (1, .int .i64 g), (2, .slice b out.length d)] Tryz.func55 Tryz.ntmps55 ?_
  all_goals (refine go ?_; and_intros <;> (try exact trivial) <;> repeat (first | refine fun (Bk : Nat) => ?_ | intro h))
  refine J.loop (c := _) (0 : Nat) (fun s => l.length - s) (fun s => [(0, .slice a l.length c), (1, .int .i64 g), (2, .slice b out.length d), (7, .int .i64 s)]) (fun s => []) (fun s => s ≤ l.length ∧ ∀ i (hi : i < l.length), i < s → l[i].dn = g → out.contains (i : Int) = true) ?_ sbT sbL ?_
  · exact ⟨Nat.zero_le _, fun i _ h => absurd h (Nat.not_lt_zero _)⟩
  intro i ⟨h1, h2⟩ ih
  by_cases hi : i < l.length
  · obtain ⟨ba, oa, rfl, hra⟩ := SlAt.all hA (by omega)
    have hri := hra i hi
    have hh := fun w' (hb : Below w.heap.size w w') => has_holds b out d i w' (hB.below hb) hm
    have ih := fun (h : l[i].dn = g → out.contains (i : Int) = true) => ih (i + 1) ⟨hi, fun j q1 q3 q4 => by
      rcases Nat.lt_or_ge j i with h5 | h5
      · exact h2 j q1 h5 q4
      · obtain rfl : j = i := by omega
        exact h q4⟩ (by omega)
    have hno := fun h3 h4 => upB_no (g := g) (out := out) hi h3 h4
    clear hra h2
    generalize out.contains (i : Int) = x at *
    generalize l[i] = r at *
    obtain ⟨dn, ws, adr, cap⟩ := r
    dsimp only [rcV] at *
    by_cases he : dn = g
    · cases x
      · rw [hno he rfl]
        clear ih
        all_goals (refine go ?_; and_intros <;> (try exact trivial) <;> repeat (first | refine fun (Bk : Nat) => ?_ | intro h))
        repeat' ((first | (refine G.cvb hh ?_)) <;> (refine go ?_; and_intros <;> (try exact trivial) <;> repeat (first | refine fun (Bk : Nat) => ?_ | intro h)))
        all_goals refine ret1b Tryz.func55 Tryz.results55 ?_
        all_goals rfl
      · have ih := ih fun _ => rfl
        all_goals (refine go ?_; and_intros <;> (try exact trivial) <;> repeat (first | refine fun (Bk : Nat) => ?_ | intro h))
        repeat' ((first | (refine G.cvb hh ?_)) <;> (refine go ?_; and_intros <;> (try exact trivial) <;> repeat (first | refine fun (Bk : Nat) => ?_ | intro h)))
        exact J.fin ih
    · have ih := ih fun h => absurd h he
      all_goals (refine go ?_; and_intros <;> (try exact trivial) <;> repeat (first | refine fun (Bk : Nat) => ?_ | intro h))
      repeat' ((first | (refine G.cvb hh ?_)) <;> (refine go ?_; and_intros <;> (try exact trivial) <;> repeat (first | refine fun (Bk : Nat) => ?_ | intro h)))
      exact J.fin ih
  · obtain rfl : i = l.length := by omega
    rw [upB_yes h2]
    clear ih
    all_goals (refine go ?_; and_intros <;> (try exact trivial) <;> repeat (first | refine fun (Bk : Nat) => ?_ | intro h))
    all_goals refine ret1b Tryz.func55 Tryz.results55 ?_
    all_goals rfl
end Go.Proofs.YtceaamdomkjmlaaGreatDoor
/-
  Contracts of rivers: few gauges.
-/
namespace Go.Proofs.YtceaamdomkjmlaaGreatDoor
open Go.RowKit Go.Sl Go.Num
def fewK (r : Rch) : Prop := ¬ (12 < r.ws.length ∧ r.ws.length ≤ 400 ∨ 402 < r.ws.length)
instance (r : Rch) : Decidable (fewK r) := by unfold fewK; exact inferInstance
def fewRv (most : Nat) (l : List Rch) : Prop := ¬ (most < l.length ∧ l.length ≤ 40 ∨ 50 < l.length) ∧ ∀ r ∈ l, fewK r
instance (most : Nat) (l : List Rch) : Decidable (fewRv most l) := by unfold fewRv; exact inferInstance
theorem fewRv_holds (a : Option Addr) (l : List Rch) (c most : Nat) (w : World) (hA : SlAt w a 2 (l.map rcV)) :
    Calls Tryz.prog 8 #[.slice a l.length c, .int .i64 most] w fun e w' => e = .returned (.bool (decide (fewRv most l))) ∧ Below w.heap.size w w' := by
  refine enterA [(0, .slice a l.length c), (1, .int .i64 most)] Tryz.func8 Tryz.ntmps8 ?_
  by_cases hl : most < l.length ∧ l.length ≤ 40 ∨ 50 < l.length
  · rw [decide_eq_false (fun h => h.1 hl)]
    all_goals (refine go ?_; and_intros <;> (try exact trivial) <;> repeat (first | refine fun (Bk : Nat) => ?_ | intro h))
    all_goals refine ret1b Tryz.func8 Tryz.results8 ?_
    all_goals rfl
  all_goals (refine go ?_; and_intros <;> (try exact trivial) <;> repeat (first | refine fun (Bk : Nat) => ?_ | intro h))
  all_goals
    refine J.loop (c := _) (0 : Nat) (fun s => l.length - s) (fun s => [(0, .slice a l.length c), (5, .int .i64 s)]) (fun s => []) (fun s => s ≤ l.length ∧ ∀ i (h : i < l.length), i < s → fewK l[i]) ?_ sbT sbL ?_
    · exact ⟨Nat.zero_le _, fun i h h2 => absurd h2 (Nat.not_lt_zero _)⟩
    intro k ⟨h1, h2⟩ ih
    by_cases hk : k < l.length
    · obtain ⟨ba, oa, rfl, hra⟩ := SlAt.all hA (by omega)
      have hr := hra k hk
      have h2 : fewK l[k] → ∀ i (h : i < l.length), i < k + 1 → fewK l[i] := fun hq i h h3 => by
        rcases Nat.lt_or_ge i k with h4 | h4
        · exact h2 i h h4
        · obtain rfl : i = k := by omega
          exact hq
      have h3 : ¬ fewK l[k] → decide (fewRv most l) = false := fun hq => decide_eq_false (fun h => hq (h.2 _ (List.getElem_mem hk)))
      have ih := fun hq => ih (k + 1) ⟨hk, h2 hq⟩ (by omega)
      clear hra h2
      generalize l[k] = s at *
      obtain ⟨dn, ws, adr, cap⟩ := s
      dsimp only [rcV, fewK] at *
      by_cases hq : 12 < ws.length ∧ ws.length ≤ 400 ∨ 402 < ws.length
      · rw [h3 (fun h => h hq)]
        clear ih
        all_goals (refine go ?_; and_intros <;> (try exact trivial) <;> repeat (first | refine fun (Bk : Nat) => ?_ | intro h))
        all_goals refine ret1b Tryz.func8 Tryz.results8 ?_
        all_goals rfl
      · have ih := ih hq
        all_goals (refine go ?_; and_intros <;> (try exact trivial) <;> repeat (first | refine fun (Bk : Nat) => ?_ | intro h))
        all_goals exact J.fin ih
    · rw [decide_eq_true ⟨by omega, fun p hp => by
        obtain ⟨i, h3, rfl⟩ := List.getElem_of_mem hp
        exact h2 i h3 (by omega)⟩]
      clear ih
      all_goals (refine go ?_; and_intros <;> (try exact trivial) <;> repeat (first | refine fun (Bk : Nat) => ?_ | intro h))
      all_goals refine ret1b Tryz.func8 Tryz.results8 ?_
      all_goals rfl
end Go.Proofs.YtceaamdomkjmlaaGreatDoor
/-
  Ranges over functions with one value that may go on for ever, unless a round leaves the loop.
-/
namespace Go.Sl
open Go.RowKit
variable {C : Ctx} {st : List (Nat × Value)} {M : List Row} {k : List Item} {q q' : Md} {all rest : List Oper} {d : Nat} {ty : TypeId} {pos : String} {after : Array Edge} {gd : Option (Nat × Bool)}
/-- The function f with the captures cap calls yield with each of es, until it says false; it ends behind them if fin holds. -/
def IterH (P : Program) (w0 : World) (K : List Row) (f : FuncId) (cap : Array Value) {E : Type} (enc : E → List Value) (es : List E) (fin : Prop) : Prop :=
  ∀ {X : Type} (Rs : X → List Row) (Inv : Nat → X → Prop) (Out : X → Prop) (fY : Fn) (cY : Array Value), (fin ∨ ∀ x, ¬ Inv es.length x) →
    (∀ i x e, Inv i x → es[i]? = some e → ∀ M' w, Sat w0 (Rs x ++ M') w → CallsV P (.func fY #[] cY) (enc e) w fun v w' => ∃ x', Sat w0 (Rs x' ++ M') w' ∧ (v = .bool true ∧ Inv (i + 1) x' ∨ v = .bool false ∧ Out x')) →
    ∀ x0, Inv 0 x0 → ∀ M1 w, Sat w0 (K ++ (Rs x0 ++ M1)) w →
      Calls P f (#[.func fY #[] cY] ++ cap) w fun e w' => e = .returned (.tuple #[]) ∧ ∃ x', Sat w0 (K ++ (Rs x' ++ M1)) w' ∧ (Inv es.length x' ∨ Out x')
/-- The statement, where a round may leave. -/
theorem J.rangeH1 {f : FuncId} [hF : Fun C.P f] {cap : Array Value} {g : Operand} {p1 : Tmp} {assign body : Code} {E : Type} {e1 : E → Value} {es : List E} {fin : Prop} {K : List Row} {X : Type} (Rs : X → List Row) (Inv : Nat → X → Prop) (Out : Code → X → Prop) (x0 : X) (M1 : List Row)
    (hIt : IterH C.P C.w0 K f cap (fun e => [e1 e]) es fin) (hfin : fin ∨ ∀ x, ¬ Inv es.length x) (hb : C.b.roundOf = none) (hg : evS st g = some (.func (.func f) #[] cap)) (hp1 : Nat.blt p1 C.N = true) (hM : M.Perm (K ++ (Rs x0 ++ M1))) (hI : Inv 0 x0)
    (hround : ∀ i x e, Inv i x → es[i]? = some e → ∀ L (r : Loop) M', r.state = .ready → r.pending = none →
      J (rctx C.P L C.b.fn C.N (RoundR C.w0 L r Rs M' (Inv (i + 1)) Out) C.w0) ((p1, e1 e) :: st) (.obj L (.loop r) :: Rs x ++ M') [.code assign, .beginRound, .code body])
    (h1 : ∀ Bd x, Inv es.length x → J { C with D := mark Bd :: C.D } st (.obj Bd (.deferred (some [])) :: (K ++ (Rs x ++ M1))) k)
    (h2 : ∀ Bd x c, Out c x → J { C with D := mark Bd :: C.D } st (.obj Bd (.deferred (some [])) :: (K ++ (Rs x ++ M1))) (.code c :: k)) :
    J C st M (.code (.rangeFunc g #[p1] assign body) :: k) := by
  refine J.perm hM (J.range (f := f) (cap := cap) (X := { x : X × Option Code // match x.2 with | none => Inv es.length x.1 | some c => Out c x.1 }) (fun x => K ++ (Rs x.1.1 ++ M1)) (fun x => x.1.2) (fun x => loopSt x.1.2) hb hg (fun x => by rcases x with ⟨⟨_, _ | _⟩, _⟩ <;> simp [loopSt]) ?_ fun Bd x => ?_)
  · intro tmps Bd L w r hr hfit hw
    have hrs : r.state = .ready := by rw [hr]
    have hrp : r.pending = none := by rw [hr]
    have hperm : ∀ (o : Obj) x, (Row.obj L o :: .obj Bd (.deferred (some [])) :: (K ++ (Rs x ++ M1))).Perm (K ++ ((.obj L o :: Rs x) ++ (.obj Bd (.deferred (some [])) :: M1))) := fun o x =>
      perm_cat [[Row.obj L o], [.obj Bd (.deferred (some []))], K, Rs x, M1] [0, 1, 2, 3, 4] [2, 0, 3, 1, 4] rfl
    have hmain := hIt (X := X × Option Code) (fun x => Row.obj L (.loop (loopAt r x.2)) :: Rs x.1) (fun i x => x.2 = none ∧ Inv i x.1) (fun x => ∃ c, x.2 = some c ∧ Out c x.1) (.yield L) #[] (hfin.imp id fun h x hx => h x.1 hx.2) ?_ (x0, none) ⟨rfl, hI⟩ (.obj Bd (.deferred (some [])) :: M1) w (hw.perm (hperm _ x0))
    · refine hmain.mono fun e w2 ⟨q1, ⟨x, o⟩, q2, q3⟩ => ?_
      have key : Sat C.w0 (.obj L (.loop { r with state := loopSt o, pending := o }) :: .obj Bd (.deferred (some [])) :: (K ++ (Rs x ++ M1))) w2 := by
        have h3 := q2.perm (hperm _ x).symm
        cases o with
        | none =>
          have hrr : ({ r with state := .ready, pending := none } : Loop) = r := by rw [hr]
          show Sat C.w0 (.obj L (.loop { r with state := .ready, pending := none }) :: _) w2
          rw [hrr]; exact h3
        | some c => exact h3
      rcases q3 with ⟨q4, q5⟩ | ⟨c, q4, q5⟩
      · dsimp only at q4; subst q4
        exact ⟨_, ⟨(x, none), q5⟩, q1, key⟩
      · dsimp only at q4; subst q4
        exact ⟨_, ⟨(x, some c), q5⟩, q1, key⟩
    · rintro i ⟨x, o⟩ e ⟨h3, h4⟩ h5 M' w1 hw1
      dsimp only at h3 h4 hw1; subst h3
      have h6 := hround i x e h4 h5 L r M' hrs hrp
      refine .yield L r rfl (hw1.hold _ (.head _)) (by rw [hr]; rfl) ?_
      have hf6 := hfit.put hp1 (e1 e)
      have e3 : (r.params.zip [e1 e].toArray).foldl (fun tmps (t, a) => tmps.setIfInBounds t a) r.tmps = (({ tmps := tmps, defers := [] } : Act).put (some p1) (e1 e)).tmps := by
        have e0 : ((#[p1] : Array Tmp).zip [e1 e].toArray) = #[(p1, e1 e)] := by simp
        rw [hr]; dsimp only; rw [e0]; simp [Act.put]
      rw [e3, show r.fn = C.b.fn by rw [hr], show r.assign = assign by rw [hr], show r.body = body by rw [hr]]
      have h7 := rounds_of hf6 hw1 h6
      intro c cs
      obtain ⟨v, w', ⟨x', h8⟩, h9⟩ := h7 c cs
      refine ⟨v, w', ?_, h9⟩
      rcases h8 with ⟨g1, g2, g3⟩ | ⟨cc, g1, g2, g3⟩
      · exact ⟨(x', none), g3, .inl ⟨g1, rfl, g2⟩⟩
      · exact ⟨(x', some cc), g3, .inr ⟨g1, cc, rfl, g2⟩⟩
  · rcases x with ⟨⟨x, _ | c⟩, hx⟩
    · exact h1 Bd x hx
    · exact h2 Bd x c hx
end Go.Sl
/-
  Calls that lay rows; rows brought to the front; what later chapters share.
-/
namespace Go.Sl
open Go.RowKit
variable {C : Ctx} {st : List (Nat × Value)} {M : List Row} {k : List Item} {q q' : Md} {all rest : List Oper} {d : Nat} {opn : Op} {ty : TypeId} {pos : String} {after : Array Edge} {gd : Option (Nat × Bool)}
/-- A call whose value is one of many. -/
theorem G.cX {X : Type} {g : FuncId} {args : List Operand} {vs : List Value} {at_ : Array TypeId} {v : X → Value} {w : World} [hF : Fun C.P g]
    (hc : ∀ w', Below w.heap.size w w' → Calls C.P g vs.toArray w' fun e w'' => ∃ x, e = .returned (v x) ∧ Below w'.heap.size w' w'') (h : ∀ x, G q' C all ((d, v x) :: st) M rest k) (hw : w = C.w0 := by rfl) (ha : evL st args = some vs := by rfl) (hs : sideB all st gd d C.N q.ext = some q' := by rfl) :
    G q C all st M ({ dst := some d, op := .call { callee := .value (.func g), args := args.toArray, argTypes := at_ }, type := ty, pos, after, guard := gd } :: rest) k := by
  subst hw
  obtain ⟨g1, g2, g3⟩ := sideB_ok hs
  exact G.call0 (X := X) (v := v) (Mn := fun _ => []) g1 g2 g3 ha (fun w hw => (hc w hw.below).mono fun e w' ⟨x, h1, h2⟩ => ⟨x, h1, hw.ext h2⟩) h
/-- A call that lays rows. -/
theorem G.cR {X : Type} {g : FuncId} {args : List Operand} {vs : List Value} {at_ : Array TypeId} {v : X → Value} {Mn : X → List Row} (ha : evL st args = some vs) (hs : sideB all st gd d C.N q.ext = some q') [hF : Fun C.P g]
    (hc : ∀ w, Sat C.w0 M w → Calls C.P g vs.toArray w fun e w' => ∃ x, e = .returned (v x) ∧ Sat C.w0 (Mn x ++ M) w') (h : ∀ x, G q' C all ((d, v x) :: st) (Mn x ++ M) rest k) :
    G q C all st M ({ dst := some d, op := .call { callee := .value (.func g), args := args.toArray, argTypes := at_ }, type := ty, pos, after, guard := gd } :: rest) k := by
  obtain ⟨g1, g2, g3⟩ := sideB_ok hs
  exact G.call0 g1 g2 g3 ha hc h
end Go.Sl
namespace Go.Sl
end Go.Sl
namespace Go.Sl
open Go.RowKit
end Go.Sl
namespace Go.Sl
open Go.RowKit Go.ChangeShapes Go.WideShapes
theorem list1 {A : Type} {l : List A} (h : l.length = 1) : ∃ a, l = [a] := by
  match l, h with
  | [a], _ => exact ⟨a, rfl⟩
theorem Reads.struct1 {P : Program} {T : TypeId} {A1 : Type} {f1 : A1 → List Value} {G1 : World → A1 → Prop} {d1 : Field} {n : Nat} (ht : P.underlying T = some (.struct #[d1])) (hn : P.cellsOf T = n) (hT : tight P #[d1] n = true) (h1 : Reads P d1.type f1 G1) :
    Reads P T f1 G1 := .mk fun enc w fuel cs x hx => by
  obtain ⟨hj, hl, hf⟩ := Reads.struct ht hn hT hx
  obtain ⟨p1, hp⟩ := list1 hl
  rw [hp] at hj hf
  obtain ⟨_, _, r1⟩ := hf 0 d1 p1 rfl rfl
  obtain ⟨a1, rfl, g1⟩ := h1.go enc w _ _ _ r1
  exact ⟨a1, by rw [hj]; simp, g1⟩
end Go.Sl
namespace Go.Sl
open Go.RowKit
end Go.Sl
namespace Go.Sl
open Go.RowKit
variable {C : Ctx} {st : List (Nat × Value)} {M : List Row} {k : List Item} {q q' : Md} {all rest : List Oper} {d : Nat} {opn : Op} {ty : TypeId} {pos : String} {after : Array Edge} {gd : Option (Nat × Bool)}
/-- A call that changes some rows, wherever they stand. -/
theorem G.cP {X : Type} {g : FuncId} {args : List Operand} {vs : List Value} {at_ : Array TypeId} (v : X → Value) (T : List Row) (Tn : X → List Row) {M1 : List Row} (ha : evL st args = some vs) (hs : sideB all st gd d C.N q.res = some q') [hF : Fun C.P g] (hp : M.Perm (T ++ M1))
    (hc : ∀ w, Sat C.w0 (T ++ M1) w → Calls C.P g vs.toArray w fun e w' => ∃ x, e = .returned (v x) ∧ Sat C.w0 (Tn x ++ M1) w') (h : ∀ x, G q' C all ((d, v x) :: st) (Tn x ++ M1) rest k) :
    G q C all st M ({ dst := some d, op := .call { callee := .value (.func g), args := args.toArray, argTypes := at_ }, type := ty, pos, after, guard := gd } :: rest) k :=
  G.cM v (fun x => Tn x ++ M1) hs ha (fun w hw => hc w (hw.perm hp)) h
/-- The same for a function value. -/
theorem G.cPf {X : Type} {g : FuncId} {f : Operand} {cap : Array Value} {args : List Operand} {vs : List Value} {at_ : Array TypeId} (v : X → Value) (T : List Row) (Tn : X → List Row) {M1 : List Row} (hf : evS st f = some (.func (.func g) #[] cap)) (ha : evL st args = some vs) (hs : sideB all st gd d C.N q.res = some q') [hF : Fun C.P g] (hp : M.Perm (T ++ M1))
    (hc : ∀ w, Sat C.w0 (T ++ M1) w → Calls C.P g (vs.toArray ++ cap) w fun e w' => ∃ x, e = .returned (v x) ∧ Sat C.w0 (Tn x ++ M1) w') (h : ∀ x, G q' C all ((d, v x) :: st) (Tn x ++ M1) rest k) :
    G q C all st M ({ dst := some d, op := .call { callee := .value f, args := args.toArray, argTypes := at_ }, type := ty, pos, after, guard := gd } :: rest) k := by
  obtain ⟨g1, g2, g3⟩ := sideB_ok hs
  refine G.res g1 rfl g3 fun a w hfit hw K hK => ?_
  rw [run_call (hfit.eval hf) (hfit.evals ha)]
  refine (hc w (hw.perm hp)).mono fun e w' hh => ?_
  obtain ⟨x, rfl, hs⟩ := hh
  exact hK _ _ _ _ (h x) (hfit.put g2 _) rfl hs
/-- A slice that is nil is the call's own. -/
theorem G.nilOwn {E size : Nat} (h : G .seq C all st (.own 0 (.slice none 0 0) E size 0 [] :: M) rest k) : G .seq C all st M rest k :=
  ⟨fun a w hf hd hw => h.go a w hf hd (hw.new (Below.refl _ _) ⟨by simp, .inl ⟨rfl, rfl⟩⟩ (Nat.zero_le _) fun b hb => by simp [Row.sup, Value.ownBlock] at hb)⟩
/-- A call that hands back a value with a new slice in it, of which more is known. -/
theorem G.cNq {g : FuncId} {args : List Operand} {vs : List Value} {at_ : Array TypeId} {sz : Nat} (Q : Option Addr → Nat → Prop) (v : Option Addr → Nat → Value) (L : List (List Value)) (ha : evL st args = some vs) (hs : sideB all st gd d C.N q.ext = some q') [hF : Fun C.P g]
    (hc : ∀ w, Sat C.w0 M w → Calls C.P g vs.toArray w fun e w' => ∃ a' c', e = .returned (v a' c') ∧ SlAt w' a' sz L ∧ (∀ p, a' = some p → w.heap.size ≤ p.block) ∧ Below w.heap.size w w' ∧ Q a' c')
    (h : ∀ a' c', (0 < L.length → ∃ b off, a' = some ⟨b, off, none⟩) → (∀ p, a' = some p → C.w0.heap.size ≤ p.block) → Q a' c' → G q' C all ((d, v a' c') :: st) (slRow C.w0.heap.size a' sz L :: M) rest k) :
    G q C all st M ({ dst := some d, op := .call { callee := .value (.func g), args := args.toArray, argTypes := at_ }, type := ty, pos, after, guard := gd } :: rest) k := by
  obtain ⟨g1, g2, g3⟩ := sideB_ok hs
  refine G.call0 (X := { x : Option Addr × Nat // (0 < L.length → ∃ b off, x.1 = some ⟨b, off, none⟩) ∧ (∀ p, x.1 = some p → C.w0.heap.size ≤ p.block) ∧ Q x.1 x.2 }) (v := fun x => v x.1.1 x.1.2) (Mn := fun x => [slRow C.w0.heap.size x.1.1 sz L]) g1 g2 g3 ha (fun w hw => (hc w hw).mono fun e w' he => ?_) fun x => h x.1.1 x.1.2 x.2.1 x.2.2.1 x.2.2.2
  obtain ⟨a', c', rfl, h1, h2, h3, hQ⟩ := he
  refine ⟨⟨(a', c'), fun h0 => (let ⟨b, off, e, _⟩ := h1 h0; ⟨b, off, e⟩), fun p hp => Nat.le_trans hw.size (h2 p hp), hQ⟩, rfl, (hw.ext h3).addFact (Nat.le_refl _) h1 fun b hb => ?_⟩
  obtain ⟨h0, p, h5, h6, h7⟩ := hb
  dsimp only at h5
  obtain ⟨b', off, h8, hr⟩ := h1 h0
  have hlt := (hr 0 _ (List.getElem?_eq_getElem h0)).1
  have := h2 p h5
  rw [h5] at h8; cases h8
  simp only at h6 this
  subst h6
  exact ⟨h7, hlt, hw.free (.inr (.inl this)) h7⟩
/-- A block becomes the call's own slice, in the midst of a region. -/
theorem G.blkCut {A : Type} {f : A → List Value} {g cap E size : Nat} {l l' : List A} (m : Nat) {F : Row → List Row} (hf : ∀ x, (f x).length = size) (hm : RAt (.blk g E (flat f l) (cap * size)) M F) (h1 : m ≤ cap) (h2 : cap ≤ maxLen) (h3 : m ≤ l.length) (h4 : l.take m = l') (h : G .seq C all st (F (.own 0 (.slice (some ⟨g, 0, none⟩) m cap) E size m (flat f l'))) rest k) : G .seq C all st M rest k :=
  ⟨fun a w hfit hd hw => by
    obtain ⟨i, h5, h6⟩ := hm.idx
    obtain ⟨rs, h7, h8⟩ := hw.hold _ (List.mem_of_getElem? h5)
    rw [← h6] at h
    refine h.go a w hfit hd (hw.swap h5 (r' := .own 0 (.slice (some ⟨g, 0, none⟩) m cap) E size m (flat f l')) ?_ rfl fun b hb => ?_)
    · subst h4
      have h9 : m * size ≤ (flat f l).length := by rw [flat_len hf]; exact Nat.mul_le_mul_right _ h3
      refine ⟨by rw [flat_len hf, List.length_take, Nat.min_eq_left h3], .inr ⟨g, cap, _, rfl, Nat.zero_le _, h7, h1, h2, by simp [h8], ?_⟩⟩
      rw [← flat_take hf l m, List.take_append_of_le_length h9]
    · cases hb; rfl⟩
/-- A slice of things that hold slices. -/
structure NstAt {A : Type} (f : A → List Value) (sz : Nat) (adr : A → Option Addr) (sz2 : Nat) (F2 : A → List (List Value)) (w : World) (a : Option Addr) (L : List A) : Prop where
  out : SlAt w a sz (L.map f)
  inn : ∀ r ∈ L, SlAt w (adr r) sz2 (F2 r)
section
variable {A : Type} {f : A → List Value} {sz : Nat} {adr : A → Option Addr} {sz2 : Nat} {F2 : A → List (List Value)}
theorem NstAt.below {w w' : World} {a : Option Addr} {L : List A} (h : NstAt f sz adr sz2 F2 w a L) (hb : Below w.heap.size w w') : NstAt f sz adr sz2 F2 w' a L := ⟨h.out.below hb, fun r hr => (h.inn r hr).below hb⟩
def nstRow (N : Nat) (f : A → List Value) (sz : Nat) (adr : A → Option Addr) (sz2 : Nat) (F2 : A → List (List Value)) (a : Option Addr) (L : List A) : Row :=
  .fact N (fun b => slSup N a (L.map f) b ∨ ∃ r ∈ L, slSup N (adr r) (F2 r) b) (fun w => NstAt f sz adr sz2 F2 w a L) fun w w' h hw =>
    ⟨slKeep w w' (fun b hb => h b (hb.imp id .inl)) hw.out, fun r hr => slKeep w w' (fun b hb => h b (hb.imp id fun hb => .inr ⟨r, hr, hb⟩)) (hw.inn r hr)⟩
theorem Sat.nst {w0 w : World} {N : Nat} {a : Option Addr} {L : List A} (h : Sat w0 M w) (hm : nstRow N f sz adr sz2 F2 a L ∈ M := by (repeat (first | exact List.Mem.head _ | apply List.Mem.tail))) : NstAt f sz adr sz2 F2 w a L := h.hold _ hm
theorem Sat.supN {C : Ctx} {w w' : World} {sz : Nat} {a : Option Addr} {L : List (List Value)} {b : Nat} (hw : Sat C.w0 M w) (h1 : SlAt w' a sz L) (h2 : ∀ p, a = some p → w.heap.size ≤ p.block) (hb : slSup C.w0.heap.size a L b) : C.w0.heap.size ≤ b ∧ b < w'.heap.size ∧ ∀ r ∈ M, ¬ r.lock b := by
  obtain ⟨h0, p, h5, h6, h7⟩ := hb
  obtain ⟨b', off, h8, hr⟩ := h1 h0
  have hlt := (hr 0 _ (List.getElem?_eq_getElem h0)).1
  have := h2 p h5
  rw [h5] at h8; cases h8
  simp only at h6 this
  subst h6
  exact ⟨h7, hlt, hw.free (.inr (.inl this)) h7⟩
/-- A new slice of things that hold new slices. -/
def RetN (f : A → List Value) (sz : Nat) (adr : A → Option Addr) (sz2 : Nat) (F2 : A → List (List Value)) (P : List A → Prop) (F : List A → Option Addr → Nat → Value) (w : World) (e : Ending) (w' : World) : Prop :=
  ∃ L a' c', P L ∧ e = .returned (F L a' c') ∧ NstAt f sz adr sz2 F2 w' a' L ∧ (∀ p, a' = some p → w.heap.size ≤ p.block) ∧ (∀ r ∈ L, ∀ p, adr r = some p → w.heap.size ≤ p.block) ∧ Below w.heap.size w w'
/-- A call that makes such a slice. -/
theorem G.cNst {g : FuncId} {args : List Operand} {vs : List Value} {at_ : Array TypeId} (v : List A → Option Addr → Nat → Value) (P : List A → Prop) (ha : evL st args = some vs) (hs : sideB all st gd d C.N q.ext = some q') [hF : Fun C.P g]
    (hc : ∀ w, Sat C.w0 M w → Calls C.P g vs.toArray w (RetN f sz adr sz2 F2 P v w))
    (h : ∀ L a' c', P L → (∀ p, a' = some p → C.w0.heap.size ≤ p.block) → (∀ r ∈ L, ∀ p, adr r = some p → C.w0.heap.size ≤ p.block) → G q' C all ((d, v L a' c') :: st) (nstRow C.w0.heap.size f sz adr sz2 F2 a' L :: M) rest k) :
    G q C all st M ({ dst := some d, op := .call { callee := .value (.func g), args := args.toArray, argTypes := at_ }, type := ty, pos, after, guard := gd } :: rest) k := by
  obtain ⟨g1, g2, g3⟩ := sideB_ok hs
  refine G.call0 (X := { x : List A × Option Addr × Nat // P x.1 ∧ (∀ p, x.2.1 = some p → C.w0.heap.size ≤ p.block) ∧ ∀ r ∈ x.1, ∀ p, adr r = some p → C.w0.heap.size ≤ p.block }) (v := fun x => v x.1.1 x.1.2.1 x.1.2.2) (Mn := fun x => [nstRow C.w0.heap.size f sz adr sz2 F2 x.1.2.1 x.1.1]) g1 g2 g3 ha (fun w hw => (hc w hw).mono fun e w' he => ?_) fun x => h x.1.1 x.1.2.1 x.1.2.2 x.2.1 x.2.2.1 x.2.2.2
  obtain ⟨L, a', c', hP, rfl, h1, h2, h3, h4⟩ := he
  refine ⟨⟨(L, a', c'), hP, fun p hp => Nat.le_trans hw.size (h2 p hp), fun r hr p hp => Nat.le_trans hw.size (h3 r hr p hp)⟩, rfl, (hw.ext h4).addFact (Nat.le_refl _) h1 fun b hb => ?_⟩
  rcases hb with hb | ⟨r, hr, hb⟩
  · exact hw.supN h1.out h2 hb
  · exact hw.supN (h1.inn r hr) (h3 r hr) hb
end
end Go.Sl
/-
  A region that draws its order, cut in two: operations in any order, then others in a row. The latter may call a loop's round.
-/
namespace Go.Sl
open Go.RowKit
variable {C : Ctx} {st : List (Nat × Value)} {M : List Row} {k : List Item}
/-- From n on each operation waits for all before it; those before n wait for earlier ones alone. -/
def cutB (l : List Oper) (n : Nat) : Bool :=
  (List.range l.length).all fun j => match l[j]? with
    | none => true
    | some o => (o.after.all fun e => !Region.binds .any e || decide (e.on < j)) && (if j < n then (match o.guard with | some (g, _) => decide (g < n) | none => true) else (List.range j).all fun i => ((Region.before l.toArray).getD j 0).testBit i)
structure CutOk (l : List Oper) (n : Nat) : Prop where
  back : ∀ j o, l[j]? = some o → ∀ e ∈ o.after, Region.binds .any e = true → e.on < j
  gd : ∀ j o g v, l[j]? = some o → j < n → o.guard = some (g, v) → g < n
  wait : ∀ j i, j < l.length → n ≤ j → i < j → Path l.toArray j i
theorem cut_ok {l : List Oper} {n : Nat} (h : cutB l n = true) : CutOk l n := by
  have key : ∀ j o, l[j]? = some o → (∀ e ∈ o.after, Region.binds .any e = true → e.on < j) ∧ (if j < n then (match o.guard with | some (g, _) => decide (g < n) | none => true) else (List.range j).all fun i => ((Region.before l.toArray).getD j 0).testBit i) = true := fun j o ho => by
    have hj := (List.getElem?_eq_some_iff.1 ho).1
    have := List.all_eq_true.1 h j (List.mem_range.2 hj)
    rw [ho] at this
    dsimp only at this
    rw [Bool.and_eq_true] at this
    refine ⟨fun e he hb => ?_, this.2⟩
    have h2 := (Array.all_eq_true_iff_forall_mem.1 this.1) e he
    rw [hb] at h2
    simpa using h2
  refine ⟨fun j o ho => (key j o ho).1, fun j o g v ho hj hg => ?_, fun j i hj hn hi => ?_⟩
  · have := (key j o ho).2
    rw [if_pos hj, hg] at this
    exact of_decide_eq_true this
  · have ho : l[j]? = some l[j] := List.getElem?_eq_getElem hj
    have := (key j _ ho).2
    rw [if_neg (by omega)] at this
    exact before_path (List.all_eq_true.1 this i (List.mem_range.2 hi))
theorem lin_cons {ops : Array Oper} {F t : Nat} {listed : Array Bool} : (Region.ready .any ops listed = [] ∧ Region.linearise.go .any ops (F + 1) t listed [] = []) ∨ ∃ i t', i ∈ Region.ready .any ops listed ∧ Region.linearise.go .any ops (F + 1) t listed [] = i :: Region.linearise.go .any ops F t' (listed.setIfInBounds i true) [] := by
  cases hi : (Region.ready .any ops listed)[t % (Region.ready .any ops listed).length]? with
  | none =>
    left
    have hnil : Region.ready .any ops listed = [] := by
      cases hr : Region.ready .any ops listed with
      | nil => rfl
      | cons x xs =>
        rw [hr] at hi
        have hlt : t % (x :: xs).length < (x :: xs).length := Nat.mod_lt _ (by simp)
        simp at hi
        simp at hlt
        omega
    refine ⟨hnil, ?_⟩
    simp only [Region.linearise.go]
    change (match (Region.ready .any ops listed)[t % (Region.ready .any ops listed).length]? with
      | some i => Region.linearise.go .any ops F (t / (Region.ready .any ops listed).length) (listed.setIfInBounds i true) [i]
      | none => [].reverse) = []
    rw [hi]; rfl
  | some i =>
    right
    refine ⟨i, t / (Region.ready .any ops listed).length, List.mem_of_getElem? hi, ?_⟩
    simp only [Region.linearise.go]
    change (match (Region.ready .any ops listed)[t % (Region.ready .any ops listed).length]? with
      | some i => Region.linearise.go .any ops F (t / (Region.ready .any ops listed).length) (listed.setIfInBounds i true) [i]
      | none => [].reverse) = _
    rw [hi]
    simp only []
    rw [linearise_go_acc, List.reverse_singleton, List.singleton_append]
/-- What is still to come, when the first j are listed. -/
theorem lin_rest {l : List Oper} {n : Nat} (hc : CutOk l n) : ∀ (F j t : Nat) (listed : Array Bool), n ≤ j → j ≤ l.length → l.length - j ≤ F → listed.size = l.length → (∀ i, i < l.length → listed.getD i false = decide (i < j)) → DC l.toArray listed →
    Region.linearise.go .any l.toArray F t listed [] = List.range' j (l.length - j)
  | 0, j, t, listed, h1, h2, h3, _, _, _ => by
    rw [show l.length - j = 0 by omega]; rfl
  | F + 1, j, t, listed, h1, h2, h3, hz, h4, hdc => by
    have hget : ∀ i, i < l.length → listed.getD i true = decide (i < j) := fun i hi => by
      rw [← h4 i hi, Array.getD_eq_getD_getElem?, Array.getD_eq_getD_getElem?, Array.getElem?_eq_getElem (by omega)]; rfl
    have hrd : ∀ i, i ∈ Region.ready .any l.toArray listed → i = j ∧ j < l.length := fun i hi => by
      obtain ⟨q1, o, q2, _⟩ := mem_ready.1 hi
      have q3 := (Array.getElem?_eq_some_iff.1 q2).1
      rw [List.size_toArray] at q3
      rw [hget i q3, decide_eq_false_iff_not] at q1
      rcases Nat.lt_or_ge j i with q4 | q4
      · have := (hc.wait i j q3 (by omega) q4).listed hdc hi
        rw [h4 j (by omega), decide_eq_true_eq] at this
        omega
      · exact ⟨by omega, by omega⟩
    rcases lin_cons (ops := l.toArray) (F := F) (t := t) (listed := listed) with ⟨q1, q2⟩ | ⟨i, t', q1, q2⟩
    · rcases Nat.lt_or_ge j l.length with hj | hj
      · have : j ∈ Region.ready .any l.toArray listed := mem_ready.2 ⟨by rw [hget j hj]; simp, l[j], by simp [hj], fun e he hb => by
          have := hc.back j _ (List.getElem?_eq_getElem hj) e he hb
          rw [h4 _ (by omega)]; simpa using this⟩
        rw [q1] at this; cases this
      · rw [q2, show l.length - j = 0 by omega]; rfl
    · obtain ⟨rfl, hj⟩ := hrd i q1
      rw [q2, lin_rest hc F (i + 1) t' _ (by omega) (by omega) (by omega) (by simpa using hz) (fun m hm => ?_) (hdc.set q1), show l.length - i = l.length - (i + 1) + 1 by omega, List.range'_succ]
      by_cases e : i = m
      · subst e
        rw [Array.getD_eq_getD_getElem?, Array.getElem?_setIfInBounds_self_of_lt (by omega)]; simp
      · rw [getD_set_ne false e, h4 m hm]
        exact decide_eq_decide.2 (by omega)
theorem wanted_take {l : List Oper} {n j : Nat} (hc : CutOk l n) {o : Oper} (ho : l[j]? = some o) (hj : j < n) (tmps : Array Value) : Region.wanted o (yielded (l.take n).toArray tmps) = Region.wanted o (yielded l.toArray tmps) := by
  unfold Region.wanted
  cases hg : o.guard with
  | none => rfl
  | some p =>
    obtain ⟨g, v⟩ := p
    have := hc.gd j o g v ho hj hg
    have e : yielded (l.take n).toArray tmps g = yielded l.toArray tmps g := by
      unfold yielded
      rw [List.getElem?_toArray, List.getElem?_toArray, List.getElem?_take_of_lt this]
    dsimp only
    rw [e]
/-- The first n in any order, then the rest. -/
theorem run_cut {l : List Oper} {n : Nat} (hn : n ≤ l.length) (hc : CutOk l n) (hnd : noDefer l = true) : ∀ (c F t : Nat) (listed listed' : Array Bool) (a : Act) (w : World), listed.size = l.length → listed'.size = n → (∀ i, i < n → listed'.getD i false = listed.getD i false) → (∀ i, n ≤ i → listed.getD i false = false) → DC l.toArray listed →
    ((List.range l.length).filter fun i => !listed.getD i true).length ≤ F →
    wpAny C.P .any (l.take n).toArray (Qk C (.inRegion l.toArray (List.range' n (l.length - n)) :: k)) c listed' a w → Run C.P C.b C.PHI (.inRegion l.toArray (Region.linearise.go .any l.toArray F t listed []) :: k) a w := by
  have hopn : ∀ i, i < n → (l.take n).toArray[i]? = l.toArray[i]? := fun i hi => by
    rw [List.getElem?_toArray, List.getElem?_toArray, List.getElem?_take_of_lt hi]
  -- ready in the first part
  have hrdy : ∀ (listed listed' : Array Bool), listed.size = l.length → listed'.size = n → (∀ i, i < n → listed'.getD i false = listed.getD i false) → ∀ i, i < n → i ∈ Region.ready .any l.toArray listed → i ∈ Region.ready .any (l.take n).toArray listed' := fun listed listed' z1 z2 h1 i hi hr => by
    obtain ⟨q1, o, q2, q3⟩ := mem_ready.1 hr
    refine mem_ready.2 ⟨?_, o, by rw [hopn i hi]; exact q2, fun e he hb => ?_⟩
    · have := h1 i hi
      rw [Array.getD_eq_getD_getElem?, Array.getElem?_eq_getElem (by omega)] at q1 this ⊢
      rw [Array.getD_eq_getD_getElem?, Array.getElem?_eq_getElem (by omega)] at this
      simp only [Option.getD_some] at q1 this ⊢
      rw [this]; exact q1
    · have q4 := hc.back i o (by rw [← List.getElem?_toArray]; exact q2) e he hb
      rw [h1 _ (by omega)]; exact q3 e he hb
  -- some one is ready
  have hleast : ∀ (listed : Array Bool), listed.size = l.length → ∀ m, m < n → listed.getD m false = false → ∃ i, i < n ∧ i ∈ Region.ready .any l.toArray listed := fun listed hz m => by
    induction m using Nat.strongRecOn with
    | _ m ih =>
      intro hm hl
      by_cases hx : ∃ m', m' < m ∧ listed.getD m' false = false
      · obtain ⟨m', h1, h2⟩ := hx
        exact ih m' h1 (by omega) h2
      · refine ⟨m, hm, mem_ready.2 ⟨?_, l[m], by simp [show m < l.length by omega], fun e he hb => ?_⟩⟩
        · rw [Array.getD_eq_getD_getElem?, Array.getElem?_eq_getElem (by omega)] at hl ⊢; exact hl
        · have := hc.back m _ (List.getElem?_eq_getElem (by omega)) e he hb
          by_cases h3 : listed.getD e.on false = true
          · exact h3
          · rw [Bool.not_eq_true] at h3
            exact absurd ⟨_, this, h3⟩ hx
  have hdone : ∀ (F t : Nat) (listed : Array Bool) (a : Act) (w : World), listed.size = l.length → (∀ i, n ≤ i → listed.getD i false = false) → DC l.toArray listed → ((List.range l.length).filter fun i => !listed.getD i true).length ≤ F → (∀ m, m < n → listed.getD m false = true) →
      Qk C (.inRegion l.toArray (List.range' n (l.length - n)) :: k) .normal a w → Run C.P C.b C.PHI (.inRegion l.toArray (Region.linearise.go .any l.toArray F t listed []) :: k) a w := fun F t listed a w hz h2 hdc hF hall hQ => by
    have hl : ∀ i, i < l.length → listed.getD i false = decide (i < n) := fun i hi => by
      by_cases h : i < n
      · rw [hall i h]; simp [h]
      · rw [h2 i (by omega)]; simp [h]
    have hF2 : l.length - n ≤ F := by
      refine Nat.le_trans ?_ hF
      have : (List.range l.length).filter (fun i => !listed.getD i true) = (List.range l.length).filter (fun i => decide (n ≤ i)) := List.filter_congr fun i hi => by
        rw [List.mem_range] at hi
        have := hl i hi
        rw [Array.getD_eq_getD_getElem?, Array.getElem?_eq_getElem (by omega)] at this ⊢
        simp only [Option.getD_some] at this ⊢
        rw [this]
        by_cases h : i < n
        · simp [h]
        · simp [h, Nat.le_of_not_lt h]
      rw [this]
      have e : (List.range' n (l.length - n)).Sublist ((List.range l.length).filter fun i => decide (n ≤ i)) := by
        have h3 : (List.range' n (l.length - n)).filter (fun i => decide (n ≤ i)) = List.range' n (l.length - n) := List.filter_eq_self.2 fun i hi => by
          rw [List.mem_range'_1] at hi; exact decide_eq_true hi.1
        rw [← h3]
        refine List.Sublist.filter _ ?_
        rw [List.range_eq_range', show l.length = n + (l.length - n) by omega, List.range'_append_1.symm]
        rw [show n + (l.length - n) - n = l.length - n by omega, Nat.zero_add]
        exact List.sublist_append_right ..
      have := e.length_le
      rwa [List.length_range'] at this
    rw [lin_rest hc F n t listed (Nat.le_refl _) hn hF2 hz hl hdc]
    exact hQ.2
  intro c
  induction c with
  | zero =>
    intro F t listed listed' a w z1 z2 h1 h2 hdc hF hw
    refine hdone F t listed a w z1 h2 hdc hF (fun m hm => ?_) hw.2
    by_cases h : listed.getD m false = true
    · exact h
    · rw [Bool.not_eq_true] at h
      obtain ⟨i, q1, q2⟩ := hleast listed z1 m hm h
      have := hrdy listed listed' z1 z2 h1 i q1 q2
      rw [hw.1] at this; cases this
  | succ c ih =>
    intro F t listed listed' a w z1 z2 h1 h2 hdc hF hw
    by_cases hall : ∀ m, m < n → listed.getD m false = true
    · refine hdone F t listed a w z1 h2 hdc hF hall (hw.1 ?_)
      refine List.eq_nil_iff_forall_not_mem.2 fun i hi => ?_
      obtain ⟨q1, o, q2, _⟩ := mem_ready.1 hi
      have q3 := (Array.getElem?_eq_some_iff.1 q2).1
      rw [List.size_toArray, List.length_take] at q3
      have := h1 i (by omega)
      rw [hall i (by omega), Array.getD_eq_getD_getElem?, Array.getElem?_eq_getElem (by omega)] at this
      rw [Array.getD_eq_getD_getElem?, Array.getElem?_eq_getElem (by omega)] at q1
      simp only [Option.getD_some] at q1 this
      rw [this] at q1; cases q1
    · have hex : ∃ m, m < n ∧ listed.getD m false = false := by
        by_cases h : ∃ m, m < n ∧ listed.getD m false = false
        · exact h
        · exact absurd (fun m hm => by
            by_cases h3 : listed.getD m false = true
            · exact h3
            · rw [Bool.not_eq_true] at h3; exact absurd ⟨m, hm, h3⟩ h) hall
      obtain ⟨m, hm, hml⟩ := hex
      obtain ⟨i0, p1, p2⟩ := hleast listed z1 m hm hml
      cases F with
      | zero =>
        have : i0 ∈ (List.range l.length).filter fun i => !listed.getD i true := by
          obtain ⟨q1, o, q2, _⟩ := mem_ready.1 p2
          exact List.mem_filter.2 ⟨List.mem_range.2 (by omega), by rw [q1]; rfl⟩
        rw [List.length_eq_zero_iff.1 (Nat.le_zero.1 hF)] at this; cases this
      | succ F =>
        rcases lin_cons (ops := l.toArray) (F := F) (t := t) (listed := listed) with ⟨q1, _⟩ | ⟨i, t', q1, q2⟩
        · rw [q1] at p2; cases p2
        · have hin : i < n := by
            rcases Nat.lt_or_ge i n with h | h
            · exact h
            · have hil : i < l.length := by
                obtain ⟨_, o, q3, _⟩ := mem_ready.1 q1
                have := (Array.getElem?_eq_some_iff.1 q3).1
                rwa [List.size_toArray] at this
              have := (hc.wait i m hil h (by omega)).listed hdc q1
              rw [hml] at this; cases this
          rw [q2]
          have hrun : ∀ a' w', wpAny C.P .any (l.take n).toArray (Qk C (.inRegion l.toArray (List.range' n (l.length - n)) :: k)) c (listed'.setIfInBounds i true) a' w' → Run C.P C.b C.PHI (.inRegion l.toArray (Region.linearise.go .any l.toArray F t' (listed.setIfInBounds i true) []) :: k) a' w' := fun a' w' hw' => by
            refine ih F t' _ _ a' w' (by simpa using z1) (by simpa using z2) (fun j hj => ?_) (fun j hj => ?_) (hdc.set q1) ?_ hw'
            · by_cases e : i = j
              · subst e
                rw [Array.getD_eq_getD_getElem?, Array.getElem?_setIfInBounds_self_of_lt (by omega), Array.getD_eq_getD_getElem?, Array.getElem?_setIfInBounds_self_of_lt (by omega)]
              · rw [getD_set_ne false e, getD_set_ne false e, h1 j hj]
            · rw [getD_set_ne false (by omega), h2 j hj]
            · have hlt : ((List.range l.length).filter fun x => !(listed.setIfInBounds i true).getD x true).length < ((List.range l.length).filter fun x => !listed.getD x true).length := by
                have hsub : ((List.range l.length).filter fun x => !(listed.setIfInBounds i true).getD x true) = ((List.range l.length).filter fun x => !listed.getD x true).filter fun x => decide (x ≠ i) := by
                  rw [List.filter_filter]
                  refine List.filter_congr fun x hx => ?_
                  by_cases e : i = x
                  · subst e
                    rw [Array.getD_eq_getD_getElem?, Array.getElem?_setIfInBounds_self_of_lt (by omega)]; simp
                  · rw [getD_set_ne true e]; simp [show x ≠ i from fun h => e h.symm]
                rw [hsub]
                refine List.length_filter_lt_length_iff_exists.2 ⟨i, ?_, by simp⟩
                obtain ⟨r1, o, r2, _⟩ := mem_ready.1 q1
                exact List.mem_filter.2 ⟨List.mem_range.2 (by omega), by rw [r1]; rfl⟩
              omega
          have hop := hw.2 i (hrdy listed listed' z1 z2 h1 i hin q1)
          unfold wpOp at hop
          obtain ⟨_, o, r2, _⟩ := mem_ready.1 q1
          have hlo : l[i]? = some o := by rw [← List.getElem?_toArray]; exact r2
          rw [hopn i hin, r2] at hop
          dsimp only at hop
          rw [wanted_take hc hlo hin] at hop
          by_cases hwn : Region.wanted o (yielded l.toArray a.tmps) = true
          · rw [if_pos hwn] at hop
            rcases hop with hop | ⟨-, _, _, hq⟩
            · exact Run.op r2 hwn (.inr (noDefer_mem hnd (List.mem_of_getElem? hlo))) (Oper.upon_imp hrun (fun e a w hq => hq.1) hop)
            · exact absurd hq.1 (by simp)
          · rw [if_neg hwn] at hop
            exact Run.opSkip r2 (by simpa using hwn) (hrun _ _ hop)
/-- The region's first n operations by a plan, then the rest in a row. -/
theorem J.regY {id : Nat} {l : List Oper} (n : Nat) (p : Pt) (hm : C.P.follows .mixedOrders = true)
    (hB : ((decide (n ≤ l.length) && cutB l n) && (decide (p.size = (l.take n).length) && (planB (l.take n).toArray (Array.replicate (l.take n).length false) p && (Region.noSelect (l.take n).toArray && noDefer l)))) = true)
    (h : G (.any p) C (l.take n) st M (opsOf (l.take n) p) (.inRegion l.toArray (List.range' n (l.length - n)) :: k)) : J C st M (.code (.region id l.toArray true) :: k) := by
  simp only [Bool.and_eq_true, decide_eq_true_eq] at hB
  obtain ⟨⟨h1, h2⟩, h3, h4, h5, h6⟩ := hB
  have hlen : (l.take n).length = n := by rw [List.length_take]; omega
  refine .mk fun a w hf hd hw => ?_
  refine Run.step (a' := a) (w' := { w with drawn := w.drawn + 1 }) (fun cs => stepR_region_draw) ?_
  simp only [Region.schedule, hm, Bool.true_or, if_true]
  have h7 := h.go rfl h5 (Array.replicate (l.take n).length false) (DC.start _ _) h4 a _ hf hd hw.drawn
  rw [h3, hlen] at h7
  refine run_cut (n := n) h1 (cut_ok h2) h6 n _ _ _ (Array.replicate n false) a _ (by simp) (by simp) (fun i hi => ?_) (fun i hi => ?_) (DC.start _ _) ?_ ?_
  · rw [Array.getD_eq_getD_getElem?, Array.getD_eq_getD_getElem?, Array.getElem?_replicate, Array.getElem?_replicate, if_pos hi, if_pos (by rw [List.size_toArray]; omega)]
  · rw [Array.getD_eq_getD_getElem?, Array.getElem?_replicate]
    split <;> rfl
  · have := List.length_filter_le (fun i => !(Array.replicate l.toArray.size false).getD i true) (List.range l.length)
    rw [List.length_range] at this
    simpa using this
  · exact wpAny_of_wpK (fun a w hr => ⟨rfl, hr⟩) n _ _ _ _ h7
theorem J.inReg {l r : List Oper} {n : Nat} (hl : l.drop n = r) (h : G .seq C l st M r k) : J C st M (.inRegion l.toArray (List.range' n (l.length - n)) :: k) := by
  subst hl
  refine .mk fun a w hf hd hw => h.go a w hf hd hw _ ?_
  refine List.ext_getElem? fun i => ?_
  rw [List.getElem?_map, List.getElem?_map, List.getElem?_drop]
  by_cases hi : i < l.length - n
  · rw [List.getElem?_eq_getElem (by rw [List.length_range']; exact hi), List.getElem_range', Nat.one_mul]
    simp
    rw [List.getElem?_eq_getElem (by omega)]; rfl
  · rw [List.getElem?_eq_none (by rw [List.length_range']; omega), List.getElem?_eq_none (by omega)]; rfl
end Go.Sl
/-
  Contracts of rivers: the way down as an iterator.
-/
namespace Go.Proofs.YtceaamdomkjmlaaGreatDoor
open Go.RowKit Go.Sl Go.Num
/-- The first K gauges from one on down. -/
def dnS (l : List Rch) (g : Int) (K : Nat) : List Int := (List.range K).map fun i => itr l i g
theorem dnS_len (l : List Rch) (g : Int) (K : Nat) : (dnS l g K).length = K := by rw [dnS, List.length_map, List.length_range]
theorem dnS_get (l : List Rch) (g : Int) {K i : Nat} (h : i < K) : (dnS l g K)[i]? = some (itr l i g) := by
  rw [dnS, List.getElem?_map, List.getElem?_range h]; rfl
theorem down_iter (w0 : World) (Bg Bl : Nat) (a : Option Addr) (l : List Rch) (c : Nat) (g : Int) (K : Nat) (hA : SlAt w0 a 2 (l.map rcV)) (hn : l.length ≤ 1000000) (hk : ∀ i, i < K → 0 ≤ itr l i g ∧ itr l i g < l.length) :
    IterH Tryz.prog w0 [.blk Bg 3 [.int .i64 g] 1, .blk Bl 22 [.slice a l.length c] 1] 81 #[.pointer (some ⟨Bg, 0, none⟩), .pointer (some ⟨Bl, 0, none⟩)] (fun e : Int => [.int .i64 e]) (dnS l g K) (itr l K g < 0) := by
  intro X Rs Inv Out fY cY hfin hY x0 hI0 M1 w hw
  rw [dnS_len] at hfin ⊢
  refine enterR [(0, .func fY #[] cY), (1, .pointer (some ⟨Bg, 0, none⟩)), (2, .pointer (some ⟨Bl, 0, none⟩))] hw Tryz.func81 Tryz.ntmps81 ?_
  all_goals (refine go ?_; and_intros <;> (try exact trivial) <;> repeat (first | refine fun (Bk : Nat) => ?_ | intro h))
  refine J.loop (c := _) ((0, x0) : Nat × X) (fun s => K + 1 - s.1) (fun s => [(0, .func fY #[] cY), (1, .pointer (some ⟨Bg, 0, none⟩)), (2, .pointer (some ⟨Bl, 0, none⟩)), (4, .int .i64 (itr l s.1 g))]) (fun s => .blk Bg 3 [.int .i64 g] 1 :: .blk Bl 22 [.slice a l.length c] 1 :: (Rs s.2 ++ M1)) (fun s => s.1 ≤ K ∧ Inv s.1 s.2) ?_ sbT sbL ?_
  · exact ⟨Nat.zero_le _, hI0⟩
  clear hI0 hw
  intro ⟨i, x⟩ ⟨h1, h2⟩ ih
  dsimp only at h1 h2 ⊢
  by_cases hi : i < K
  · obtain ⟨h3, h4⟩ := hk i hi
    have hy := hY i x _ h2 (dnS_get l g hi)
    have ih := fun x' h => ih (i + 1, x') ⟨hi, h⟩ (by dsimp only; omega)
    simp only [itr_succ] at ih
    clear hk
    generalize itr l i g = y at *
    obtain ⟨j, rfl⟩ : ∃ j : Nat, y = j := ⟨y.toNat, by omega⟩
    have hj : j < l.length := by omega
    obtain ⟨ba, oa, rfl, hra⟩ := SlAt.all hA (by omega)
    have hrj := hra j hj
    rw [dnOf_at hj] at ih
    clear hra
    generalize l[j] = r at *
    obtain ⟨dn, ws, adr, cap⟩ := r
    dsimp only [rcV] at *
    all_goals (refine go ?_; and_intros <;> (try exact trivial) <;> repeat (first | refine fun (Bk : Nat) => ?_ | intro h))
    repeat' ((first | (refine G.callG (Rs := Rs) (x := x) (M1 := M1) (Inv (i + 1)) Out hy rfl rfl rfl rfl (by (repeat (first | exact Splt.nil | apply Splt.cons))) ?_ ?_; all_goals intro x' hx')) <;> (refine go ?_; and_intros <;> (try exact trivial) <;> repeat (first | refine fun (Bk : Nat) => ?_ | intro h)))
    · exact J.fin (ih x' hx')
    · refine ret0 Tryz.func81 Tryz.results81 ?_
      exact fun w' hw' => ⟨rfl, x', hw'.forget sbL, .inr hx'⟩
  · obtain rfl : i = K := by omega
    have hf := hfin.resolve_right fun h => h x h2
    clear ih hk
    generalize itr l i g = y at *
    all_goals (refine go ?_; and_intros <;> (try exact trivial) <;> repeat (first | refine fun (Bk : Nat) => ?_ | intro h))
    refine end0 Tryz.func81 Tryz.results81 ?_
    exact fun w' hw' => ⟨rfl, x, hw', .inl h2⟩
theorem down_holds (w0 : World) (M : List Row) (w : World) (a : Option Addr) (l : List Rch) (c : Nat) (g : Int) (hw : Sat w0 M w) :
    Calls Tryz.prog 50 #[.slice a l.length c, .int .i64 g] w fun e w' => ∃ x : Nat × Nat, e = .returned (.func (.func 81) #[] #[.pointer (some ⟨x.1, 0, none⟩), .pointer (some ⟨x.2, 0, none⟩)]) ∧ Sat w0 (.blk x.1 3 [.int .i64 g] 1 :: .blk x.2 22 [.slice a l.length c] 1 :: M) w' := by
  refine enterR [(0, .slice a l.length c), (1, .int .i64 g)] hw Tryz.func50 Tryz.ntmps50 ?_
  all_goals (refine go ?_; and_intros <;> (try exact trivial) <;> repeat (first | refine fun (Bk : Nat) => ?_ | intro h))
  refine ret1 Tryz.func50 Tryz.results50 ?_
  exact fun w' hw' => ⟨(_, _), rfl, hw'⟩
end Go.Proofs.YtceaamdomkjmlaaGreatDoor
/-
  Contracts of rivers: the program's Check.
-/
namespace Go.Proofs.YtceaamdomkjmlaaGreatDoor
open Go.RowKit Go.Sl Go.Num
/-- The kernels of a river stand in memory. -/
def KerAt (w : World) (l : List Rch) : Prop := ∀ r ∈ l, SlAt w r.adr 1 (r.ws.map isV)
theorem KerAt.below {w w' : World} {l : List Rch} (h : KerAt w l) (hb : Below w.heap.size w w') : KerAt w' l := fun r hr => (h r hr).below hb
theorem badRs_step {n i : Nat} {l : List Rch} (hi : i < l.length) : badRs n i (l.drop i) = if badR1 n i l[i] ≠ 0 then badR1 n i l[i] else badRs n (i + 1) (l.drop (i + 1)) := by
  rw [List.drop_eq_getElem_cons hi, badRs]
theorem inR_of {l : List Rch} (h : badRs l.length 0 l = 0) : InR l := fun g hg => by
  have := badRs_ok h g hg
  rw [badR1] at this
  split at this
  · cases this
  · omega
theorem least {p : Nat → Prop} : ∀ n, p n → ∃ K, K ≤ n ∧ p K ∧ ∀ k, k < K → ¬ p k := fun n => by
  induction n using Nat.strongRecOn with
  | _ n ih =>
    intro h
    by_cases hc : ∃ m, m < n ∧ p m
    · obtain ⟨m, h1, h2⟩ := hc
      obtain ⟨K, h3, h4, h5⟩ := ih m h1 h2
      exact ⟨K, by omega, h4, h5⟩
    · exact ⟨n, Nat.le_refl _, h, fun k hk h2 => hc ⟨k, hk, h2⟩⟩
/-- How far a check goes down. -/
theorem ways {l : List Rch} (h : InR l) {g : Int} (h0 : 0 ≤ g) (h1 : g < l.length) : ∃ K, (∀ i, i < K → 0 ≤ itr l i g ∧ itr l i g < l.length) ∧ (K ≤ l.length ∧ itr l K g < 0 ∧ itr l l.length g < 0 ∨ K = l.length + 1 ∧ 0 ≤ itr l l.length g) := by
  by_cases hc : itr l l.length g < 0
  · obtain ⟨K, h2, h3, h4⟩ := least (p := fun k => itr l k g < 0) _ hc
    exact ⟨K, fun i hi => ⟨by have := h4 i hi; omega, (h.in_ i h1 (by omega)).2⟩, .inl ⟨h2, h3, hc⟩⟩
  · exact ⟨l.length + 1, fun i hi => ⟨itr_round h h1 (by omega) i, (h.in_ i h1 (by omega)).2⟩, .inr ⟨rfl, by omega⟩⟩
theorem riv_no {l : List Rch} (h1 : l.length ≤ 40) (h2 : badRs l.length 0 l = 0) {g : Nat} (hg : g < l.length) (h : 0 ≤ itr l l.length g) : rivErr l = 4 := by
  rw [rivErr, if_neg (by omega), if_neg (by rw [h2]; decide), if_neg]
  intro hc
  have := of_decide_eq_true (List.all_eq_true.1 hc g (List.mem_range.2 hg))
  omega
theorem riv_yes {l : List Rch} (h1 : l.length ≤ 40) (h2 : badRs l.length 0 l = 0) (h : ∀ g : Nat, g < l.length → itr l l.length g < 0) : rivErr l = 0 := by
  rw [rivErr, if_neg (by omega), if_neg (by rw [h2]; decide), if_pos]
  exact List.all_eq_true.2 fun g hg => decide_eq_true (h g (List.mem_range.1 hg))
theorem vCheckR_holds (a : Option Addr) (l : List Rch) (c : Nat) (w : World) (hA : SlAt w a 2 (l.map rcV)) (hK : KerAt w l) :
    Calls Tryz.prog 25 #[.slice a l.length c] w fun e w' => e = .returned (.int .i64 (rivErr l)) ∧ Below w.heap.size w w' := by
  refine enterA [(0, .slice a l.length c)] Tryz.func25 Tryz.ntmps25 ?_
  by_cases hl : 40 < l.length
  · rw [rivErr, if_pos hl]
    all_goals (refine go ?_; and_intros <;> (try exact trivial) <;> repeat (first | refine fun (Bk : Nat) => ?_ | intro h))
    all_goals refine ret1b Tryz.func25 Tryz.results25 ?_
    all_goals rfl
  all_goals (refine go ?_; and_intros <;> (try exact trivial) <;> repeat (first | refine fun (Bk : Nat) => ?_ | intro h))
  rename_i B1
  revert Bk; intro B2
  refine J.loop (c := _) (0 : Nat) (fun s => l.length - s) (fun s => [(1, .pointer (some ⟨B1, 0, none⟩)), (2, .pointer (some ⟨B2, 0, none⟩)), (10, .slice a l.length c), (11, .int .i64 l.length), (12, .int .i64 s)]) (fun s => [.blk B2 30 [.int .i64 0] 1, .blk B1 22 [.slice a l.length c] 1]) (fun s => s ≤ l.length ∧ badRs l.length 0 l = badRs l.length s (l.drop s)) ?_ sbT sbL ?_
  · exact ⟨Nat.zero_le _, rfl⟩
  intro i ⟨h1, h2⟩ ih
  by_cases hi : i < l.length
  · obtain ⟨ba, oa, rfl, hra⟩ := SlAt.all hA (by omega)
    have hri := hra i hi
    rw [badRs_step hi] at h2
    have hkk := hK _ (List.getElem_mem hi)
    have hk := fun w' (hb : Below w.heap.size w w') => kCheck_holds l[i].adr l[i].ws l[i].cap w' (hkk.below hb)
    have he : badR1 l.length i l[i] ≠ 0 → rivErr l = badR1 l.length i l[i] := fun h => by
      rw [if_pos h] at h2
      rw [rivErr, if_neg hl, if_pos (by rw [h2]; exact h), h2]
    have ih := fun (h : badR1 l.length i l[i] = 0) => ih (i + 1) ⟨hi, by rw [if_neg (fun h3 => h3 h)] at h2; exact h2⟩ (by omega)
    clear hra h2 hkk
    generalize l[i] = r at *
    obtain ⟨dn, ws, adr, cap⟩ := r
    dsimp only [rcV, badR1] at *
    generalize kerErr ws = ke at *
    generalize rivErr l = rv at *
    by_cases h3 : dn < -1 ∨ (l.length : Int) ≤ dn
    · rw [if_pos h3] at he
      obtain rfl := he (by decide)
      clear ih he
      all_goals (refine go ?_; and_intros <;> (try exact trivial) <;> repeat (first | refine fun (Bk : Nat) => ?_ | intro h))
      repeat' ((first | (refine G.cvb hk ?_)) <;> (refine go ?_; and_intros <;> (try exact trivial) <;> repeat (first | refine fun (Bk : Nat) => ?_ | intro h)))
      all_goals refine ret1b Tryz.func25 Tryz.results25 ?_
      all_goals rfl
    rw [if_neg h3] at he ih
    by_cases h4 : dn = i ∨ dn < 0 ∧ 0 < ws.length ∨ 0 ≤ dn ∧ ke ≠ 0
    · rw [if_pos h4] at he
      obtain rfl := he (by decide)
      clear ih he
      all_goals (refine go ?_; and_intros <;> (try exact trivial) <;> repeat (first | refine fun (Bk : Nat) => ?_ | intro h))
      repeat' ((first | (refine G.cvb hk ?_)) <;> (refine go ?_; and_intros <;> (try exact trivial) <;> repeat (first | refine fun (Bk : Nat) => ?_ | intro h)))
      all_goals refine ret1b Tryz.func25 Tryz.results25 ?_
      all_goals rfl
    · rw [if_neg h4] at ih
      have ih := ih rfl
      clear he
      all_goals (refine go ?_; and_intros <;> (try exact trivial) <;> repeat (first | refine fun (Bk : Nat) => ?_ | intro h))
      repeat' ((first | (refine G.cvb hk ?_)) <;> (refine go ?_; and_intros <;> (try exact trivial) <;> repeat (first | refine fun (Bk : Nat) => ?_ | intro h)))
      all_goals exact J.fin ih
  · obtain rfl : i = l.length := by omega
    rw [List.drop_length, badRs] at h2
    clear ih
    have hin := inR_of h2
    all_goals (refine go ?_; and_intros <;> (try exact trivial) <;> repeat (first | refine fun (Bk : Nat) => ?_ | intro h))
    refine J.loopD (c := _) ((0, []) : Nat × List Nat) (fun x => l.length - x.1) (fun x => x.2.map Sl.mark) (fun x => [(1, .pointer (some ⟨B1, 0, none⟩)), (2, .pointer (some ⟨B2, 0, none⟩)), (56, .int .i64 l.length), (57, .int .i64 x.1)]) (fun x => .blk B2 30 [.int .i64 0] 1 :: .blk B1 22 [.slice a l.length c] 1 :: Sl.mk x.2) (fun x => x.1 ≤ l.length ∧ ∀ i : Nat, i < x.1 → itr l l.length i < 0) ?_ rfl (by (repeat' (first | exact trivial | refine ⟨rfl, ?_⟩))) (List.Sublist.refl _) ?_
    · exact ⟨Nat.zero_le _, fun i h => absurd h (Nat.not_lt_zero _)⟩
    intro ⟨g, ds⟩ ⟨h3, h4⟩ ih
    dsimp only at h3 h4 ⊢
    by_cases hg : g < l.length
    · obtain ⟨K, hk1, hk2⟩ := ways hin (g := (g : Int)) (by omega) (by omega)
      have hno := riv_no (by omega) h2 hg
      have ih := fun (h : itr l l.length g < 0) Bd => ih (g + 1, Bd :: ds) ⟨hg, fun i hi => by
        rcases Nat.lt_or_ge i g with h5 | h5
        · exact h4 i h5
        · obtain rfl : i = g := by omega
          exact h⟩ (by dsimp only; omega)
      clear h4
      all_goals (refine goR ?_; and_intros <;> (try exact trivial) <;> repeat (first | refine fun (Bk : Nat) => ?_ | intro h))
      repeat' ((first | (apply G.cR (g := 50) (v := fun x : Nat × Nat => .func (.func 81) #[] #[.pointer (some ⟨x.1, 0, none⟩), .pointer (some ⟨x.2, 0, none⟩)]) (Mn := fun x => [.blk x.1 3 [.int .i64 g] 1, .blk x.2 22 [.slice a l.length c] 1]); rfl; rfl; exact fun w' hw' => down_holds _ _ w' a l c g hw'; rintro ⟨Bg, Bl⟩) | (apply J.regQ; exact Tryz.mixed; decide +kernel) | (apply J.regL'; exact Tryz.mixed; decide +kernel)) <;> (refine goR ?_; and_intros <;> (try exact trivial) <;> repeat (first | refine fun (Bk : Nat) => ?_ | intro h)))
      refine J.rangeH1 (e1 := fun e : Int => .int .i64 e) (es := dnS l g K) (fin := itr l K g < 0) (fun s : Nat × Int => [.blk Bk 3 [.int .i64 s.1] 1, .blk B2 30 [.int .i64 s.2] 1, .blk B1 22 [.slice a l.length c] 1]) (fun i s => s.1 = i ∧ s.2 = 0 ∧ i ≤ l.length) (fun cc s => cc = .ret ∧ s.2 = 4 ∧ K = l.length + 1 ∧ 0 ≤ itr l l.length g) (0, 0) (Sl.mk ds) (down_iter w Bg Bl a l c g K hA (by omega) hk1) (by
        rw [dnS_len]
        rcases hk2 with h | h
        · exact .inl h.2.1
        · exact .inr fun x hx => by omega) rfl rfl rfl (List.Perm.refl _) ⟨rfl, rfl, Nat.zero_le _⟩ ?_ ?_ ?_
      · intro i ⟨n, e⟩ y ⟨i1, i2, i3⟩ he L rr M' hrs hrp
        dsimp only at i1 i2 i3 ⊢
        subst i1 i2
        have hnK : n < K := by
          have := (List.getElem?_eq_some_iff.1 he).1
          rwa [dnS_len] at this
        clear he ih
        by_cases hn : n = l.length
        · have hk3 : K = l.length + 1 ∧ 0 ≤ itr l l.length g := hk2.resolve_left fun h => by omega
          all_goals (refine goR ?_; and_intros <;> (try exact trivial) <;> repeat (first | refine fun (Bk : Nat) => ?_ | intro h))
          repeat' ((first | (refine J.beginR rfl (i := 0) rfl hrs ?_) | (apply J.regQ; exact Tryz.mixed; decide +kernel) | (apply J.regL'; exact Tryz.mixed; decide +kernel)) <;> (refine goR ?_; and_intros <;> (try exact trivial) <;> repeat (first | refine fun (Bk : Nat) => ?_ | intro h)))
          exact J.sel (leaveGret (n + 1, 4) ⟨rfl, rfl, hk3⟩ rfl)
        · skip
          all_goals (refine goR ?_; and_intros <;> (try exact trivial) <;> repeat (first | refine fun (Bk : Nat) => ?_ | intro h))
          repeat' ((first | (refine J.beginR rfl (i := 0) rfl hrs ?_) | (apply J.regQ; exact Tryz.mixed; decide +kernel) | (apply J.regL'; exact Tryz.mixed; decide +kernel)) <;> (refine goR ?_; and_intros <;> (try exact trivial) <;> repeat (first | refine fun (Bk : Nat) => ?_ | intro h)))
          exact J.sel (leaveG hrs hrp (n + 1, 0) ⟨rfl, rfl, by omega⟩ rfl)
      · intro Bd ⟨n, e⟩ ⟨i1, i2, i3⟩
        dsimp only at i1 i2 i3 ⊢
        subst i2
        rw [dnS_len] at i1 i3
        have ih := ih (hk2.resolve_right (fun h => by omega)).2.2 Bd
        all_goals (refine go ?_; and_intros <;> (try exact trivial) <;> repeat (first | refine fun (Bk : Nat) => ?_ | intro h))
        exact J.finS ih
      · intro Bd ⟨n, e⟩ cc ⟨i1, i2, i3, i4⟩
        dsimp only at i1 i2 i3 i4 ⊢
        subst i1 i2
        rw [hno i4]
        all_goals (refine go ?_; and_intros <;> (try exact trivial) <;> repeat (first | refine fun (Bk : Nat) => ?_ | intro h))
        refine J.sel (T := .blk B2 30 [.int .i64 4] 1 :: Sl.mk (Bd :: ds)) ?_
        refine leaveM (v := .int .i64 4) (ds := Bd :: ds) (M0 := [.blk B2 30 [.int .i64 4] 1]) Tryz.func25 rfl rfl rfl rfl (RunsTo.one Tryz.results25 (by (first | (apply ResV.tmp; rfl) | (apply ResV.cell; rfl; (first | (apply LdV.one; (first | exact CellV.row0 (by assumption) rfl | exact CellV.rowS (by assumption) rfl | exact CellV.rowSS (by assumption) rfl | (apply CellV.blk; exact mm; rfl))) | (apply LdV.aggBlk; exact mm; rfl) | (apply LdV.part; exact mm; rfl; rfl) | (apply LdV.aggRow; assumption; rfl) | (apply LdV.partRow; assumption; rfl; rfl)))))) (List.perm_append_comm (l₁ := [_])) fun w' hw' => ?_
        exact ⟨rfl, hw'.below⟩
    · rw [riv_yes (by omega) h2 fun i hi => h4 i (by omega)]
      clear ih
      all_goals (refine go ?_; and_intros <;> (try exact trivial) <;> repeat (first | refine fun (Bk : Nat) => ?_ | intro h))
      refine J.sel (T := .blk B2 30 [.int .i64 0] 1 :: Sl.mk ds) ?_
      refine leaveM (v := .int .i64 0) (ds := ds) (M0 := [.blk B2 30 [.int .i64 0] 1]) Tryz.func25 rfl rfl rfl rfl (RunsTo.one Tryz.results25 (by (first | (apply ResV.tmp; rfl) | (apply ResV.cell; rfl; (first | (apply LdV.one; (first | exact CellV.row0 (by assumption) rfl | exact CellV.rowS (by assumption) rfl | exact CellV.rowSS (by assumption) rfl | (apply CellV.blk; exact mm; rfl))) | (apply LdV.aggBlk; exact mm; rfl) | (apply LdV.part; exact mm; rfl; rfl) | (apply LdV.aggRow; assumption; rfl) | (apply LdV.partRow; assumption; rfl; rfl)))))) (List.perm_append_comm (l₁ := [_])) fun w' hw' => ?_
      exact ⟨rfl, hw'.below⟩
end Go.Proofs.YtceaamdomkjmlaaGreatDoor
/-
  Contracts of rivers: the specification's Check; the first error.
-/
namespace Go.Proofs.YtceaamdomkjmlaaGreatDoor
open Go.RowKit Go.Sl Go.Num
theorem neg_all {l : List Rch} (h : InR l) {g : Int} (hg : g < l.length) {k : Nat} (h1 : itr l k g < 0) : itr l l.length g < 0 := by
  rcases Int.lt_or_le (itr l l.length g) 0 with h2 | h2
  · exact h2
  · have := itr_round h hg h2 k; omega
theorem rCheckR_holds (a : Option Addr) (l : List Rch) (c : Nat) (w : World) (hA : SlAt w a 2 (l.map rcV)) (hK : KerAt w l) :
    Calls Tryz.prog 26 #[.slice a l.length c] w fun e w' => e = .returned (.int .i64 (rivErr l)) ∧ Below w.heap.size w w' := by
  refine enterA [(0, .slice a l.length c)] Tryz.func26 Tryz.ntmps26 ?_
  by_cases hl : 40 < l.length
  · rw [rivErr, if_pos hl]
    all_goals (refine go ?_; and_intros <;> (try exact trivial) <;> repeat (first | refine fun (Bk : Nat) => ?_ | intro h))
    all_goals refine ret1b Tryz.func26 Tryz.results26 ?_
    all_goals rfl
  all_goals (refine go ?_; and_intros <;> (try exact trivial) <;> repeat (first | refine fun (Bk : Nat) => ?_ | intro h))
  refine J.loop (c := _) (0 : Nat) (fun s => l.length - s) (fun s => [(0, .slice a l.length c), (3, .int .i64 s)]) (fun s => []) (fun s => s ≤ l.length ∧ badRs l.length 0 l = badRs l.length s (l.drop s)) ?_ sbT sbL ?_
  · exact ⟨Nat.zero_le _, rfl⟩
  intro i ⟨h1, h2⟩ ih
  by_cases hi : i < l.length
  · obtain ⟨ba, oa, rfl, hra⟩ := SlAt.all hA (by omega)
    have hri := hra i hi
    rw [badRs_step hi] at h2
    have hkk := hK _ (List.getElem_mem hi)
    have hk := fun w' (hb : Below w.heap.size w w') => rkCheck_holds l[i].adr l[i].ws l[i].cap w' (hkk.below hb)
    have he : badR1 l.length i l[i] ≠ 0 → rivErr l = badR1 l.length i l[i] := fun h => by
      rw [if_pos h] at h2
      rw [rivErr, if_neg hl, if_pos (by rw [h2]; exact h), h2]
    have ih := fun (h : badR1 l.length i l[i] = 0) => ih (i + 1) ⟨hi, by rw [if_neg (fun h3 => h3 h)] at h2; exact h2⟩ (by omega)
    clear hra h2 hkk
    generalize l[i] = r at *
    obtain ⟨dn, ws, adr, cap⟩ := r
    dsimp only [rcV, badR1] at *
    generalize kerErr ws = ke at *
    generalize rivErr l = rv at *
    by_cases h3 : dn < -1 ∨ (l.length : Int) ≤ dn
    · rw [if_pos h3] at he
      obtain rfl := he (by decide)
      clear ih he
      all_goals (refine go ?_; and_intros <;> (try exact trivial) <;> repeat (first | refine fun (Bk : Nat) => ?_ | intro h))
      repeat' ((first | (refine G.cvb hk ?_)) <;> (refine go ?_; and_intros <;> (try exact trivial) <;> repeat (first | refine fun (Bk : Nat) => ?_ | intro h)))
      all_goals refine ret1b Tryz.func26 Tryz.results26 ?_
      all_goals rfl
    rw [if_neg h3] at he ih
    by_cases h4 : dn = i ∨ dn < 0 ∧ 0 < ws.length ∨ 0 ≤ dn ∧ ke ≠ 0
    · rw [if_pos h4] at he
      obtain rfl := he (by decide)
      clear ih he
      all_goals (refine go ?_; and_intros <;> (try exact trivial) <;> repeat (first | refine fun (Bk : Nat) => ?_ | intro h))
      repeat' ((first | (refine G.cvb hk ?_)) <;> (refine go ?_; and_intros <;> (try exact trivial) <;> repeat (first | refine fun (Bk : Nat) => ?_ | intro h)))
      all_goals refine ret1b Tryz.func26 Tryz.results26 ?_
      all_goals rfl
    · rw [if_neg h4] at ih
      have ih := ih rfl
      clear he
      all_goals (refine go ?_; and_intros <;> (try exact trivial) <;> repeat (first | refine fun (Bk : Nat) => ?_ | intro h))
      repeat' ((first | (refine G.cvb hk ?_)) <;> (refine go ?_; and_intros <;> (try exact trivial) <;> repeat (first | refine fun (Bk : Nat) => ?_ | intro h)))
      all_goals exact J.fin ih
  · obtain rfl : i = l.length := by omega
    rw [List.drop_length, badRs] at h2
    clear ih
    have hin := inR_of h2
    all_goals (refine go ?_; and_intros <;> (try exact trivial) <;> repeat (first | refine fun (Bk : Nat) => ?_ | intro h))
    refine J.loop (c := _) (0 : Nat) (fun s => l.length - s) (fun s => [(0, .slice a l.length c), (6, .int .i64 s)]) (fun s => []) (fun s => s ≤ l.length ∧ ∀ i : Nat, i < s → itr l l.length i < 0) ?_ sbT sbL ?_
    · exact ⟨Nat.zero_le _, fun i h => absurd h (Nat.not_lt_zero _)⟩
    intro g ⟨h3, h4⟩ ih
    by_cases hg : g < l.length
    · have hno := riv_no (by omega) h2 hg
      have ih := fun (h : itr l l.length g < 0) => ih (g + 1) ⟨hg, fun i hi => by
        rcases Nat.lt_or_ge i g with h5 | h5
        · exact h4 i h5
        · obtain rfl : i = g := by omega
          exact h⟩ (by omega)
      clear h4
      all_goals (refine go ?_; and_intros <;> (try exact trivial) <;> repeat (first | refine fun (Bk : Nat) => ?_ | intro h))
      refine J.loop (c := _) (0 : Nat) (fun s => l.length + 1 - s) (fun s => [(0, .slice a l.length c), (6, .int .i64 g), (7, .int .i64 (itr l s g)), (8, .int .i64 s)]) (fun s => []) (fun s => s ≤ l.length + 1) ?_ sbT sbL ?_
      · exact Nat.zero_le _
      intro k h5 ih2
      have ih2 := fun (h : k < l.length + 1) => ih2 (k + 1) (by omega) (by omega)
      have hr := hin.in_ k (g := (g : Int)) (by omega) (by omega)
      have hp : k = l.length + 1 → 0 ≤ itr l k g → 0 ≤ itr l l.length g := fun h h6 => itr_pos h6 (by omega)
      have hq : itr l k g < 0 → itr l l.length g < 0 := fun h => neg_all hin (by omega) h
      simp only [itr_succ] at ih2
      generalize itr l k g = y at *
      by_cases hy : 0 ≤ y
      · by_cases hk : k < l.length + 1
        · have ih2 := ih2 hk
          obtain ⟨j, rfl⟩ : ∃ j : Nat, y = j := ⟨y.toNat, by omega⟩
          have hj : j < l.length := by omega
          obtain ⟨ba, oa, rfl, hra⟩ := SlAt.all hA (by omega)
          have hrj := hra j hj
          rw [dnOf_at hj] at ih2
          clear hra
          generalize l[j] = r at *
          obtain ⟨dn, ws, adr, cap⟩ := r
          dsimp only [rcV] at *
          all_goals (refine go ?_; and_intros <;> (try exact trivial) <;> repeat (first | refine fun (Bk : Nat) => ?_ | intro h))
          exact J.fin ih2
        · rw [hno (hp (by omega) hy)]
          all_goals (refine go ?_; and_intros <;> (try exact trivial) <;> repeat (first | refine fun (Bk : Nat) => ?_ | intro h))
          all_goals refine ret1b Tryz.func26 Tryz.results26 ?_
          all_goals rfl
      · have ih := ih (hq (by omega))
        clear ih2
        all_goals (refine go ?_; and_intros <;> (try exact trivial) <;> repeat (first | refine fun (Bk : Nat) => ?_ | intro h))
        all_goals exact J.fin ih
    · rw [riv_yes (by omega) h2 fun i hi => h4 i (by omega)]
      clear ih
      all_goals (refine go ?_; and_intros <;> (try exact trivial) <;> repeat (first | refine fun (Bk : Nat) => ?_ | intro h))
      all_goals refine ret1b Tryz.func26 Tryz.results26 ?_
      all_goals rfl
def outG (n : Nat) (g : Int) : Bool := decide (g < 0) || decide ((n : Int) ≤ g)
/-- The first error of a river and of gauges. -/
def firstE (l : List Rch) (gs : List Int) : Int := if rivErr l ≠ 0 then rivErr l else if gs.any (outG l.length) = true then 3 else 0
theorem firstV_holds (a b : Option Addr) (l : List Rch) (gs : List Int) (c d : Nat) (w : World) (hA : SlAt w a 2 (l.map rcV)) (hK : KerAt w l) (hB : SlAt w b 1 (gs.map isV)) (hg : gs.length ≤ 1000000) :
    Calls Tryz.prog 49 #[.slice a l.length c, .slice b gs.length d] w fun e w' => e = .returned (.int .i64 (firstE l gs)) ∧ Below w.heap.size w w' := by
  refine enterA [(0, .slice a l.length c), (1, .slice b gs.length d)] Tryz.func49 Tryz.ntmps49 ?_
  have hc := fun w' (hb : Below w.heap.size w w') => vCheckR_holds a l c w' (hA.below hb) (hK.below hb)
  rw [firstE]
  have hle : rivErr l = 0 → l.length ≤ 40 := fun h => (riv_of h).len
  by_cases he : rivErr l = 0
  · have hle := hle he
    rw [if_neg (fun h => h he)]
    rw [he] at hc
    all_goals (refine go ?_; and_intros <;> (try exact trivial) <;> repeat (first | refine fun (Bk : Nat) => ?_ | intro h))
    repeat' ((first | (refine G.cvb hc ?_)) <;> (refine go ?_; and_intros <;> (try exact trivial) <;> repeat (first | refine fun (Bk : Nat) => ?_ | intro h)))
    refine J.loop (c := _) (0 : Nat) (fun s => gs.length - s) (fun s => [(0, .slice a l.length c), (13, .slice b gs.length d), (14, .int .i64 gs.length), (15, .int .i64 s)]) (fun s => []) (fun s => s ≤ gs.length ∧ ∀ i (h : i < gs.length), i < s → outG l.length gs[i] = false) ?_ sbT sbL ?_
    · exact ⟨Nat.zero_le _, fun i _ h => absurd h (Nat.not_lt_zero _)⟩
    intro i ⟨h1, h2⟩ ih
    by_cases hi : i < gs.length
    · obtain ⟨bb, ob, rfl, hrb⟩ := SlAt.all hB (by omega)
      have hri := hrb i hi
      have hno : outG l.length gs[i] = true → gs.any (outG l.length) = true := fun h => List.any_eq_true.2 ⟨_, List.getElem_mem hi, h⟩
      have ih := fun (h : outG l.length gs[i] = false) => ih (i + 1) ⟨hi, fun j q1 q3 => by
        rcases Nat.lt_or_ge j i with h5 | h5
        · exact h2 j q1 h5
        · obtain rfl : j = i := by omega
          exact h⟩ (by omega)
      clear hrb h2
      generalize gs[i] = y at *
      dsimp only [isV] at hri
      by_cases hy : outG l.length y = true
      · rw [if_pos (hno hy)]
        rw [outG, Bool.or_eq_true, decide_eq_true_eq, decide_eq_true_eq] at hy
        clear ih hno
        all_goals (refine go ?_; and_intros <;> (try exact trivial) <;> repeat (first | refine fun (Bk : Nat) => ?_ | intro h))
        all_goals refine ret1b Tryz.func49 Tryz.results49 ?_
        all_goals rfl
      · rw [Bool.not_eq_true] at hy
        have ih := ih hy
        rw [outG, Bool.or_eq_false_iff, decide_eq_false_iff_not, decide_eq_false_iff_not] at hy
        all_goals (refine go ?_; and_intros <;> (try exact trivial) <;> repeat (first | refine fun (Bk : Nat) => ?_ | intro h))
        exact J.fin ih
    · rw [if_neg (by
        rw [Bool.not_eq_true, List.any_eq_false]
        intro x hx
        obtain ⟨j, hj, rfl⟩ := List.getElem_of_mem hx
        rw [h2 j hj (by omega)]; decide)]
      clear ih
      all_goals (refine go ?_; and_intros <;> (try exact trivial) <;> repeat (first | refine fun (Bk : Nat) => ?_ | intro h))
      all_goals refine ret1b Tryz.func49 Tryz.results49 ?_
      all_goals rfl
  · rw [if_pos he]
    generalize rivErr l = rv at *
    all_goals (refine go ?_; and_intros <;> (try exact trivial) <;> repeat (first | refine fun (Bk : Nat) => ?_ | intro h))
    repeat' ((first | (refine G.cvb hc ?_)) <;> (refine go ?_; and_intros <;> (try exact trivial) <;> repeat (first | refine fun (Bk : Nat) => ?_ | intro h)))
    all_goals refine ret1b Tryz.func49 Tryz.results49 ?_
    all_goals rfl
theorem firstR_holds (a : Option Addr) (l : List Rch) (g : Int) (c : Nat) (w : World) (hA : SlAt w a 2 (l.map rcV)) (hK : KerAt w l) :
    Calls Tryz.prog 51 #[.slice a l.length c, .int .i64 g] w fun e w' => e = .returned (.int .i64 (errG l g)) ∧ Below w.heap.size w w' := by
  refine enterA [(0, .slice a l.length c), (1, .int .i64 g)] Tryz.func51 Tryz.ntmps51 ?_
  have hc := fun w' (hb : Below w.heap.size w w') => rCheckR_holds a l c w' (hA.below hb) (hK.below hb)
  rw [errG]
  have hle : rivErr l = 0 → l.length ≤ 40 := fun h => (riv_of h).len
  by_cases he : rivErr l = 0
  · have hle := hle he
    rw [if_neg (fun h => h he)]
    rw [he] at hc
    by_cases hg : g < 0 ∨ (l.length : Int) ≤ g
    · rw [if_pos hg]
      all_goals (refine go ?_; and_intros <;> (try exact trivial) <;> repeat (first | refine fun (Bk : Nat) => ?_ | intro h))
      repeat' ((first | (refine G.cvb hc ?_)) <;> (refine go ?_; and_intros <;> (try exact trivial) <;> repeat (first | refine fun (Bk : Nat) => ?_ | intro h)))
      all_goals refine ret1b Tryz.func51 Tryz.results51 ?_
      all_goals rfl
    · rw [if_neg hg]
      all_goals (refine go ?_; and_intros <;> (try exact trivial) <;> repeat (first | refine fun (Bk : Nat) => ?_ | intro h))
      repeat' ((first | (refine G.cvb hc ?_)) <;> (refine go ?_; and_intros <;> (try exact trivial) <;> repeat (first | refine fun (Bk : Nat) => ?_ | intro h)))
      all_goals refine ret1b Tryz.func51 Tryz.results51 ?_
      all_goals rfl
  · rw [if_pos he]
    generalize rivErr l = rv at *
    all_goals (refine go ?_; and_intros <;> (try exact trivial) <;> repeat (first | refine fun (Bk : Nat) => ?_ | intro h))
    repeat' ((first | (refine G.cvb hc ?_)) <;> (refine go ?_; and_intros <;> (try exact trivial) <;> repeat (first | refine fun (Bk : Nat) => ?_ | intro h)))
    all_goals refine ret1b Tryz.func51 Tryz.results51 ?_
    all_goals rfl
end Go.Proofs.YtceaamdomkjmlaaGreatDoor
/-
  Contracts of rivers: Above and Path of both.
-/
namespace Go.Proofs.YtceaamdomkjmlaaGreatDoor
open Go.RowKit Go.Sl Go.Num
theorem errG_first (l : List Rch) (g : Int) : firstE l [g] = errG l g := by
  rw [firstE, errG]
  split
  · rfl
  · simp only [List.any_cons, List.any_nil, Bool.or_false, outG, Bool.or_eq_true, decide_eq_true_eq]
def aboveE (l : List Rch) (g : Int) : List Int × Int := if errG l g ≠ 0 then ([], errG l g) else (aboveL l g, 0)
theorem errG_ok {l : List Rch} {g : Int} (h : errG l g = 0) : rivErr l = 0 ∧ 0 ≤ g ∧ g < l.length := by
  rw [errG] at h
  split at h
  · rename_i h1; exact absurd h h1
  · rename_i h1
    split at h
    · cases h
    · exact ⟨Decidable.not_not.1 h1, by omega, by omega⟩
theorem vAbove_holds (a : Option Addr) (l : List Rch) (c : Nat) (g : Int) (w : World) (hA : SlAt w a 2 (l.map rcV)) (hK : KerAt w l) :
    Calls Tryz.prog 13 #[.slice a l.length c, .int .i64 g] w (RetI (fun v => .tuple #[v, .int .i64 (aboveE l g).2]) w (aboveE l g).1) := by
  have hf := fun w' (hb : Below w.heap.size w w') b hB => firstV_holds a b l [g] c 1 w' (hA.below hb) (hK.below hb) hB (show 1 ≤ 1000000 by decide)
  simp only [errG_first] at hf
  rw [aboveE]
  by_cases h0 : errG l g = 0
  · have hl := (riv_of (errG_ok h0).1).len
    have ha := fun w' (hb : Below w.heap.size w w') => above_holds a l c g w' (hA.below hb) (by omega)
    rw [if_neg (fun h => h h0)]
    rw [h0] at hf
    dsimp only
    refine enterA [(0, .slice a l.length c), (1, .int .i64 g)] Tryz.func13 Tryz.ntmps13 ?_
    all_goals (refine go ?_; and_intros <;> (try exact trivial) <;> repeat (first | refine fun (Bk : Nat) => ?_ | intro h))
    repeat' ((first | (apply G.sliceL; rfl; rfl; rfl; rfl; rfl; rfl; rfl; rfl; intro Bs) | (apply G.cV (g := 49); rfl; rfl; exact fun w' hw' => hf w' hw'.below _ (blkSlA (f := isV) (sz := 1) (l := [g]) hw' isV_len).1) | (apply G.cN (g := 52) (fun a' c' => .slice a' (aboveL l g).length c') ((aboveL l g).map isV); rfl; rfl; exact fun w' hw' => ha w' hw'.below; intro a1 c1 hp1 hq1)) <;> (refine go ?_; and_intros <;> (try exact trivial) <;> repeat (first | refine fun (Bk : Nat) => ?_ | intro h)))
    (refine ret2 Tryz.func13 Tryz.results13 ?_; intro w' hw)
    exact ⟨a1, c1, rfl, hw.sl (by exact mm), hq1, hw.below⟩
  · rw [if_pos h0]
    dsimp only
    generalize errG l g = E at *
    refine enterA [(0, .slice a l.length c), (1, .int .i64 g)] Tryz.func13 Tryz.ntmps13 ?_
    all_goals (refine go ?_; and_intros <;> (try exact trivial) <;> repeat (first | refine fun (Bk : Nat) => ?_ | intro h))
    repeat' ((first | (apply G.sliceL; rfl; rfl; rfl; rfl; rfl; rfl; rfl; rfl; intro Bs) | (apply G.cV (g := 49); rfl; rfl; exact fun w' hw' => hf w' hw'.below _ (blkSlA (f := isV) (sz := 1) (l := [g]) hw' isV_len).1)) <;> (refine go ?_; and_intros <;> (try exact trivial) <;> repeat (first | refine fun (Bk : Nat) => ?_ | intro h)))
    (refine ret2 Tryz.func13 Tryz.results13 ?_; intro w' hw)
    exact retI_nil (fun v => .tuple #[v, .int .i64 E]) hw.below
theorem rAbove_holds (a : Option Addr) (l : List Rch) (c : Nat) (g : Int) (w : World) (hA : SlAt w a 2 (l.map rcV)) (hK : KerAt w l) :
    Calls Tryz.prog 14 #[.slice a l.length c, .int .i64 g] w (RetI (fun v => .agg #[v, .int .i64 (aboveE l g).2]) w (aboveE l g).1) := by
  have hf := fun w' (hb : Below w.heap.size w w') => firstR_holds a l g c w' (hA.below hb) (hK.below hb)
  rw [aboveE]
  by_cases h0 : errG l g = 0
  · have hl := (riv_of (errG_ok h0).1).len
    rw [if_neg (fun h => h h0)]
    rw [h0] at hf
    dsimp only
    rw [show aboveL l g = abU l l.length g from rfl]
    refine enterA [(0, .slice a l.length c), (1, .int .i64 g)] Tryz.func14 Tryz.ntmps14 ?_
    all_goals (refine go ?_; and_intros <;> (try exact trivial) <;> repeat (first | refine fun (Bk : Nat) => ?_ | intro h))
    repeat' ((first | (apply G.cV (g := 51); rfl; rfl; exact fun w' hw' => hf w' hw'.below)) <;> (refine go ?_; and_intros <;> (try exact trivial) <;> repeat (first | refine fun (Bk : Nat) => ?_ | intro h)))
    apply J.nilOwn (E := 3) (size := 1)
    refine J.loop (c := _) ((0, none, 0, 0) : Nat × Option Addr × Nat × Nat) (fun s => l.length - s.1) (fun s => [(0, .slice a l.length c), (1, .int .i64 g), (4, .pointer (some ⟨Bk, 0, none⟩)), (6, .slice s.2.1 s.2.2.2 s.2.2.1), (7, .int .i64 s.1)]) (fun s => [.own 0 (.slice s.2.1 s.2.2.2 s.2.2.1) 3 1 s.2.2.2 (flat isV (abU l s.1 g)), .blk Bk 34 [.slice none 0 0, .int .i64 0] 2]) (fun s => s.1 ≤ l.length ∧ s.2.2.2 = (abU l s.1 g).length) ?_ sbT sbL ?_
    · exact ⟨Nat.zero_le _, rfl⟩
    intro ⟨i, au, cu, j⟩ ⟨h1, h2⟩ ih
    dsimp only at h1 h2 ⊢
    by_cases hi : i < l.length
    · obtain ⟨ba, oa, rfl, hra⟩ := SlAt.all hA (by omega)
      have hri := hra i hi
      have hl := abU_len l i g
      have hs := abU_succ l i g
      rw [dnOf_at hi] at hs
      have hap : flat isV (abU l i g) ++ isV i = flat isV (abU l i g ++ [(i : Int)]) := flat1 isV _ _
      clear hra
      by_cases hg : l[i].dn = g
      · rw [if_pos hg] at hs
        have ih := fun a2 c2 => ih (i + 1, a2, c2, j + 1) ⟨hi, by dsimp only; rw [hs, List.length_append, h2]; rfl⟩ (by dsimp only; omega)
        simp only [hs] at ih
        generalize l[i] = r at *
        obtain ⟨dn, ws, adr, cap⟩ := r
        dsimp only [rcV, isV] at *
        all_goals (refine go ?_; and_intros <;> (try exact trivial) <;> repeat (first | refine fun (Bk : Nat) => ?_ | intro h))
        repeat' ((first | (apply G.sliceL; rfl; rfl; rfl; rfl; rfl; rfl; rfl; rfl; intro Bs) | (apply G.apV; rfl; rfl; rfl; (repeat (first | exact RAt.head | apply RAt.tail)); exact SrcV.blk (by exact mm) rfl rfl; exact hap; omega; omega; intro a2 c2)) <;> (refine go ?_; and_intros <;> (try exact trivial) <;> repeat (first | refine fun (Bk : Nat) => ?_ | intro h)))
        exact J.fin (ih a2 c2)
      · rw [if_neg hg, List.append_nil] at hs
        have ih := ih (i + 1, au, cu, j) ⟨hi, by dsimp only; rw [hs, h2]⟩ (by dsimp only; omega)
        simp only [hs] at ih
        generalize l[i] = r at *
        obtain ⟨dn, ws, adr, cap⟩ := r
        dsimp only [rcV, isV] at *
        all_goals (refine go ?_; and_intros <;> (try exact trivial) <;> repeat (first | refine fun (Bk : Nat) => ?_ | intro h))
        exact J.fin ih
    · obtain rfl : i = l.length := by omega
      clear ih
      all_goals (refine go ?_; and_intros <;> (try exact trivial) <;> repeat (first | refine fun (Bk : Nat) => ?_ | intro h))
      (refine ret1 Tryz.func14 Tryz.results14 ?_; intro w' hw)
      subst h2
      exact satI hw (i := 0) rfl rfl fun v => .agg #[v, .int .i64 0]
  · rw [if_pos h0]
    dsimp only
    generalize errG l g = E at *
    refine enterA [(0, .slice a l.length c), (1, .int .i64 g)] Tryz.func14 Tryz.ntmps14 ?_
    all_goals (refine go ?_; and_intros <;> (try exact trivial) <;> repeat (first | refine fun (Bk : Nat) => ?_ | intro h))
    repeat' ((first | (apply G.cV (g := 51); rfl; rfl; exact fun w' hw' => hf w' hw'.below)) <;> (refine go ?_; and_intros <;> (try exact trivial) <;> repeat (first | refine fun (Bk : Nat) => ?_ | intro h)))
    (refine ret1 Tryz.func14 Tryz.results14 ?_; intro w' hw)
    exact retI_nil (fun v => .agg #[v, .int .i64 E]) hw.below
end Go.Proofs.YtceaamdomkjmlaaGreatDoor
