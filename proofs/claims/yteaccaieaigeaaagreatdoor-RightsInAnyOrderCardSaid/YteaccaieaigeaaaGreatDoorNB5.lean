/-
  Contracts of the natural numbers' digits: Clone, by (the division).
-/
import Derived.Test.YteaccaieaigeaaaGreatDoorNB4
import Derived.ProofKit
set_option linter.unusedVariables false
set_option linter.unusedSimpArgs false
set_option linter.unusedSectionVars false
namespace Go.Proofs.YteaccaieaigeaaaGreatDoor
open Go.RowKit Go.Sl Go.Num
theorem clone_holds (p : Addr) (l : List Nat) (c : Nat) (w : World) (hl : l.length ≤ 4294967296) (hA : SlAt w (some p) 1 (l.map lmV)) :
    Calls Tryz.prog 129 #[.slice (some p) l.length c] w (RetO Tryz.prog w 144 1 l.length (flat lmV l) id) := by
  refine enterA [(0, .slice (some p) l.length c)] Tryz.func129 Tryz.ntmps129 ?_
  all_goals (refine go ?_; and_intros <;> (try exact trivial) <;> repeat (first | refine fun (Bk : Nat) => ?_ | intro h))
  repeat' ((first | (apply G.isNil; rfl; rfl; rfl; all_goals intro h; all_goals try (cases h; done)) | (apply G.slice0; rfl; rfl; rfl; intro Bk) | (apply G.ap; rfl; rfl; rfl; (repeat (first | exact RAt.head | apply RAt.tail)); exact SrcV.old lmV_len lmV_one hA; exact List.nil_append _; omega; omega; intro v')) <;> (refine go ?_; and_intros <;> (try exact trivial) <;> repeat (first | refine fun (Bk : Nat) => ?_ | intro h)))
  (refine ret1 Tryz.func129 Tryz.results129 ?_; intro w' hw)
  have := hw.retO (P := Tryz.prog) (i := 0) rfl id
  rwa [Nat.zero_add] at this
theorem by_lt (a : Option Addr) (m c : Nat) (b : Option Addr) (n d : Nat) (w : World) (hl : (dgs B32 m).length ≤ 1073741824) (hm : (dgs B32 n).length ≤ 1073741824) (hA : SlAt w a 1 ((dgs B32 m).map lmV)) (hB : SlAt w b 1 ((dgs B32 n).map lmV)) (hlt : m < n) :
    Calls Tryz.prog 97 #[.slice a (dgs B32 m).length c, .slice b (dgs B32 n).length d] w fun e w' => e = .returned (.tuple #[.slice none 0 0, .slice a (dgs B32 m).length c]) ∧ Below w.heap.size w w' := by
  have hcm := fun (w' : World) (hw : Below w.heap.size w w') => compare_holds a m c b n d w' (by omega) (by omega) (hA.below hw) (hB.below hw)
  rw [cmpI_lt (by omega)] at hcm
  generalize dgs B32 m = x at *
  generalize dgs B32 n = y at *
  refine enterA [(0, .slice a x.length c), (1, .slice b y.length d)] Tryz.func97 Tryz.ntmps97 ?_
  all_goals (refine go ?_; and_intros <;> (try exact trivial) <;> repeat (first | refine fun (Bk : Nat) => ?_ | intro h))
  repeat' ((first | (apply G.cV (g := 124); rfl; rfl; exact fun w' hw => hcm w' hw.below)) <;> (refine go ?_; and_intros <;> (try exact trivial) <;> repeat (first | refine fun (Bk : Nat) => ?_ | intro h)))
  all_goals refine ret2b Tryz.func97 Tryz.results97 ?_
  all_goals rfl
/-- Two new slices of digits. -/
def RetLL (q r : Nat) (w : World) (e : Ending) (w' : World) : Prop :=
  ∃ a1 c1 a2 c2, e = .returned (.tuple #[.slice a1 (dgs B32 q).length c1, .slice a2 (dgs B32 r).length c2]) ∧ SlAt w' a1 1 ((dgs B32 q).map lmV) ∧ SlAt w' a2 1 ((dgs B32 r).map lmV) ∧ (∀ p, a1 = some p → w.heap.size ≤ p.block) ∧ (∀ p, a2 = some p → w.heap.size ≤ p.block) ∧ Below w.heap.size w w'
theorem sl_blk {w0 w : World} {M : List Row} {E g tot n : Nat} {l : List Nat} (hw : Sat w0 M w) (hm : Row.blk g E (flat lmV l) tot ∈ M) (ht : trimL l = dgs B32 n) : SlAt w (some ⟨g, 0, none⟩) 1 ((dgs B32 n).map lmV) := by
  have hs := SlAt.ofBlk (f := lmV) (sz := 1) lmV_len hw hm
  have hpre : ∀ i, i < (dgs B32 n).length → (dgs B32 n)[i]? = l[i]? := by
    have : trimL l <+: l := trimL_pre l
    rw [ht] at this
    obtain ⟨r, hr⟩ := this
    intro i hi
    rw [← hr, List.getElem?_append_left hi]
  intro h0
  have hlen : (dgs B32 n).length ≤ l.length := by rw [← ht]; exact trimL_le l
  simp only [List.length_map] at h0
  obtain ⟨b, off, h1, h2⟩ := hs (by simp only [List.length_map]; omega)
  refine ⟨b, off, h1, fun i cs hi => h2 i cs ?_⟩
  rw [List.getElem?_map] at hi ⊢
  obtain ⟨y, hy, rfl⟩ := Option.map_eq_some_iff.1 hi
  rw [← hpre i (List.getElem?_eq_some_iff.1 hy).1, hy]; rfl
theorem trimD_holds {w0 w : World} {M : List Row} {E g c tot n k : Nat} {l : List Nat} (hw : Sat w0 M w) (hm : Row.blk g E (flat lmV l) tot ∈ M) (hn : l.length = n) (ht : trimL l = dgs B32 k) (hc : n ≤ c) (hl : n ≤ 9223372036854775807) :
    Calls Tryz.prog 127 #[.slice (some ⟨g, 0, none⟩) n c] w fun e w' => e = .returned (.slice (some ⟨g, 0, none⟩) (dgs B32 k).length c) ∧ Below w.heap.size w w' := by
  rw [← ht]; exact trimB_holds hw hm hn hc hl
theorem by_one (a : Option Addr) (m c : Nat) (b : Option Addr) (n d : Nat) (w : World) (hl : (dgs B32 m).length ≤ 1073741824) (hA : SlAt w a 1 ((dgs B32 m).map lmV)) (hB : SlAt w b 1 ((dgs B32 n).map lmV)) (hge : n ≤ m) (h1 : (dgs B32 n).length = 1) :
    Calls Tryz.prog 97 #[.slice a (dgs B32 m).length c, .slice b (dgs B32 n).length d] w (RetLL (m / n) (m % n) w) := by
  have hcm := fun (w' : World) (hw : Below w.heap.size w w') => compare_holds a m c b n d w' (by omega) (by omega) (hA.below hw) (hB.below hw)
  have hc0 : 0 ≤ cmpI m n := by
    rcases Nat.lt_or_ge n m with h | h
    · rw [cmpI_gt (by omega)]; decide
    · rw [show m = n by omega, cmpI_eq]; decide
  have hn : dgs B32 n = [n] ∧ 0 < n ∧ n < B32 := by
    have h2 := vL_dgs (b := B32) (by decide) n
    have h3 := dgs_lt (b := B32) (by decide) n
    have h4 : n ≠ 0 := fun e => by rw [e, dgs_zero] at h1; cases h1
    match hh : dgs B32 n, h1 with
    | [x], _ =>
      rw [hh] at h2 h3
      have e : x = n := by simpa [vL] using h2
      subst e
      exact ⟨rfl, by omega, h3 x (.head _)⟩
  obtain ⟨hn1, hn2, hn3⟩ := hn
  have hsm := fun (w' : World) (hw : Below w.heap.size w w') => small_holds a m c n w' hl (hA.below hw) hn2 hn3
  obtain ⟨bb, ob, rfl, hrow⟩ := lm_at hB (k := 0) (by omega)
  have hg0 : (dgs B32 n).getD 0 0 = n := by rw [hn1]; rfl
  rw [hg0] at hrow
  rw [h1] at hcm ⊢
  have hr3 : m % n < B32 := Nat.lt_trans (Nat.mod_lt _ hn2) hn3
  have ht : trimL [m % n] = dgs B32 (m % n) := by
    rw [trimL_eq (b := B32) (by decide) [m % n] (fun d hd => by rw [List.mem_singleton.1 hd]; exact hr3)]; simp [vL]
  generalize cmpI m n = cc at *
  generalize dgs B32 m = x at *
  refine enterA [(0, .slice a x.length c), (1, .slice (some ⟨bb, ob, none⟩) 1 d)] Tryz.func97 Tryz.ntmps97 ?_
  all_goals (refine go ?_; and_intros <;> (try exact trivial) <;> repeat (first | refine fun (Bk : Nat) => ?_ | intro h))
  repeat' ((first | (apply G.cV (g := 124); rfl; rfl; exact fun w' hw => hcm w' hw.below) | (apply G.cN (g := 126) (fun a' c' => .tuple #[.slice a' (dgs B32 (m / n)).length c', .int .u32 ((m % n : Nat) : Int)]) ((dgs B32 (m / n)).map lmV); rfl; rfl; exact fun w' hw => hsm w' hw.below; intro a2 c2 hp2 hp3) | (apply G.sliceL; rfl; rfl; rfl; rfl; rfl; rfl; rfl; rfl; intro Bs) | (apply G.cV (g := 127); rfl; rfl; exact fun w' hw => trimD_holds (l := [m % n]) hw (by exact mm) rfl ht (by decide) (by decide)) | (apply G.ix (i := 0); rfl; rfl; rfl; omega; rfl)) <;> (refine go ?_; and_intros <;> (try exact trivial) <;> repeat (first | refine fun (Bk : Nat) => ?_ | intro h)))
  (refine ret2 Tryz.func97 Tryz.results97 ?_; intro w' hw)
  exact ⟨a2, c2, some ⟨Bs, 0, none⟩, 1, rfl, hw.sl (by exact mm), sl_blk (l := [m % n]) hw (.head _) ht, hp3, fun p hp => by cases hp; exact ((hw.old _ (.head _)).2 Bs rfl).1, hw.below⟩
end Go.Proofs.YteaccaieaigeaaaGreatDoor
/-
  Contract of the natural numbers' digits: by (the division by a number of at least two digits).
-/
namespace Go.Proofs.YteaccaieaigeaaaGreatDoor
open Go.RowKit Go.Sl Go.Num
theorem dgs_top {b : Nat} (hb : 2 ≤ b) {n : Nat} (hn : n ≠ 0) : (dgs b n).getD ((dgs b n).length - 1) 0 ≠ 0 := by
  intro h
  have h0 : (dgs b n).length ≠ 0 := by rw [dgs_pos hb hn]; simp
  have h1 := vL_take_succ b (dgs b n) ((dgs b n).length - 1)
  rw [h, Nat.mul_zero, Nat.add_zero, List.take_of_length_le (by omega), vL_dgs hb] at h1
  have h2 := vL_lt (b := b) (by omega) ((dgs b n).take ((dgs b n).length - 1)) fun d hd => dgs_lt hb n d (List.mem_of_mem_take hd)
  rw [List.length_take, Nat.min_eq_left (by omega)] at h2
  have := dgs_least hb n hn
  omega
theorem lm_sl {C : Ctx} {M : List Row} {N b off i : Nat} {l : List Nat} (hm : slRow N (some ⟨b, off, none⟩) 1 (l.map lmV) ∈ M) (hi : i < l.length) : CellV C M ⟨b, off + i * 1, none⟩ (.int .u32 ((l.getD i 0 : Nat) : Int)) := by
  refine CellV.sl0 hm hi ?_
  rw [List.getD_eq_getElem?_getD, List.getElem?_eq_getElem hi]; rfl
theorem lm_slE {C : Ctx} {M : List Row} {N b off i d : Nat} {l : List Nat} (hm : slRow N (some ⟨b, off, none⟩) 1 (l.map lmV) ∈ M) (hi : i < l.length) (he : l.getD i 0 = d) : CellV C M ⟨b, off + i * 1, none⟩ (.int .u32 (d : Int)) := by
  subst he; exact lm_sl hm hi
theorem flat_lm (l : List Nat) : flat lmV l = l.map fun d : Nat => Value.int .u32 (d : Int) := by
  induction l with
  | nil => rfl
  | cons x r ih => rw [flat_cons, ih]; rfl
theorem put_lm {rho : List Nat} {i n : Nat} {d : List Nat} (hd : d.length ≤ n + 1) (hl : i + n + 1 ≤ rho.length) : setL (setL (flat lmV rho) i (List.replicate (n + 1) (.int .u32 0))) i (flat lmV d) = flat lmV (putL rho i n d) := by
  rw [setL_eq (List.replicate (n + 1) _) _ _ (by simp [flat_lm]; omega), setL_eq _ _ _ (by simp [flat_lm]; omega)]
  simp only [flat_lm, putL, List.map_append, List.map_take, List.map_drop, List.map_replicate, List.length_replicate, List.length_map]
  have e1 : List.take i (List.take i (rho.map fun d : Nat => Value.int .u32 (d : Int)) ++ List.replicate (n + 1) (Value.int .u32 0) ++ List.drop (i + (n + 1)) (rho.map fun d : Nat => Value.int .u32 (d : Int))) = List.take i (rho.map fun d : Nat => Value.int .u32 (d : Int)) := by
    rw [List.append_assoc, List.take_append_of_le_length (by simp; omega), List.take_take, Nat.min_self]
  have e2 : List.drop (i + d.length) (List.take i (rho.map fun d : Nat => Value.int .u32 (d : Int)) ++ List.replicate (n + 1) (Value.int .u32 0) ++ List.drop (i + (n + 1)) (rho.map fun d : Nat => Value.int .u32 (d : Int))) = List.replicate (n + 1 - d.length) (Value.int .u32 0) ++ List.drop (i + (n + 1)) (rho.map fun d : Nat => Value.int .u32 (d : Int)) := by
    rw [List.append_assoc, List.drop_append, List.length_take, List.length_map, Nat.min_eq_left (by omega), List.drop_of_length_le (by simp; omega), List.nil_append, show i + d.length - i = d.length by omega, List.drop_append_of_le_length (by simp; omega), List.drop_replicate]
  rw [e1, e2]
  simp only [List.append_assoc]
  rfl
/-- What is known at the head of the loop over the digits of the quotient. -/
structure DI (V M' nV L ql : Nat) (s : Nat × Int × List Nat × List Nat) : Prop where
  a1 : s.1 + nV ≤ L
  a2 : s.2.1 = (s.1 : Int) - 1
  a3 : s.2.2.1.length = L
  a4 : ∀ d ∈ s.2.2.1, d < B32
  a5 : vL B32 (s.2.2.1.drop s.1) < V
  a6 : s.1 + nV = L → s.2.2.1.getD (L - 1) 0 = 0 ∧ s.2.2.1.getD (L - 2) 0 = 0
  a7 : s.2.2.2.length = ql
  a8 : ∀ d ∈ s.2.2.2, d < B32
  a9 : ∀ t, t < s.1 → s.2.2.2.getD t 0 = 0
  a10 : vL B32 s.2.2.1 + V * vL B32 s.2.2.2 = M'
theorem mulK_n {a b : Nat} (h : a * b < 18446744073709551616) : IntKind.u64.wrap ((a : Int) * (b : Int)) = ((a * b : Nat) : Int) := by
  rw [wrap_u64, ← Int.natCast_mul]; omega
theorem subK_n {a b : Nat} (h : b ≤ a) (ha : a < 18446744073709551616) : IntKind.u64.wrap ((a : Int) - (b : Int)) = ((a - b : Nat) : Int) := by
  rw [wrap_u64]; omega
theorem shl32 {a : Nat} (h : a < 4294967296) : IntKind.u64.wrap ((a : Int) * 2 ^ (min 32 IntKind.u64.bits)) = ((a * 4294967296 : Nat) : Int) := by
  have e0 : (2 : Int) ^ (min 32 IntKind.u64.bits) = 4294967296 := rfl
  rw [e0, wrap_u64]; omega
theorem quo_n {a b : Nat} (h : a < 18446744073709551616) : IntKind.u64.wrap ((a : Int).tdiv (b : Int)) = ((a / b : Nat) : Int) := by
  have h2 := Nat.div_le_self a b
  rw [Int.tdiv_eq_ediv_of_nonneg (by omega), ← Int.natCast_ediv, wrap_u64]
  generalize a / b = q at *
  omega
/-- The start of the loop over the digits. -/
theorem di_start {V M' lx : Nat} (hV : 2 ≤ (dgs B32 V).length) (hle : V ≤ M') (hlx : (dgs B32 M').length ≤ lx + 1) :
    DI V M' (dgs B32 V).length ((dgs B32 M').length + 2) (lx + 2 - (dgs B32 V).length) ((dgs B32 M').length + 2 - (dgs B32 V).length, (((dgs B32 M').length + 2 : Nat) : Int) - (dgs B32 V).length - 1, dgs B32 M' ++ [0, 0], List.replicate (lx + 2 - (dgs B32 V).length) 0) := by
  have hb : 2 ≤ B32 := by decide
  have hV0 : V ≠ 0 := fun e => by rw [e, dgs_zero] at hV; exact absurd hV (by decide)
  have h1 := dgs_len_mono hb hle
  have h2 := dgs_least hb V hV0
  have h3 := dgs_lt hb M'
  have h4 := vL_dgs hb M'
  generalize dgs B32 M' = x at *
  generalize hn : (dgs B32 V).length = nV at *
  have hd : (x ++ [0, 0]).drop (x.length + 2 - nV) = x.drop (x.length + 2 - nV) ++ [0, 0] := by
    rw [List.drop_append_of_le_length (by omega)]
  refine ⟨by dsimp only; omega, by dsimp only; omega, by simp, ?_, ?_, ?_, by simp, ?_, ?_, ?_⟩
  · intro d hd
    rcases List.mem_append.1 hd with h | h
    · exact h3 d h
    · have : d = 0 := by simpa using h
      rw [this]; decide
  · dsimp only
    rw [hd, vL_append]
    have h5 := vL_lt (b := B32) (by decide) (x.drop (x.length + 2 - nV)) fun d hd => h3 d (List.mem_of_mem_drop hd)
    rw [List.length_drop] at h5
    have h6 : B32 ^ (x.length - (x.length + 2 - nV)) ≤ B32 ^ (nV - 1) := Nat.pow_le_pow_right (by decide) (by omega)
    have h7 : vL B32 [0, 0] = 0 := rfl
    rw [h7, Nat.mul_zero, Nat.add_zero]
    exact Nat.lt_of_lt_of_le h5 (Nat.le_trans h6 h2)
  · intro _
    dsimp only
    simp only [List.getD_eq_getElem?_getD]
    rw [List.getElem?_append_right (by omega), List.getElem?_append_right (by omega)]
    simp
  · intro d hd
    rw [List.eq_of_mem_replicate hd]; decide
  · intro t _
    simp only [List.getD_eq_getElem?_getD, List.getElem?_replicate]
    split <;> rfl
  · dsimp only
    rw [vL_append, vL_zero, h4]
    have h7 : vL B32 [0, 0] = 0 := rfl
    rw [h7]; simp
theorem di_kn {V M' L ql nV j : Nat} {z : Int} {rho Q v : List Nat} (h : DI V M' nV L ql (j + 1, z, rho, Q)) (hv : vL B32 v = V) (hvl : v.length = nV) (hvd : ∀ d ∈ v, d < B32) (hn : 2 ≤ nV) : Kn B32 V v rho j nV :=
  ⟨by decide, hv, hvl, hvd, hn, h.a4, by have := h.a1; have := h.a3; dsimp only at *; omega, h.a5⟩
theorem di_skip {V M' L ql nV j : Nat} {z : Int} {rho Q v : List Nat} (h : DI V M' nV L ql (j + 1, z, rho, Q)) (kn : Kn B32 V v rho j nV) (hq : vL B32 (rho.drop j) / V = 0) : DI V M' nV L ql (j, (j : Int) - 1, rho, Q) := by
  have h1 := h.a1
  refine ⟨by dsimp only at *; omega, rfl, h.a3, h.a4, ?_, fun e => ?_, h.a7, h.a8, fun t ht => h.a9 t (by dsimp only at *; omega), h.a10⟩
  · exact Nat.lt_of_div_eq_zero kn.vpos hq
  · dsimp only at *; omega
theorem di_next {V M' L ql nV j g : Nat} {z : Int} {rho Q v d : List Nat} (h : DI V M' nV L ql (j + 1, z, rho, Q)) (kn : Kn B32 V v rho j nV) (hq : g = vL B32 (rho.drop j) / V) (hj : j < ql) (hd : ∀ x ∈ d, x < B32) (hdl : d.length ≤ nV + 1) (hdv : vL B32 d = vL B32 (rho.drop j) - g * V) :
    DI V M' nV L ql (j, (j : Int) - 1, putL rho j nV d, Q.set j g) := by
  obtain ⟨p1, p2, p3, p4⟩ := kn.put hq hd hdl hdv
  have h1 := h.a1
  have h7 := h.a7
  have hg : g < B32 := by rw [hq]; exact kn.qlt
  have h9 := h.a9 j (by dsimp only; omega)
  dsimp only at h1 h7 h9
  refine ⟨by dsimp only; omega, rfl, p1.trans h.a3, p2, p3, fun e => by dsimp only at e; omega, by simpa using h7, set_lt h.a8 hg, fun t ht => ?_, ?_⟩
  · dsimp only at ht
    have h10 := h.a9 t (by dsimp only; omega)
    dsimp only at h10 ⊢
    rw [List.getD_eq_getElem?_getD, List.getElem?_set_ne (by omega), ← List.getD_eq_getElem?_getD]
    exact h10
  · have h10 := h.a10
    have h11 := vL_set B32 Q j g (by omega)
    dsimp only at h10 ⊢
    rw [h9, Nat.mul_zero, Nat.add_zero] at h11
    rw [h11, Nat.mul_add, ← h10, ← p4, Nat.mul_left_comm V, Nat.mul_comm V g]
    omega
set_option maxHeartbeats 4000000 in
theorem by_ge (a : Option Addr) (m c : Nat) (b : Option Addr) (n d : Nat) (w : World) (hl : (dgs B32 m).length ≤ 268435456) (hA : SlAt w a 1 ((dgs B32 m).map lmV)) (hB : SlAt w b 1 ((dgs B32 n).map lmV)) (hge : n ≤ m) (h2 : 2 ≤ (dgs B32 n).length) :
    Calls Tryz.prog 97 #[.slice a (dgs B32 m).length c, .slice b (dgs B32 n).length d] w (RetLL (m / n) (m % n) w) := by
  have hlm := dgs_len_mono (b := B32) (by decide) hge
  have hn0 : n ≠ 0 := fun e => by rw [e, dgs_zero] at h2; exact absurd h2 (by decide)
  have hcm := fun (w' : World) (hw : Below w.heap.size w w') => compare_holds a m c b n d w' (by omega) (by omega) (hA.below hw) (hB.below hw)
  have hc0 : 0 ≤ cmpI m n := by
    rcases Nat.lt_or_ge n m with h | h
    · rw [cmpI_gt (by omega)]; decide
    · rw [show m = n by omega, cmpI_eq]; decide
  generalize cmpI m n = cc at *
  have htop := dgs_top (b := B32) (by decide) hn0
  have hyd := dgs_lt (b := B32) (by decide) n
  have hxv := vL_dgs (b := B32) (by decide) m
  have hxd := vL_lt (b := B32) (by decide) (dgs B32 m) (dgs_lt (by decide) m)
  rw [hxv] at hxd
  have hshX := fun (k : Nat) (w' : World) (hw : Below w.heap.size w w') (hk : k ≤ 31) => shl_holds a m c k w' (by omega) (hA.below hw) hk
  have hshY := fun (k : Nat) (w' : World) (hw : Below w.heap.size w w') (hk : k ≤ 31) => shl_holds b n d k w' (by omega) (hB.below hw) hk
  have hlenV : ∀ k, (dgs B32 n).length ≤ (dgs B32 (n * 2 ^ k)).length := fun k => dgs_len_mono (by decide) (by have := Nat.mul_le_mul_left n (Nat.two_pow_pos k); omega)
  generalize dgs B32 m = x at *
  generalize dgs B32 n = y at *
  obtain ⟨bb, ob, rfl, hrow⟩ := lm_at hB (k := y.length - 1) (by omega)
  have ht := getD_lt (b := B32) (by decide) hyd (y.length - 1)
  generalize y.getD (y.length - 1) 0 = t at *
  refine enterA [(0, .slice a x.length c), (1, .slice (some ⟨bb, ob, none⟩) y.length d)] Tryz.func97 Tryz.ntmps97 ?_
  all_goals (refine go ?_; and_intros <;> (try exact trivial) <;> repeat (first | refine fun (Bk : Nat) => ?_ | intro h))
  repeat' ((first | (apply G.cV (g := 124); rfl; rfl; exact fun w' hw => hcm w' hw.below)) <;> (refine go ?_; and_intros <;> (try exact trivial) <;> repeat (first | refine fun (Bk : Nat) => ?_ | intro h)))
  clear hcm hc0
  refine J.loop (c := _) (0 : Nat) (fun s => 32 - s) (fun s => [(0, .slice a x.length c), (1, .slice (some ⟨bb, ob, none⟩) y.length d), (8, .int .i64 s)]) (fun s => []) (fun s => s ≤ 31 ∧ t * 2 ^ s < 4294967296) ?_ sbT sbL ?_
  · exact ⟨Nat.zero_le _, by rw [Nat.pow_zero, Nat.mul_one]; exact ht⟩
  intro k ⟨hk, htk⟩ ih
  have hsh : IntKind.u32.wrap ((t : Int) * 2 ^ (min k IntKind.u32.bits)) = ((t * 2 ^ k : Nat) : Int) := by
    have e0 : min k IntKind.u32.bits = k := Nat.min_eq_left (show k ≤ 32 by omega)
    have e1 : (t : Int) * (2 : Int) ^ k = ((t * 2 ^ k : Nat) : Int) := by simp
    rw [e0, e1, wrap_u32]; omega
  by_cases hgo : t * 2 ^ k < 2147483648
  · have hk1 : k + 1 ≤ 31 := by
      rcases Nat.lt_or_ge k 31 with h | h
      · omega
      · have : k = 31 := by omega
        subst this
        omega
    all_goals (refine go ?_; and_intros <;> (try exact trivial) <;> repeat (first | refine fun (Bk : Nat) => ?_ | intro h))
    repeat' ((first | (apply G.ix (i := y.length - 1); rfl; rfl; omega; omega; rfl) | (apply G.shlK (n := k); rfl; rfl; rfl; exact hsh; rfl; rfl; rfl)) <;> (refine go ?_; and_intros <;> (try exact trivial) <;> repeat (first | refine fun (Bk : Nat) => ?_ | intro h)))
    exact J.fin (ih (k + 1) ⟨hk1, by rw [Nat.pow_succ, ← Nat.mul_assoc]; omega⟩ (by omega))
  have hV2 := hlenV k
  have hshX := hshX k
  have hshY := hshY k
  have hle : n * 2 ^ k ≤ m * 2 ^ k := Nat.mul_le_mul_right _ hge
  have hM1 : (dgs B32 (m * 2 ^ k)).length ≤ x.length + 1 := by
    refine dgs_bound (by decide) _ _ ?_
    rw [Nat.pow_succ]
    have : 2 ^ k < B32 := Nat.lt_of_le_of_lt (Nat.pow_le_pow_right (by omega) hk) (by decide)
    exact Nat.mul_lt_mul'' hxd this
  have hst := di_start (V := n * 2 ^ k) (M' := m * 2 ^ k) (lx := x.length) (by omega) hle hM1
  have hVM := dgs_len_mono (b := B32) (by decide) hle
  have hvv := vL_dgs (b := B32) (by decide) (n * 2 ^ k)
  have hvd := dgs_lt (b := B32) (by decide) (n * 2 ^ k)
  have hvt := dgs_top (b := B32) (by decide) (n := n * 2 ^ k) (fun e => by rw [e, dgs_zero, List.length_nil] at hV2; omega)
  have hkq : ∀ N, N * 2 ^ k / 2 ^ k = N := fun N => Nat.mul_div_cancel _ (Nat.two_pow_pos k)
  have hdiv : m * 2 ^ k / (n * 2 ^ k) = m / n := Nat.mul_div_mul_right _ _ (Nat.two_pow_pos k)
  have hmod : m * 2 ^ k % (n * 2 ^ k) = m % n * 2 ^ k := Nat.mul_mod_mul_right _ _ _
  generalize hVV : n * 2 ^ k = V at *
  generalize hMM : m * 2 ^ k = M' at *
  have tmV : ∀ (w' : World) (a3 : Option Addr) (c3 p gg : Nat), SlAt w' a3 1 ((dgs B32 V).map lmV) → SlAt w' (some ⟨p, 0, none⟩) 1 ([gg].map lmV) → 0 < gg → gg < B32 → Calls Tryz.prog 122 #[.slice a3 (dgs B32 V).length c3, .slice (some ⟨p, 0, none⟩) 1 1] w' (RetL (V * gg) w') := by
    intro w' a3 c3 p gg h3 h4 h5 h6
    have h7 := times_holds a3 V c3 (some ⟨p, 0, none⟩) gg 1 w' (by omega) (by rw [dgs_one h5 h6]; simp) h3 (by rw [dgs_one h5 h6]; exact h4)
    rwa [dgs_one h5 h6] at h7
  have mnV : ∀ (w' : World) (ap : Option Addr) (cp : Nat) (a3 : Option Addr) (c3 gg : Nat), SlAt w' ap 1 ((dgs B32 (V * gg)).map lmV) → SlAt w' a3 1 ((dgs B32 V).map lmV) → 0 < gg → (dgs B32 (V * gg)).length ≤ 1073741824 → Calls Tryz.prog 125 #[.slice ap (dgs B32 (V * gg)).length cp, .slice a3 (dgs B32 V).length c3] w' (RetL (V * (gg - 1)) w') := by
    intro w' ap cp a3 c3 gg h3 h4 h5 h6
    have e : V * (gg - 1) = V * gg - V := by rw [Nat.mul_sub, Nat.mul_one]
    rw [e]
    exact minus_holds ap (V * gg) cp a3 V c3 w' h6 (by omega) h3 h4 (by have := Nat.mul_le_mul_left V h5; omega)
  have hVB : V < B32 ^ (dgs B32 V).length := by
    have := vL_lt (b := B32) (by decide) (dgs B32 V) hvd
    rwa [hvv] at this
  have hshX : ∀ w' : World, Below w.heap.size w w' → Calls Tryz.prog 128 #[.slice a x.length c, .int .i64 k] w' (fun e w2 => ∃ a' c', e = .returned (.slice a' (dgs B32 M').length c') ∧ SlAt w2 a' 1 ((dgs B32 M').map lmV) ∧ (∀ p, a' = some p → w'.heap.size ≤ p.block) ∧ Below w'.heap.size w' w2) := fun w' hw => hshX w' hw hk
  have hshY : ∀ w' : World, Below w.heap.size w w' → Calls Tryz.prog 128 #[.slice (some ⟨bb, ob, none⟩) y.length d, .int .i64 k] w' (fun e w2 => ∃ a' c', e = .returned (.slice a' (dgs B32 V).length c') ∧ SlAt w2 a' 1 ((dgs B32 V).map lmV) ∧ (∀ p, a' = some p → w'.heap.size ≤ p.block) ∧ Below w'.heap.size w' w2) := fun w' hw => hshY w' hw hk
  generalize hv : dgs B32 V = v at *
  generalize hx' : dgs B32 M' = x' at *
  have hx'0 : 0 < x'.length := by omega
  all_goals (refine go ?_; and_intros <;> (try exact trivial) <;> repeat (first | refine fun (Bk : Nat) => ?_ | intro h))
  repeat' ((first | (apply G.ix (i := y.length - 1); rfl; rfl; omega; omega; rfl) | (apply G.shlK (n := k); rfl; rfl; rfl; exact hsh; rfl; rfl; rfl) | (apply G.cN (g := 128) (vs := [.slice (some ⟨bb, ob, none⟩) y.length d, .int .i64 k]) (fun a' c' => .slice a' v.length c') (v.map lmV); rfl; rfl; exact fun w' hw => hshY w' hw.below; intro a3 c3 hp3 hq3) | (apply G.cN (g := 128) (vs := [.slice a x.length c, .int .i64 k]) (fun a' c' => .slice a' x'.length c') (x'.map lmV); rfl; rfl; exact fun w' hw => hshX w' hw.below; intro a4 c4 hp4 hq4)) <;> (refine go ?_; and_intros <;> (try exact trivial) <;> repeat (first | refine fun (Bk : Nat) => ?_ | intro h)))
  obtain ⟨b4, o4, rfl⟩ := hp4 (by rw [List.length_map]; exact hx'0)
  obtain ⟨b3, o3, rfl⟩ := hp3 (by rw [List.length_map]; omega)
  all_goals (refine go ?_; and_intros <;> (try exact trivial) <;> repeat (first | refine fun (Bk : Nat) => ?_ | intro h))
  repeat' ((first | (apply G.cO (g := 129) id; rfl; rfl; exact fun w' hw => clone_holds _ x' c4 w' (by omega) (hw.sl (by exact mm)); intro u) | (apply G.sliceL; rfl; rfl; rfl; rfl; rfl; rfl; rfl; rfl; intro Bs) | (apply G.apO; rfl; rfl; rfl; (repeat (first | exact RAt.head | apply RAt.tail)); exact SrcV.blk (by exact mm) rfl rfl; exact (flat_append lmV x' [0, 0]).symm; omega; omega; omega; intro rg rc hrc) | (apply G.make (n := x.length + 2 - v.length) [.int .u32 0]; rfl; rfl; rfl; rfl; rfl; omega; omega; rfl; omega; omega; intro Qk; rw [zero_lm])) <;> (refine go ?_; and_intros <;> (try exact trivial) <;> repeat (first | refine fun (Bk : Nat) => ?_ | intro h)))
  clear hshX hshY hlenV hA hrow hp3 hp4 hq4
  generalize hnV : v.length = nV at *
  generalize hL : x'.length + 2 = L at *
  generalize hql : x.length + 2 - nV = ql at *
  have hw0 : ∀ {M : List Row} {w' : World}, Sat w M w' → Sat w M w' := fun h => h
  refine J.loop (c := _) ((L - nV, (L : Int) - nV - 1, x' ++ [0, 0], List.replicate ql 0) : Nat × Int × List Nat × List Nat) (fun s => s.1) (fun s => [(8, .int .i64 k), (9, .slice (some ⟨b3, o3, none⟩) nV c3), (10, .slice (some ⟨rg, 0, none⟩) L rc), (11, .int .i64 nV), (12, .slice (some ⟨Qk, 0, none⟩) ql ql), (13, .int .i64 s.2.1)]) (fun s => [.blk Qk 144 (flat lmV s.2.2.2) (ql * 1), .blk rg 144 (flat lmV s.2.2.1) (rc * 1), slRow w.heap.size (some ⟨b3, o3, none⟩) 1 (v.map lmV)]) (fun s => DI V M' nV L ql s) ?_ sbT sbL ?_
  · exact hst
  intro ⟨i, z, rho, Q⟩ hdi ih
  rcases Nat.eq_zero_or_pos i with rfl | hi0
  · have d5 := hdi.a5
    have d10 := hdi.a10
    have d2 := hdi.a2
    have d3 := hdi.a3
    have d7 := hdi.a7
    dsimp only at d2 d3 d5 d7 d10 ⊢
    rw [List.drop_zero] at d5
    have hqv : vL B32 Q = m / n := by
      rw [← hdiv, ← d10, Nat.add_mul_div_left _ _ (by omega), Nat.div_eq_of_lt d5, Nat.zero_add]
    have hrv : vL B32 rho = m % n * 2 ^ k := by
      rw [← hmod, ← d10, Nat.add_mul_mod_self_left, Nat.mod_eq_of_lt d5]
    have tQ : trimL Q = dgs B32 (m / n) := by rw [trimL_eq (by decide) Q hdi.a8, hqv]
    have tR : trimL rho = dgs B32 (m % n * 2 ^ k) := by rw [trimL_eq (by decide) rho hdi.a4, hrv]
    have lR : (dgs B32 (m % n * 2 ^ k)).length ≤ L := by rw [← tR, ← d3]; exact trimL_le rho
    have hsh : ∀ (w' : World) (a1 : Option Addr) (c1 : Nat), SlAt w' a1 1 ((dgs B32 (m % n * 2 ^ k)).map lmV) → Calls Tryz.prog 128 #[.slice a1 (dgs B32 (m % n * 2 ^ k)).length c1, .int .i64 (-(k : Int))] w' (RetL (m % n) w') := by
      intro w' a1 c1 h
      rcases Nat.eq_zero_or_pos k with rfl | hk0
      · have := shl_holds a1 (m % n * 2 ^ 0) c1 0 w' (by omega) h (by decide)
        rwa [show m % n * 2 ^ 0 * 2 ^ 0 = m % n by simp] at this
      · have := shr_holds a1 (m % n * 2 ^ k) c1 k w' (by omega) h hk0 hk
        rwa [hkq] at this
    all_goals (refine go ?_; and_intros <;> (try exact trivial) <;> repeat (first | refine fun (Bk : Nat) => ?_ | intro h))
    repeat' ((first | (apply G.cV (g := 127) (vs := [.slice (some ⟨Qk, 0, none⟩) ql ql]); rfl; rfl; exact fun w' hw => trimD_holds (l := Q) hw (by exact mm) d7 tQ (by omega) (by omega)) | (apply G.cV (g := 127) (vs := [.slice (some ⟨rg, 0, none⟩) L rc]); rfl; rfl; exact fun w' hw => trimD_holds (l := rho) hw (by exact mm) d3 tR (by omega) (by omega)) | (apply G.cN (g := 128) (fun a' c' => .slice a' (dgs B32 (m % n)).length c') ((dgs B32 (m % n)).map lmV); rfl; rfl; exact fun w' hw => hsh w' _ _ (sl_blk hw (by exact mm) tR); intro a5 c5 hp5 hq5)) <;> (refine go ?_; and_intros <;> (try exact trivial) <;> repeat (first | refine fun (Bk : Nat) => ?_ | intro h)))
    (refine ret2 Tryz.func97 Tryz.results97 ?_; intro w' hw)
    exact ⟨_, _, a5, c5, rfl, sl_blk hw (by exact mm) tQ, hw.sl (by exact mm), fun p hp => by cases hp; exact ((hw.old (.blk Qk 144 (flat lmV Q) (ql * 1)) (by exact mm)).2 Qk rfl).1, hq5, hw.below⟩
  obtain ⟨j, rfl⟩ : ∃ j, i = j + 1 := ⟨i - 1, by omega⟩
  have hz : z = (j : Int) := by have := hdi.a2; dsimp only at this; omega
  subst hz
  have kn := di_kn hdi hvv hnV hvd (by omega)
  have hj1 := hdi.a1
  have hrl := hdi.a3
  have hQl := hdi.a7
  have htop0 := hdi.a6
  dsimp only at hj1 hrl hQl htop0 ⊢
  have hrd := fun i => getD_lt (b := 4294967296) (by decide) (x := rho) hdi.a4 i
  have hvdd := fun i => getD_lt (b := 4294967296) (by decide) (x := v) hvd i
  have g0 := lm_get (p := rho) (j := j + nV) (by omega)
  have g1 := lm_get (p := rho) (j := j + nV - 1) (by omega)
  have g2 := lm_get (p := rho) (j := j + nV - 2) (by omega)
  have hguess := kn.guess
  have hqlt := kn.qlt
  have hsec := fun l g => kn.second (l := l) (g := g)
  have f0 := hrd (j + nV)
  have f1 := hrd (j + nV - 1)
  have f2 := hrd (j + nV - 2)
  have f3 := hvdd (nV - 1)
  have f4 := hvdd (nV - 2)
  have hvt0 : v.getD (nV - 1) 0 ≠ 0 := hvt
  generalize hr0 : rho.getD (j + nV) 0 = r0 at *
  generalize hr1 : rho.getD (j + nV - 1) 0 = r1 at *
  generalize hr2 : rho.getD (j + nV - 2) 0 = r2 at *
  generalize hvt1 : v.getD (nV - 1) 0 = vt at *
  generalize hvu1 : v.getD (nV - 2) 0 = vu at *
  generalize hq : vL B32 (rho.drop j) / V = q at *
  have or1 := or32 f1 f0
  obtain ⟨T, hT⟩ : ∃ T, T = r0 * 4294967296 + r1 := ⟨_, rfl⟩
  rw [← hT] at or1
  have hTb : T < 18446744073709551616 := by omega
  have hdq := quo_n (b := vt) hTb
  have hguess2 : q ≤ T / vt := (Nat.le_div_iff_mul_le (by omega)).2 (by rw [hT]; exact hguess)
  have hdm : T / vt * vt ≤ T := Nat.div_mul_le_self _ _
  generalize T / vt = q0 at *
  have hmin : min (q0 : Int) 4294967295 = ((min q0 4294967295 : Nat) : Int) := by omega
  have hg0q : q ≤ min q0 4294967295 := by
    have : q < 4294967296 := hqlt
    omega
  have hg0m : min q0 4294967295 * vt ≤ T := Nat.le_trans (Nat.mul_le_mul_right _ (Nat.min_le_left _ _)) hdm
  have hg0b : min q0 4294967295 ≤ 4294967295 := Nat.min_le_right _ _
  generalize min q0 4294967295 = gs at *
  have hm1 := mulK_n (a := gs) (b := vt) (by omega)
  have hs1 := subK_n hg0m hTb
  have hvt2 : (vt : Int) ≠ 0 := by omega
  repeat' (first | (apply G.ix (i := j + nV); rfl; rfl; omega; omega; rfl) | (apply G.ix (i := j + nV - 1); rfl; rfl; omega; omega; rfl) | (apply G.ix (i := nV - 1); rfl; rfl; omega; omega; rfl) | (apply G.ld; rfl; (apply LdV.one; (first | exact CellV.blk (by exact mm) g0 | exact CellV.blk (by exact mm) g1 | exact lm_slE (by exact mm) (by omega) hvt1)); rfl) | (apply G.shlK (n := 32); rfl; rfl; rfl; exact shl32 f0; rfl; rfl; rfl) | (apply G.orK; rfl; rfl; exact or1; rfl; rfl; rfl) | (apply G.quoK; rfl; rfl; exact hvt2; exact hdq; rfl; rfl; rfl) | (apply G.mnE; rfl; rfl; exact hmin; rfl) | (apply G.mulK; rfl; rfl; exact hm1; rfl; rfl; rfl) | (apply G.subK; rfl; rfl; exact hs1; rfl; rfl; rfl) | (apply G.pu; rfl; rfl; first | exact trivial | omega) | (apply J.ct; rfl) | (apply G.nil; rfl) | (apply G.cm; rfl; rfl; all_goals intro h; all_goals try (exfalso; omega)) | (apply G.fa; rfl; rfl) | (apply G.ld; rfl; (first | (apply LdV.one; (first | exact CellV.row0 (by assumption) rfl | exact CellV.rowS (by assumption) rfl | exact CellV.rowSS (by assumption) rfl | (apply CellV.blk; exact mm; rfl))) | (apply LdV.aggBlk; exact mm; rfl) | (apply LdV.part; exact mm; rfl; rfl) | (apply LdV.aggRow; assumption; rfl) | (apply LdV.partRow; assumption; rfl; rfl)); rfl) | (apply G.sk; rfl) | (apply G.ls; rfl; rfl) | (apply G.ix; rfl; rfl; rfl; omega; rfl) | (apply G.ix; rfl; rfl; (first | exact sub_one _ | exact add_one' _); omega; rfl) | (apply G.lt; rfl; rfl) | (apply G.bu; rfl; rfl; rfl) | (apply G.fd; rfl; rfl; rfl) | (apply G.cv; rfl; rfl; rfl; omega) | (apply G.beq; rfl; rfl; rfl) | (apply G.bne; rfl; rfl; rfl) | (apply G.mm; rfl; rfl) | (apply G.mf; rfl; rfl) | (apply G.mx; rfl; rfl; rfl) | (apply G.mn; rfl; rfl; rfl) | (apply G.bx; rfl; rfl; rfl; intro Bk) | (apply G.al; rfl; intro Bk) | (apply G.so; rfl; rfl; (repeat (first | exact RAt.head | apply RAt.tail)); rfl; rfl) | (apply G.ss; rfl; rfl; (repeat (first | exact RAt.head | apply RAt.tail)); rfl; rfl) | (apply J.regQ; exact Tryz.mixed; decide +kernel) | (apply J.regL; exact Tryz.mixed; decide +kernel) | apply J.reg)
  refine J.loop (c := _) ((gs, T - gs * vt) : Nat × Nat) (fun s => s.1) (fun s => [(8, .int .i64 k), (9, .slice (some ⟨b3, o3, none⟩) nV c3), (10, .slice (some ⟨rg, 0, none⟩) L rc), (11, .int .i64 nV), (12, .slice (some ⟨Qk, 0, none⟩) ql ql), (13, .int .i64 j), (15, .int .u64 s.1), (16, .int .u64 s.2)]) (fun s => [.blk Qk 144 (flat lmV Q) (ql * 1), .blk rg 144 (flat lmV rho) (rc * 1), slRow w.heap.size (some ⟨b3, o3, none⟩) 1 (v.map lmV)]) (fun s => q ≤ s.1 ∧ s.1 ≤ 4294967295 ∧ s.2 + s.1 * vt = T) ?_ sbT sbL ?_
  · exact ⟨hg0q, hg0b, by dsimp only; omega⟩
  clear hm1 hs1 hg0q hg0m hg0b hdm hguess2 hdq or1
  intro ⟨g, l⟩ ⟨k1, k2, k3⟩ ih2
  dsimp only at k1 k2 k3 ⊢
  have hgu : g * vu < 18446744073709551616 := by
    have : g * vu ≤ 4294967295 * 4294967295 := Nat.mul_le_mul k2 (by omega)
    omega
  have hm2 := mulK_n hgu
  have hsec2 : l * 4294967296 + r2 < g * vu → q < g := fun h => hsec l g (by rw [hT] at k3; exact k3) h
  generalize g * vu = gu at *
  by_cases hgo : l < 4294967296 ∧ l * 4294967296 + r2 < gu
  · obtain ⟨hl32, hgt⟩ := hgo
    have hqg := hsec2 hgt
    have hs2 := subK_n (a := g) (b := 1) (by omega) (by omega)
    have or2 := or32 f2 hl32
    repeat' (first | (apply G.ix (i := j + nV - 2); rfl; rfl; omega; omega; rfl) | (apply G.ix (i := nV - 1); rfl; rfl; omega; omega; rfl) | (apply G.ix (i := nV - 2); rfl; rfl; omega; omega; rfl) | (apply G.ld; rfl; (apply LdV.one; (first | exact CellV.blk (by exact mm) g2 | exact lm_slE (by exact mm) (by omega) hvt1 | exact lm_slE (by exact mm) (by omega) hvu1)); rfl) | (apply G.shlK (n := 32); rfl; rfl; rfl; exact shl32 hl32; rfl; rfl; rfl) | (apply G.orK; rfl; rfl; exact or2; rfl; rfl; rfl) | (apply G.mulK; rfl; rfl; exact hm2; rfl; rfl; rfl) | (apply G.subK; rfl; rfl; exact hs2; rfl; rfl; rfl) | (apply G.pu; rfl; rfl; first | exact trivial | omega) | (apply J.ct; rfl) | (apply G.nil; rfl) | (apply G.cm; rfl; rfl; all_goals intro h; all_goals try (exfalso; omega)) | (apply G.fa; rfl; rfl) | (apply G.ld; rfl; (first | (apply LdV.one; (first | exact CellV.row0 (by assumption) rfl | exact CellV.rowS (by assumption) rfl | exact CellV.rowSS (by assumption) rfl | (apply CellV.blk; exact mm; rfl))) | (apply LdV.aggBlk; exact mm; rfl) | (apply LdV.part; exact mm; rfl; rfl) | (apply LdV.aggRow; assumption; rfl) | (apply LdV.partRow; assumption; rfl; rfl)); rfl) | (apply G.sk; rfl) | (apply G.ls; rfl; rfl) | (apply G.ix; rfl; rfl; rfl; omega; rfl) | (apply G.ix; rfl; rfl; (first | exact sub_one _ | exact add_one' _); omega; rfl) | (apply G.lt; rfl; rfl) | (apply G.bu; rfl; rfl; rfl) | (apply G.fd; rfl; rfl; rfl) | (apply G.cv; rfl; rfl; rfl; omega) | (apply G.beq; rfl; rfl; rfl) | (apply G.bne; rfl; rfl; rfl) | (apply G.mm; rfl; rfl) | (apply G.mf; rfl; rfl) | (apply G.mx; rfl; rfl; rfl) | (apply G.mn; rfl; rfl; rfl) | (apply G.bx; rfl; rfl; rfl; intro Bk) | (apply G.al; rfl; intro Bk) | (apply G.so; rfl; rfl; (repeat (first | exact RAt.head | apply RAt.tail)); rfl; rfl) | (apply G.ss; rfl; rfl; (repeat (first | exact RAt.head | apply RAt.tail)); rfl; rfl) | (apply J.regQ; exact Tryz.mixed; decide +kernel) | (apply J.regL; exact Tryz.mixed; decide +kernel) | apply J.reg)
    exact J.forget (by (repeat' (first | exact List.Sublist.refl _ | apply List.Sublist.cons_cons | apply List.Sublist.cons))) (J.sub (by (repeat' (first | exact trivial | refine ⟨rfl, ?_⟩))) (ih2 (g - 1, l + vt) ⟨by dsimp only; omega, by dsimp only; omega, by
      dsimp only
      obtain ⟨g', rfl⟩ : ∃ g', g = g' + 1 := ⟨g - 1, by omega⟩
      rw [Nat.add_mul, Nat.one_mul] at k3
      rw [Nat.add_sub_cancel]; omega⟩ (by dsimp only; omega)))
  clear ih2
  have hnext : g = 0 → DI V M' nV L ql (j, (j : Int) - 1, rho, Q) := fun e => di_skip hdi kn (by rw [hq]; omega)
  apply J.ct
  · rfl
  apply J.regQ Tryz.mixed (by decide +kernel)
  refine G.cut (X := Unit) (fun _ => [(136, .bool false), (8, .int .i64 k), (9, .slice (some ⟨b3, o3, none⟩) nV c3), (10, .slice (some ⟨rg, 0, none⟩) L rc), (11, .int .i64 nV), (12, .slice (some ⟨Qk, 0, none⟩) ql ql), (13, .int .i64 j), (15, .int .u64 g)]) (fun _ => [.blk Qk 144 (flat lmV Q) (ql * 1), .blk rg 144 (flat lmV rho) (rc * 1), slRow w.heap.size (some ⟨b3, o3, none⟩) 1 (v.map lmV)]) (fun _ => ?_) (fun hk2 => ?_)
  rotate_left
  · skip
    repeat' (first | exact J.meet hk2 () (by (repeat' (first | exact trivial | refine ⟨rfl, ?_⟩))) (List.Sublist.refl _) (List.Perm.refl _) | (apply G.ix (i := j + nV - 2); rfl; rfl; omega; omega; rfl) | (apply G.ix (i := nV - 2); rfl; rfl; omega; omega; rfl) | (apply G.ld; rfl; (apply LdV.one; (first | exact CellV.blk (by exact mm) g2 | exact lm_slE (by exact mm) (by omega) hvu1)); rfl) | (apply G.shlK (n := 32); rfl; rfl; rfl; exact shl32 (by omega); rfl; rfl; rfl) | (apply G.orK; rfl; rfl; exact or32 f2 (by omega); rfl; rfl; rfl) | (apply G.mulK; rfl; rfl; exact hm2; rfl; rfl; rfl) | (apply G.pu; rfl; rfl; first | exact trivial | omega) | (apply J.ct; rfl) | (apply G.nil; rfl) | (apply G.cm; rfl; rfl; all_goals intro h; all_goals try (exfalso; omega)) | (apply G.fa; rfl; rfl) | (apply G.ld; rfl; (first | (apply LdV.one; (first | exact CellV.row0 (by assumption) rfl | exact CellV.rowS (by assumption) rfl | exact CellV.rowSS (by assumption) rfl | (apply CellV.blk; exact mm; rfl))) | (apply LdV.aggBlk; exact mm; rfl) | (apply LdV.part; exact mm; rfl; rfl) | (apply LdV.aggRow; assumption; rfl) | (apply LdV.partRow; assumption; rfl; rfl)); rfl) | (apply G.sk; rfl) | (apply G.ls; rfl; rfl) | (apply G.ix; rfl; rfl; rfl; omega; rfl) | (apply G.ix; rfl; rfl; (first | exact sub_one _ | exact add_one' _); omega; rfl) | (apply G.lt; rfl; rfl) | (apply G.bu; rfl; rfl; rfl) | (apply G.fd; rfl; rfl; rfl) | (apply G.cv; rfl; rfl; rfl; omega) | (apply G.beq; rfl; rfl; rfl) | (apply G.bne; rfl; rfl; rfl) | (apply G.mm; rfl; rfl) | (apply G.mf; rfl; rfl) | (apply G.mx; rfl; rfl; rfl) | (apply G.mn; rfl; rfl; rfl) | (apply G.bx; rfl; rfl; rfl; intro Bk) | (apply G.al; rfl; intro Bk) | (apply G.so; rfl; rfl; (repeat (first | exact RAt.head | apply RAt.tail)); rfl; rfl) | (apply G.ss; rfl; rfl; (repeat (first | exact RAt.head | apply RAt.tail)); rfl; rfl) | (apply J.regQ; exact Tryz.mixed; decide +kernel) | (apply J.regL; exact Tryz.mixed; decide +kernel) | apply J.reg)
  by_cases hg00 : g = 0
  · subst hg00
    all_goals (refine go ?_; and_intros <;> (try exact trivial) <;> repeat (first | refine fun (Bk : Nat) => ?_ | intro h))
    exact J.fin (ih (j, (j : Int) - 1, rho, Q) (hnext rfl) (by dsimp only; omega))
  have hjq : j < ql := by
    rcases Nat.lt_or_ge j ql with h | h
    · exact h
    · exfalso
      obtain ⟨z1, z2⟩ := htop0 (by omega)
      rw [show L - 1 = j + nV by omega, hr0] at z1
      rw [show L - 2 = j + nV - 1 by omega, hr1] at z2
      have : T = 0 := by omega
      have h3 : 1 * vt ≤ g * vt := Nat.mul_le_mul_right _ (by omega)
      omega
  have hPl : ((rho.drop j).take (nV + 1)).length = nV + 1 := by rw [List.length_take, List.length_drop]; omega
  have hPv := kn.part
  have hPd : ∀ d ∈ (rho.drop j).take (nV + 1), d < B32 := fun d hd => hdi.a4 d (List.mem_of_mem_drop (List.mem_of_mem_take hd))
  have hPs : ∀ {M : List Row} {w' : World}, Sat w M w' → Row.blk rg 144 (flat lmV rho) (rc * 1) ∈ M → SlAt w' (some ⟨rg, j, none⟩) 1 (((rho.drop j).take (nV + 1)).map lmV) := fun hw hm => SlAt.part lmV_len hw hm (by omega)
  have hRlt := kn.lt
  generalize hP : (rho.drop j).take (nV + 1) = P at *
  obtain ⟨R, hR⟩ : ∃ R, R = vL B32 (rho.drop j) := ⟨_, rfl⟩
  rw [← hR] at hPv hRlt hq
  have hPt : trimL P = dgs B32 R := by rw [trimL_eq (by decide) P hPd, hPv]
  have hcl : ∀ w' : World, SlAt w' (some ⟨rg, j, none⟩) 1 (P.map lmV) → Calls Tryz.prog 129 #[.slice (some ⟨rg, j, none⟩) (nV + 1) (rc - j)] w' (RetO Tryz.prog w' 144 1 (nV + 1) (flat lmV P) id) := by
    intro w' h
    have := clone_holds ⟨rg, j, none⟩ P (rc - j) w' (by omega) h
    rwa [hPl] at this
  have hgl : ∀ g', g' ≤ g → (dgs B32 (V * g')).length ≤ nV + 1 := fun g' h => dgs_bound (by decide) _ _ (by rw [Nat.pow_succ]; exact Nat.mul_lt_mul'' hVB (by show g' < 4294967296; omega))
  have hRl : (dgs B32 R).length ≤ nV + 1 := dgs_bound (by decide) _ _ (by rw [Nat.pow_succ, Nat.mul_comm (B32 ^ nV)]; exact Nat.lt_of_lt_of_le hRlt (Nat.mul_le_mul_left _ (Nat.le_of_lt hVB)))
  all_goals (refine go ?_; and_intros <;> (try exact trivial) <;> repeat (first | refine fun (Bk : Nat) => ?_ | intro h))
  repeat' ((first | (apply G.slp (l := j) (h := j + nV + 1) (off := j) (len := nV + 1); rfl; rfl; rfl; rfl; omega; omega; omega; omega; omega; omega; rfl) | (apply G.sliceL; rfl; rfl; rfl; rfl; rfl; rfl; rfl; rfl; intro Bs) | (apply G.cN (g := 122) (fun a' c' => .slice a' (dgs B32 (V * g)).length c') ((dgs B32 (V * g)).map lmV); rfl; rfl; exact fun w' hw => tmV w' (some ⟨b3, o3, none⟩) c3 _ g (hw.sl (by exact mm)) (SlAt.ofBlk (l := [g]) lmV_len hw (by exact mm)) (by omega) (by show g < 4294967296; omega); intro a5 c5 hp5 hq5)) <;> (refine go ?_; and_intros <;> (try exact trivial) <;> repeat (first | refine fun (Bk : Nat) => ?_ | intro h)))
  refine J.loop (c := _) ((g, a5, c5) : Nat × Option Addr × Nat) (fun s => s.1) (fun s => [(8, .int .i64 k), (9, .slice (some ⟨b3, o3, none⟩) nV c3), (10, .slice (some ⟨rg, 0, none⟩) L rc), (11, .int .i64 nV), (12, .slice (some ⟨Qk, 0, none⟩) ql ql), (13, .int .i64 j), (15, .int .u64 s.1), (17, .slice (some ⟨rg, j, none⟩) (nV + 1) (rc - j)), (18, .slice s.2.1 (dgs B32 (V * s.1)).length s.2.2)]) (fun s => [slRow w.heap.size s.2.1 1 ((dgs B32 (V * s.1)).map lmV), .blk Qk 144 (flat lmV Q) (ql * 1), .blk rg 144 (flat lmV rho) (rc * 1), slRow w.heap.size (some ⟨b3, o3, none⟩) 1 (v.map lmV)]) (fun s => q ≤ s.1 ∧ s.1 ≤ g) ?_ sbT sbL ?_
  · exact ⟨k1, Nat.le_refl _⟩
  intro ⟨gg, a6, c6⟩ ⟨p1, p2⟩ ih3
  dsimp only at p1 p2 ⊢
  have hggl := hgl gg p2
  clear hgl
  have hVp := kn.vpos
  rcases Nat.lt_or_ge R (V * gg) with hlt | hge2
  · have hqg : q < gg := by rw [← hq]; exact (Nat.div_lt_iff_lt_mul hVp).2 (by rw [Nat.mul_comm]; exact hlt)
    have hs3 := subK_n (a := gg) (b := 1) (by omega) (by omega)
    have hcv : cmpI R ((V * gg : Nat) : Int) = -1 := cmpI_lt (by omega)
    have hcmp := fun (w' : World) (a7 : Option Addr) (c7 : Nat) (h1 : SlAt w' a7 1 ((dgs B32 R).map lmV)) (h2 : SlAt w' a6 1 ((dgs B32 (V * gg)).map lmV)) => compare_holds a7 R c7 a6 (V * gg) c6 w' (by omega) (by omega) h1 h2
    rw [hcv] at hcmp
    repeat' (first | (apply G.cOo (g := 129); rfl; rfl; exact fun w' hw => hcl w' (hPs hw (by exact mm)); omega; intro cb cc3 hcc3) | (apply G.cV (g := 127); rfl; rfl; exact fun w' hw => trimD_holds (l := P) hw (by exact mm) hPl hPt (by omega) (by omega)) | (apply G.cV (g := 124); rfl; rfl; exact fun w' hw => hcmp w' _ _ (sl_blk hw (by exact mm) hPt) (hw.sl (by exact mm))) | (apply G.subK; rfl; rfl; exact hs3; rfl; rfl; rfl) | (apply G.cN (g := 125) (fun a' c' => .slice a' (dgs B32 (V * (gg - 1))).length c') ((dgs B32 (V * (gg - 1))).map lmV); rfl; rfl; exact fun w' hw => mnV w' a6 c6 (some ⟨b3, o3, none⟩) c3 gg (hw.sl (by exact mm)) (hw.sl (by exact mm)) (by omega) (by omega); intro a8 c8 hp8 hq8) | (apply G.pu; rfl; rfl; first | exact trivial | omega) | (apply J.ct; rfl) | (apply G.nil; rfl) | (apply G.cm; rfl; rfl; all_goals intro h; all_goals try (exfalso; omega)) | (apply G.fa; rfl; rfl) | (apply G.ld; rfl; (first | (apply LdV.one; (first | exact CellV.row0 (by assumption) rfl | exact CellV.rowS (by assumption) rfl | exact CellV.rowSS (by assumption) rfl | (apply CellV.blk; exact mm; rfl))) | (apply LdV.aggBlk; exact mm; rfl) | (apply LdV.part; exact mm; rfl; rfl) | (apply LdV.aggRow; assumption; rfl) | (apply LdV.partRow; assumption; rfl; rfl)); rfl) | (apply G.sk; rfl) | (apply G.ls; rfl; rfl) | (apply G.ix; rfl; rfl; rfl; omega; rfl) | (apply G.ix; rfl; rfl; (first | exact sub_one _ | exact add_one' _); omega; rfl) | (apply G.lt; rfl; rfl) | (apply G.bu; rfl; rfl; rfl) | (apply G.fd; rfl; rfl; rfl) | (apply G.cv; rfl; rfl; rfl; omega) | (apply G.beq; rfl; rfl; rfl) | (apply G.bne; rfl; rfl; rfl) | (apply G.mm; rfl; rfl) | (apply G.mf; rfl; rfl) | (apply G.mx; rfl; rfl; rfl) | (apply G.mn; rfl; rfl; rfl) | (apply G.bx; rfl; rfl; rfl; intro Bk) | (apply G.al; rfl; intro Bk) | (apply G.so; rfl; rfl; (repeat (first | exact RAt.head | apply RAt.tail)); rfl; rfl) | (apply G.ss; rfl; rfl; (repeat (first | exact RAt.head | apply RAt.tail)); rfl; rfl) | (apply J.regQ; exact Tryz.mixed; decide +kernel) | (apply J.regL; exact Tryz.mixed; decide +kernel) | apply J.reg)
    exact J.fin (ih3 (gg - 1, a8, c8) ⟨by dsimp only; omega, by dsimp only; omega⟩ (by dsimp only; omega))
  clear ih3
  have hgq : gg = q := by
    have : gg ≤ R / V := (Nat.le_div_iff_mul_le hVp).2 (by rw [Nat.mul_comm]; exact hge2)
    omega
  have hcv : 0 ≤ cmpI R ((V * gg : Nat) : Int) := by
    rcases Nat.lt_or_ge (V * gg) R with h | h
    · rw [cmpI_gt (by omega)]; decide
    · rw [show R = V * gg by omega, cmpI_eq]; decide
  have hcmp := fun (w' : World) (a7 : Option Addr) (c7 : Nat) (h1 : SlAt w' a7 1 ((dgs B32 R).map lmV)) (h2 : SlAt w' a6 1 ((dgs B32 (V * gg)).map lmV)) => compare_holds a7 R c7 a6 (V * gg) c6 w' (by omega) (by omega) h1 h2
  generalize cmpI R ((V * gg : Nat) : Int) = cc2 at *
  have hmin2 : ∀ (w' : World) (a7 : Option Addr) (c7 : Nat), SlAt w' a7 1 ((dgs B32 R).map lmV) → SlAt w' a6 1 ((dgs B32 (V * gg)).map lmV) → Calls Tryz.prog 125 #[.slice a7 (dgs B32 R).length c7, .slice a6 (dgs B32 (V * gg)).length c6] w' (fun e w2 => ∃ a' c', e = .returned (.slice a' (dgs B32 (R - V * gg)).length c') ∧ SlAt w2 a' 1 ((dgs B32 (R - V * gg)).map lmV) ∧ (∀ p, a' = some p → w'.heap.size ≤ p.block) ∧ Below w'.heap.size w' w2) := fun w' a7 c7 h1 h2 => minus_holds a7 R c7 a6 (V * gg) c6 w' (by omega) (by omega) h1 h2 hge2
  have hdl : (dgs B32 (R - V * gg)).length ≤ nV + 1 := Nat.le_trans (dgs_len_mono (by decide) (Nat.sub_le _ _)) hRl
  have hdd := dgs_lt (b := B32) (by decide) (R - V * gg)
  have hdv := vL_dgs (b := B32) (by decide) (R - V * gg)
  generalize hdL : dgs B32 (R - V * gg) = dl at *
  have l9 : (flat lmV rho).length = rho.length := by rw [flat_len lmV_len, Nat.mul_one]
  have l10 : (setL (flat lmV rho) j (List.replicate (nV + 1) (.int .u32 0))).length = rho.length := by rw [setL_length, l9]
  have l11 : (flat lmV Q).length = Q.length := by rw [flat_len lmV_len, Nat.mul_one]
  have hput := put_lm (rho := rho) (i := j) (n := nV) (d := dl) hdl (by omega)
  have q2 := lm_set (p := Q) (j := j) (d := gg) (by omega)
  have hnx := di_next (d := dl) (g := gg) hdi kn (by rw [← hR, hq]; exact hgq) hjq hdd hdl (by rw [hdv, ← hR, Nat.mul_comm])
  all_goals (refine go ?_; and_intros <;> (try exact trivial) <;> repeat (first | refine fun (Bk : Nat) => ?_ | intro h))
  repeat' ((first | (apply G.cOo (g := 129); rfl; rfl; exact fun w' hw => hcl w' (hPs hw (by exact mm)); omega; intro cb cc3 hcc3) | (apply G.cV (g := 127); rfl; rfl; exact fun w' hw => trimD_holds (l := P) hw (by exact mm) hPl hPt (by omega) (by omega)) | (apply G.cV (g := 124); rfl; rfl; exact fun w' hw => hcmp w' _ _ (sl_blk hw (by exact mm) hPt) (hw.sl (by exact mm))) | (apply G.cN (g := 125) (fun a' c' => .slice a' dl.length c') (dl.map lmV); rfl; rfl; exact fun w' hw => hmin2 w' _ _ (sl_blk hw (by exact mm) hPt) (hw.sl (by exact mm)); intro a8 c8 hp8 hq8) | (apply G.clr; rfl; rfl; (repeat (first | exact RAt.head | apply RAt.tail)); exact ⟨rfl, rfl⟩; exact fun w => Tryz.zeroValue144 w; omega) | (apply G.cpy; rfl; rfl; rfl; (repeat (first | exact RAt.head | apply RAt.tail)); exact SrcV.sl lmV_len lmV_one hp8 (by exact mm); omega; omega; rw [hput]) | (apply G.s1; rfl; rfl; rfl; (repeat (first | exact RAt.head | apply RAt.tail)); exact ⟨rfl, rfl⟩; omega; exact q2)) <;> (refine go ?_; and_intros <;> (try exact trivial) <;> repeat (first | refine fun (Bk : Nat) => ?_ | intro h)))
  exact J.fin (ih (j, (j : Int) - 1, putL rho j nV dl, Q.set j gg) hnx (by dsimp only; omega))
end Go.Proofs.YteaccaieaigeaaaGreatDoor
/-
  Contracts of the natural numbers: bytes to digits and back (load, Reverse, text, Clean).
-/
namespace Go.Proofs.YteaccaieaigeaaaGreatDoor
open Go.RowKit Go.Sl Go.Num
theorem ret_str {a b : List UInt8} (h : a = b) : Ending.returned (.string (bs a)) = .returned (.string (bs b)) := by rw [h]
theorem trimByte_holds (l : List UInt8) (w : World) (hl : l.length ≤ 9223372036854775807) :
    Calls Tryz.prog 161 #[.string (bs l), .int .u8 0] w fun e w' => e = .returned (.string (bs (nB (vB l)))) ∧ Below w.heap.size w w' := by
  rw [← clean_eq]
  refine enterA [(0, .string (bs l)), (1, .int .u8 0)] Tryz.func161 Tryz.ntmps161 ?_
  all_goals (refine go ?_; and_intros <;> (try exact trivial) <;> repeat (first | refine fun (Bk : Nat) => ?_ | intro h))
  refine J.loop (c := _) l (fun s => s.length) (fun s => [(0, .string (bs s)), (1, .int .u8 0)]) (fun s => []) (fun s => s.length ≤ l.length ∧ s.dropWhile (· == 0) = l.dropWhile (· == 0)) ?_ sbT sbL ?_
  · exact ⟨Nat.le_refl _, rfl⟩
  intro s ⟨hs, hd⟩ ih
  cases s with
  | nil =>
    have h0 : ([] : List UInt8).length = 0 := rfl
    rw [← hd]
    all_goals (refine go ?_; and_intros <;> (try exact trivial) <;> repeat (first | refine fun (Bk : Nat) => ?_ | intro h))
    all_goals refine ret1b Tryz.func161 Tryz.results161 ?_
    all_goals rfl
  | cons x r =>
    have h0 : (x :: r).length = r.length + 1 := rfl
    have hx0 : (x :: r)[0] = x := rfl
    by_cases hx : x = 0
    · subst hx
      have hz : (((0 : UInt8)).toNat : Int) = 0 := rfl
      all_goals (refine go ?_; and_intros <;> (try exact trivial) <;> repeat (first | refine fun (Bk : Nat) => ?_ | intro h))
      repeat' ((first | (apply G.sx (i := 0); rfl; rfl; rfl; rfl; rfl) | (apply G.subStrFrom (i := 1); rfl; rfl; rfl; omega; rfl; rfl; rfl)) <;> (refine go ?_; and_intros <;> (try exact trivial) <;> repeat (first | refine fun (Bk : Nat) => ?_ | intro h)))
      exact J.fin (ih r ⟨by omega, by rw [← hd]; simp⟩ (by omega))
    · have hz : ((x.toNat : Nat) : Int) ≠ 0 := by
        intro e
        exact hx (UInt8.toNat_inj.1 (by simpa using e))
      have hdx : (x :: r).dropWhile (· == 0) = x :: r := by simp [hx]
      rw [hdx] at hd
      rw [← hd]
      all_goals (refine go ?_; and_intros <;> (try exact trivial) <;> repeat (first | refine fun (Bk : Nat) => ?_ | intro h))
      repeat' ((first | (apply G.sx (i := 0); rfl; rfl; rfl; rfl; rfl)) <;> (refine go ?_; and_intros <;> (try exact trivial) <;> repeat (first | refine fun (Bk : Nat) => ?_ | intro h)))
      all_goals refine ret1b Tryz.func161 Tryz.results161 ?_
      all_goals rfl
theorem trimLeft_holds (l : List UInt8) (w : World) (hl : l.length ≤ 9223372036854775807) :
    Calls Tryz.prog 152 #[.string (bs l), .string (bs [0])] w fun e w' => e = .returned (.string (bs (nB (vB l)))) ∧ Below w.heap.size w w' := by
  refine enterA [(0, .string (bs l)), (1, .string (bs [0]))] Tryz.func152 Tryz.ntmps152 ?_
  have h1 : ([0] : List UInt8).length = 1 := rfl
  have h2 : ((0 : UInt8).toNat : Int) = 0 := rfl
  cases l with
  | nil =>
    all_goals (refine go ?_; and_intros <;> (try exact trivial) <;> repeat (first | refine fun (Bk : Nat) => ?_ | intro h))
    repeat' ((first | (apply G.eqlStr; rfl; rfl; rfl; rfl; rfl; all_goals intro h; all_goals try (exact absurd rfl h))) <;> (refine go ?_; and_intros <;> (try exact trivial) <;> repeat (first | refine fun (Bk : Nat) => ?_ | intro h)))
    all_goals refine ret1b Tryz.func152 Tryz.results152 ?_
    all_goals exact ret_str (by simp [vB, nB_zero])
  | cons x r =>
    have h0 : (x :: r).length = r.length + 1 := rfl
    all_goals (refine go ?_; and_intros <;> (try exact trivial) <;> repeat (first | refine fun (Bk : Nat) => ?_ | intro h))
    repeat' ((first | (apply G.eqlStr; rfl; rfl; rfl; rfl; rfl; all_goals intro h; all_goals try (cases h; done)) | (apply G.sx (i := 0); rfl; rfl; rfl; rfl; rfl) | (apply G.cV (g := 161); rfl; rfl; exact fun w _ => trimByte_holds (x :: r) w hl)) <;> (refine go ?_; and_intros <;> (try exact trivial) <;> repeat (first | refine fun (Bk : Nat) => ?_ | intro h)))
    all_goals refine ret1b Tryz.func152 Tryz.results152 ?_
    all_goals rfl
theorem clean_holds (l : List UInt8) (w : World) (hl : l.length ≤ 9223372036854775807) :
    Calls Tryz.prog 131 #[.string (bs l)] w fun e w' => e = .returned (.string (bs (nB (vB l)))) ∧ Below w.heap.size w w' := by
  refine enterA [(0, .string (bs l))] Tryz.func131 Tryz.ntmps131 ?_
  all_goals (refine go ?_; and_intros <;> (try exact trivial) <;> repeat (first | refine fun (Bk : Nat) => ?_ | intro h))
  repeat' ((first | (apply G.cV (g := 152) (vs := [.string (bs l), .string (bs [0])]); rfl; rfl; exact fun w _ => trimLeft_holds l w hl)) <;> (refine go ?_; and_intros <;> (try exact trivial) <;> repeat (first | refine fun (Bk : Nat) => ?_ | intro h)))
  all_goals refine ret1b Tryz.func131 Tryz.results131 ?_
  all_goals rfl
theorem or8 {a b : Nat} (hb : b < 256) (ha : a < 16777216) : IntKind.u32.wrap ((BitVec.ofInt 32 ((a * 256 : Nat) : Int) ||| BitVec.ofInt 32 (b : Int)).toNat : Int) = ((a * 256 + b : Nat) : Int) := by
  have h1 : (BitVec.ofInt 32 ((a * 256 : Nat) : Int) ||| BitVec.ofInt 32 (b : Int)).toNat = a * 256 + b := by
    rw [BitVec.toNat_or, BitVec.ofInt_natCast, BitVec.ofInt_natCast, BitVec.toNat_ofNat, BitVec.toNat_ofNat, Nat.mod_eq_of_lt (by omega), Nat.mod_eq_of_lt (by omega)]
    have := Nat.two_pow_add_eq_or_of_lt (i := 8) (b := b) (by simpa using hb) a
    rw [Nat.mul_comm a]
    simpa using this.symm
  rw [h1, wrap_u32]
  omega
theorem vB_take_succ {p : List UInt8} {i : Nat} (h : i < p.length) : vB (p.take (i + 1)) = vB (p.take i) * 256 + (p[i]).toNat := by
  rw [List.take_add_one, List.getElem?_eq_getElem h, vB_append]
  simp [vB]
theorem load_holds (l : List UInt8) (w : World) (hl : l.length ≤ 1073741824) : Calls Tryz.prog 98 #[.string (bs l)] w (RetL (vB l) w) := by
  refine enterA [(0, .string (bs l))] Tryz.func98 Tryz.ntmps98 ?_
  all_goals (refine go ?_; and_intros <;> (try exact trivial) <;> repeat (first | refine fun (Bk : Nat) => ?_ | intro h))
  apply J.nilOwn (E := 144) (size := 1)
  refine J.loop (c := _) ((0, (l.length : Int), .slice none 0 0, []) : Nat × Int × Value × List Nat) (fun s => l.length + 4 - 4 * s.1) (fun s => [(0, .string (bs l)), (3, s.2.2.1), (4, .int .i64 s.2.1)]) (fun s => [.own 0 s.2.2.1 144 1 s.1 (flat lmV s.2.2.2)]) (fun s => s.2.2.2.length = s.1 ∧ (∀ d ∈ s.2.2.2, d < B32) ∧ s.2.1 = (l.length : Int) - 4 * s.1 ∧ vL B32 s.2.2.2 + B32 ^ s.1 * vB (l.take (l.length - 4 * s.1)) = vB l ∧ 4 * s.1 ≤ l.length + 3) ?_ sbT sbL ?_
  · exact ⟨rfl, by simp, by simp, by simp [vL], by simp⟩
  intro ⟨k, z, u, o⟩ ⟨h1, h2, h3, h4, h5⟩ ih
  dsimp only at h1 h2 h3 h4 h5 ⊢
  by_cases hk : 4 * k < l.length
  · obtain ⟨s1, s2⟩ := load_step b32_eq l h1 hk h4
    have hmax : max (0 : Int) (z - 4) = ((l.length - 4 * k - 4 : Nat) : Int) := by omega
    repeat' (first | (apply G.mxE; rfl; rfl; exact hmax; rfl) | (apply G.subStr (i := l.length - 4 * k - 4) (j := l.length - 4 * k); rfl; rfl; rfl; rfl; omega; omega; omega; rfl; rfl; rfl) | (apply G.toBytes (E := 5); rfl; rfl; rfl; rfl; intro Bb cb) | (apply G.pu; rfl; rfl; first | exact trivial | omega) | (apply J.ct; rfl) | (apply G.nil; rfl) | (apply G.cm; rfl; rfl; all_goals intro h; all_goals try (exfalso; omega)) | (apply G.fa; rfl; rfl) | (apply G.ld; rfl; (first | (apply LdV.one; (first | exact CellV.row0 (by assumption) rfl | exact CellV.rowS (by assumption) rfl | exact CellV.rowSS (by assumption) rfl | (apply CellV.blk; exact mm; rfl))) | (apply LdV.aggBlk; exact mm; rfl) | (apply LdV.part; exact mm; rfl; rfl) | (apply LdV.aggRow; assumption; rfl) | (apply LdV.partRow; assumption; rfl; rfl)); rfl) | (apply G.sk; rfl) | (apply G.ls; rfl; rfl) | (apply G.ix; rfl; rfl; rfl; omega; rfl) | (apply G.ix; rfl; rfl; (first | exact sub_one _ | exact add_one' _); omega; rfl) | (apply G.lt; rfl; rfl) | (apply G.bu; rfl; rfl; rfl) | (apply G.fd; rfl; rfl; rfl) | (apply G.cv; rfl; rfl; rfl; omega) | (apply G.beq; rfl; rfl; rfl) | (apply G.bne; rfl; rfl; rfl) | (apply G.mm; rfl; rfl) | (apply G.mf; rfl; rfl) | (apply G.mx; rfl; rfl; rfl) | (apply G.mn; rfl; rfl; rfl) | (apply G.bx; rfl; rfl; rfl; intro Bk) | (apply G.al; rfl; intro Bk) | (apply G.so; rfl; rfl; (repeat (first | exact RAt.head | apply RAt.tail)); rfl; rfl) | (apply G.ss; rfl; rfl; (repeat (first | exact RAt.head | apply RAt.tail)); rfl; rfl) | (apply J.regQ; exact Tryz.mixed; decide +kernel) | (apply J.regL; exact Tryz.mixed; decide +kernel) | apply J.reg)
    have hpl : ((l.drop (l.length - 4 * k - 4)).take (l.length - 4 * k - (l.length - 4 * k - 4))).length ≤ 4 := by rw [List.length_take]; omega
    generalize (l.drop (l.length - 4 * k - 4)).take (l.length - 4 * k - (l.length - 4 * k - 4)) = p at *
    refine J.loop (c := _) (0 : Nat) (fun s => p.length - s) (fun s => [(0, .string (bs l)), (3, u), (4, .int .i64 z), (5, .int .u32 (vB (p.take s) : Nat)), (20, .slice (some ⟨Bb, 0, none⟩) p.length cb), (21, .int .i64 p.length), (22, .int .i64 s)]) (fun s => [slRow w.heap.size (some ⟨Bb, 0, none⟩) 1 (p.map u8V), .own 0 u 144 1 k (flat lmV o)]) (fun s => s ≤ p.length) ?_ sbT sbL ?_
    · exact Nat.zero_le _
    intro i hi ih2
    by_cases hip : i < p.length
    · have hts := vB_take_succ hip
      have hlt : vB (p.take i) < 16777216 := by
        have := vB_lt (p.take i)
        rw [List.length_take, Nat.min_eq_left (by omega)] at this
        have h6 : 256 ^ i ≤ 256 ^ 3 := Nat.pow_le_pow_right (by decide) (by omega)
        omega
      have hb8 : (p[i]).toNat < 256 := (p[i]).toNat_lt
      have hcell : (u8V p[i])[0]? = some (.int .u8 ((p[i]).toNat : Int)) := rfl
      generalize hdg : vB (p.take i) = dg at *
      generalize hbt : (p[i]).toNat = bt at *
      have hsh : IntKind.u32.wrap ((dg : Int) * 2 ^ (min 8 IntKind.u32.bits)) = ((dg * 256 : Nat) : Int) := by
        have e0 : (2 : Int) ^ (min 8 IntKind.u32.bits) = 256 := rfl
        rw [e0, wrap_u32]; omega
      have hor := or8 hb8 hlt
      rw [← hts] at hor
      repeat' (first | (apply G.ld; rfl; (apply LdV.one; exact CellV.sl0 (by exact mm) hip hcell); rfl) | (apply G.shlK (n := 8); rfl; rfl; rfl; exact hsh; rfl; rfl; rfl) | (apply G.orK; rfl; rfl; exact hor; rfl; rfl; rfl) | (apply G.pu; rfl; rfl; first | exact trivial | omega) | (apply J.ct; rfl) | (apply G.nil; rfl) | (apply G.cm; rfl; rfl; all_goals intro h; all_goals try (exfalso; omega)) | (apply G.fa; rfl; rfl) | (apply G.ld; rfl; (first | (apply LdV.one; (first | exact CellV.row0 (by assumption) rfl | exact CellV.rowS (by assumption) rfl | exact CellV.rowSS (by assumption) rfl | (apply CellV.blk; exact mm; rfl))) | (apply LdV.aggBlk; exact mm; rfl) | (apply LdV.part; exact mm; rfl; rfl) | (apply LdV.aggRow; assumption; rfl) | (apply LdV.partRow; assumption; rfl; rfl)); rfl) | (apply G.sk; rfl) | (apply G.ls; rfl; rfl) | (apply G.ix; rfl; rfl; rfl; omega; rfl) | (apply G.ix; rfl; rfl; (first | exact sub_one _ | exact add_one' _); omega; rfl) | (apply G.lt; rfl; rfl) | (apply G.bu; rfl; rfl; rfl) | (apply G.fd; rfl; rfl; rfl) | (apply G.cv; rfl; rfl; rfl; omega) | (apply G.beq; rfl; rfl; rfl) | (apply G.bne; rfl; rfl; rfl) | (apply G.mm; rfl; rfl) | (apply G.mf; rfl; rfl) | (apply G.mx; rfl; rfl; rfl) | (apply G.mn; rfl; rfl; rfl) | (apply G.bx; rfl; rfl; rfl; intro Bk) | (apply G.al; rfl; intro Bk) | (apply G.so; rfl; rfl; (repeat (first | exact RAt.head | apply RAt.tail)); rfl; rfl) | (apply G.ss; rfl; rfl; (repeat (first | exact RAt.head | apply RAt.tail)); rfl; rfl) | (apply J.regQ; exact Tryz.mixed; decide +kernel) | (apply J.regL; exact Tryz.mixed; decide +kernel) | apply J.reg)
      exact J.fin (ih2 (i + 1) (by omega) (by omega))
    · have hpe : vB (p.take i) = vB p := by rw [List.take_of_length_le (by omega)]
      rw [hpe]
      all_goals (refine go ?_; and_intros <;> (try exact trivial) <;> repeat (first | refine fun (Bk : Nat) => ?_ | intro h))
      repeat' ((first | (apply G.sliceL; rfl; rfl; rfl; rfl; rfl; rfl; rfl; rfl; intro Bs) | (apply G.ap; rfl; rfl; rfl; (repeat (first | exact RAt.head | apply RAt.tail)); exact SrcV.blk (by exact mm) rfl rfl; exact flat1 lmV o (vB p); omega; omega; intro v2)) <;> (refine go ?_; and_intros <;> (try exact trivial) <;> repeat (first | refine fun (Bk : Nat) => ?_ | intro h)))
      exact J.fin (ih (k + 1, z - 4, v2, o ++ [vB p]) ⟨by simp [h1], lt_snoc h2 s2, by dsimp only; omega, s1, by dsimp only; omega⟩ (by dsimp only; omega))
  · have he := load_end (B := B32) l (by omega) h4
    subst h1
    apply J.ownForm (i := 0) rfl
    intro a2 c2 hu
    subst hu
    all_goals (refine go ?_; and_intros <;> (try exact trivial) <;> repeat (first | refine fun (Bk : Nat) => ?_ | intro h))
    repeat' ((first | (apply G.cV (g := 127); rfl; rfl; exact fun w hw => trimO_holds hw (by exact mm) (by omega))) <;> (refine go ?_; and_intros <;> (try exact trivial) <;> repeat (first | refine fun (Bk : Nat) => ?_ | intro h)))
    (refine ret1 Tryz.func98 Tryz.results98 ?_; intro w' hw)
    exact retL_own hw (by exact mm) h2 he
def bV (d : Nat) : List Value := [.int .u8 (d : Int)]
theorem bV_len (d : Nat) : (bV d).length = 1 := rfl
theorem bv_get {p : List Nat} {j : Nat} (h : j < p.length) : (flat bV p)[0 + j * 1]? = some (.int .u8 ((p.getD j 0 : Nat) : Int)) := by
  refine flat_get1 bV_len h ?_
  rw [List.getD_eq_getElem?_getD, List.getElem?_eq_getElem h]; rfl
theorem bv_set {p : List Nat} {j d : Nat} (h : j < p.length) : setL (flat bV p) (0 + j * 1) [.int .u8 (d : Int)] = flat bV (p.set j d) := flat_set1 bV_len h rfl
theorem rev_end {l c : List Nat} (hc : c.length = l.length) (h : ∀ t, t < l.length → c.getD t 0 = l.getD (l.length - 1 - t) 0) : c = l.reverse := by
  apply List.ext_getElem (by simp [hc])
  intro t h1 h2
  have := h t (by omega)
  rw [List.getElem_reverse]
  simpa [List.getD_eq_getElem?_getD, List.getElem?_eq_getElem, h1, show l.length - 1 - t < l.length by omega] using this
theorem rev_holds (w0 : World) (M1 : List Row) (g E tot c : Nat) (l : List Nat) (w : World) (hl : l.length ≤ 4294967296) (hw : Sat w0 (.blk g E (flat bV l) tot :: M1) w) :
    Calls Tryz.prog 130 #[.slice (some ⟨g, 0, none⟩) l.length c] w fun e w' => ∃ _ : Unit, e = .returned (.tuple #[]) ∧ Sat w0 (.blk g E (flat bV l.reverse) tot :: M1) w' := by
  refine enterM [(0, .slice (some ⟨g, 0, none⟩) l.length c)] hw Tryz.func130 rfl Tryz.ntmps130 (by simp) (by (repeat' (first | exact trivial | refine ⟨rfl, ?_⟩))) ?_
  all_goals (refine go ?_; and_intros <;> (try exact trivial) <;> repeat (first | refine fun (Bk : Nat) => ?_ | intro h))
  refine J.loop (c := _) ((0, (l.length : Int) - 1, l) : Nat × Int × List Nat) (fun s => l.length - s.1) (fun s => [(0, .slice (some ⟨g, 0, none⟩) l.length c), (2, .int .i64 s.1), (3, .int .i64 s.2.1)]) (fun s => .blk g E (flat bV s.2.2) tot :: M1) (fun s => s.2.2.length = l.length ∧ s.2.1 = (l.length : Int) - 1 - s.1 ∧ s.1 ≤ l.length ∧ ∀ t, t < l.length → s.2.2.getD t 0 = if t < s.1 ∨ l.length ≤ t + s.1 then l.getD (l.length - 1 - t) 0 else l.getD t 0) ?_ sbT sbL ?_
  · exact ⟨rfl, by simp, Nat.zero_le _, fun t ht => by rw [if_neg]; dsimp only; omega⟩
  intro ⟨i, z, cu⟩ ⟨h1, h2, h3, h4⟩ ih
  dsimp only at h1 h2 h3 h4 ⊢
  by_cases hij : (i : Int) < z
  · obtain ⟨j, rfl⟩ : ∃ j : Nat, z = (j : Int) := ⟨z.toNat, by omega⟩
    have gi := bv_get (p := cu) (j := i) (by omega)
    have gj := bv_get (p := cu) (j := j) (by omega)
    have ci := h4 i (by omega)
    have cj := h4 j (by omega)
    rw [if_neg (by omega)] at ci cj
    generalize hx : cu.getD i 0 = x at *
    generalize hy : cu.getD j 0 = y at *
    have si := bv_set (p := cu) (j := i) (d := y) (by omega)
    have sj := bv_set (p := cu.set i y) (j := j) (d := x) (by rw [List.length_set]; omega)
    have li : (flat bV cu).length = l.length := by rw [flat_len bV_len, Nat.mul_one, h1]
    have lj : (flat bV (cu.set i y)).length = l.length := by rw [flat_len bV_len, Nat.mul_one, List.length_set, h1]
    all_goals (refine goR ?_; and_intros <;> (try exact trivial) <;> repeat (first | refine fun (Bk : Nat) => ?_ | intro h))
    repeat' ((first | (apply J.regA (.q 0 <| .q 1 <| .q 2 <| .q 3 <| .q 4 <| .q 5 <| .q 6 <| .q 7 <| .q 8 <| .q 9 <| .q 10 <| .q 11 <| .q 12 <| .r 13 <| .q 14 <| .r 15 <| .nil); exact Tryz.mixed; decide +kernel) | (apply G.ld; rfl; (apply LdV.one; (first | exact CellV.blk (by exact mm) gi | exact CellV.blk (by exact mm) gj)); rfl) | (apply G.s1; rfl; rfl; rfl; (repeat (first | exact RAt.head | apply RAt.tail)); exact ⟨rfl, rfl⟩; omega; exact si) | (apply G.s1; rfl; rfl; rfl; (repeat (first | exact RAt.head | apply RAt.tail)); exact ⟨rfl, rfl⟩; omega; exact sj) | (apply J.regQ; exact Tryz.mixed; decide +kernel) | (apply J.regL'; exact Tryz.mixed; decide +kernel)) <;> (refine goR ?_; and_intros <;> (try exact trivial) <;> repeat (first | refine fun (Bk : Nat) => ?_ | intro h)))
    refine J.fin (ih (i + 1, (j : Int) - 1, (cu.set i y).set j x) ⟨by simp [h1], by dsimp only; omega, by dsimp only; omega, fun t ht => ?_⟩ (by dsimp only; omega))
    have h5 := h4 t ht
    dsimp only
    simp only [List.getD_eq_getElem?_getD] at h5 ⊢
    by_cases hjt : j = t
    · subst hjt
      rw [List.getElem?_set_self (by rw [List.length_set]; omega), if_pos (by omega), Option.getD_some, ci, List.getD_eq_getElem?_getD]
      congr 2; omega
    · rw [List.getElem?_set_ne hjt]
      by_cases hit : i = t
      · subst hit
        rw [List.getElem?_set_self (by omega), if_pos (by omega), Option.getD_some, cj, List.getD_eq_getElem?_getD]
        congr 2; omega
      · rw [List.getElem?_set_ne hit, h5]
        by_cases hc : t < i ∨ l.length ≤ t + i
        · rw [if_pos hc, if_pos (by omega)]
        · rw [if_neg hc, if_neg (by omega)]
  · have hce : cu = l.reverse := rev_end h1 fun t ht => by
      have := h4 t ht
      by_cases hc : t < i ∨ l.length ≤ t + i
      · rw [if_pos hc] at this; exact this
      · rw [if_neg hc] at this
        rw [this]; congr 1; omega
    all_goals (refine go ?_; and_intros <;> (try exact trivial) <;> repeat (first | refine fun (Bk : Nat) => ?_ | intro h))
    apply leaveEnd Tryz.func130 (RunsTo.zero Tryz.results130)
    intro w' hw'
    exact ⟨(), rfl, by rw [← hce]; exact hw'⟩
theorem rev_nil (w : World) : Calls Tryz.prog 130 #[.slice none 0 0] w fun e w' => e = .returned (.tuple #[]) ∧ Below w.heap.size w w' := by
  refine enterA [(0, .slice none 0 0)] Tryz.func130 Tryz.ntmps130 ?_
  all_goals (refine go ?_; and_intros <;> (try exact trivial) <;> repeat (first | refine fun (Bk : Nat) => ?_ | intro h))
  refine J.loop (c := _) () (fun s => 0) (fun s => [(2, .int .i64 0), (3, .int .i64 (-1))]) (fun s => []) (fun s => True) ?_ sbT sbL ?_
  · trivial
  intro _ _ ih
  all_goals (refine go ?_; and_intros <;> (try exact trivial) <;> repeat (first | refine fun (Bk : Nat) => ?_ | intro h))
  exact leaveEnd Tryz.func130 (RunsTo.zero Tryz.results130) fun w' hw => ⟨rfl, hw.below⟩
theorem shr_n {a n k : Nat} {K : IntKind} (hk : min n K.bits = n) (h : 2 ^ n = k) : (a : Int).fdiv (2 ^ (min n K.bits)) = ((a / k : Nat) : Int) := by
  subst h
  have e : (2 : Int) ^ n = ((2 ^ n : Nat) : Int) := by simp
  rw [hk, e, Int.fdiv_eq_ediv_of_nonneg _ (Int.natCast_nonneg _), Int.natCast_ediv]
theorem u8_of (s : Nat) : IntKind.u8.wrap (s : Int) = ((s % 256 : Nat) : Int) := by rw [wrap_u8]; omega
theorem bv_u8 : ∀ l : List Nat, (∀ d ∈ l, d < 256) → (l.map UInt8.ofNat).map u8V = l.map bV ∧ (l.map UInt8.ofNat).map UInt8.toNat = l
  | [], _ => ⟨rfl, rfl⟩
  | d :: r, h => by
    obtain ⟨h1, h2⟩ := bv_u8 r fun x hx => h x (.tail _ hx)
    have h3 : (UInt8.ofNat d).toNat = d := by
      have := h d (.head _)
      simp [UInt8.toNat_ofNat', Nat.mod_eq_of_lt this]
    simp only [List.map_cons, h1, h2, h3, u8V, bV, and_self]
theorem by4_len : ∀ x : List Nat, (x.flatMap by4).length = 4 * x.length
  | [] => rfl
  | d :: r => by
    have e : (by4 d).length = 4 := rfl
    rw [List.flatMap_cons, List.length_append, by4_len r, e, List.length_cons]; omega
theorem text_holds (a : Option Addr) (n c : Nat) (w : World) (hl : (dgs B32 n).length ≤ 1073741824) (hA : SlAt w a 1 ((dgs B32 n).map lmV)) :
    Calls Tryz.prog 99 #[.slice a (dgs B32 n).length c] w fun e w' => e = .returned (.string (bs (nB n))) ∧ Below w.heap.size w w' := by
  have hx := dgs_lt (b := B32) (by decide) n
  have hv := vL_dgs (b := B32) (by decide) n
  generalize dgs B32 n = x at *
  refine enterA [(0, .slice a x.length c)] Tryz.func99 Tryz.ntmps99 ?_
  all_goals (refine go ?_; and_intros <;> (try exact trivial) <;> repeat (first | refine fun (Bk : Nat) => ?_ | intro h))
  rcases Nat.eq_zero_or_pos x.length with h0 | h0
  · have hx0 : x = [] := List.length_eq_zero_iff.1 h0
    subst hx0
    have hn0 : n = 0 := hv.symm
    subst hn0
    refine J.loop (c := _) () (fun s => 0) (fun s => [(3, .slice none 0 0), (7, .int .i64 0), (8, .int .i64 0)]) (fun s => []) (fun s => True) ?_ sbT sbL ?_
    · trivial
    intro _ _ ih
    all_goals (refine go ?_; and_intros <;> (try exact trivial) <;> repeat (first | refine fun (Bk : Nat) => ?_ | intro h))
    repeat' ((first | (apply G.cV (g := 130); rfl; rfl; exact fun w' _ => rev_nil w') | (apply G.ofBytes (E := 5) (l := []); rfl; rfl; exact fun w' hw => SlAt.nil; rfl; rfl; rfl) | (apply G.cV (g := 131) (vs := [.string (bs [])]); rfl; rfl; exact fun w' _ => clean_holds [] w' (by decide))) <;> (refine go ?_; and_intros <;> (try exact trivial) <;> repeat (first | refine fun (Bk : Nat) => ?_ | intro h)))
    all_goals refine ret1b Tryz.func99 Tryz.results99 ?_
    all_goals exact ret_str (congrArg nB (rfl : vB [] = 0))
  apply J.nilOwn (E := 5) (size := 1)
  refine J.loop (c := _) ((0, .slice none 0 0) : Nat × Value) (fun s => x.length - s.1) (fun s => [(3, s.2), (6, .slice a x.length c), (7, .int .i64 x.length), (8, .int .i64 s.1)]) (fun s => [.own 0 s.2 5 1 (4 * s.1) (flat bV ((x.take s.1).flatMap by4))]) (fun s => s.1 ≤ x.length) ?_ sbT sbL ?_
  · exact Nat.zero_le _
  intro ⟨k, u⟩ hk ih
  dsimp only at hk ⊢
  by_cases hlt : k < x.length
  · obtain ⟨ba, oa, rfl, hrow⟩ := lm_at hA hlt
    have ht := getD_lt (b := 4294967296) (by decide) hx k
    have hts : (x.take (k + 1)).flatMap by4 = (x.take k).flatMap by4 ++ by4 (x.getD k 0) := by
      rw [List.take_add_one, List.getElem?_eq_getElem hlt, List.flatMap_append, List.getD_eq_getElem?_getD, List.getElem?_eq_getElem hlt]
      simp
    generalize x.getD k 0 = t at *
    have hcs : flat bV ((x.take k).flatMap by4) ++ [.int .u8 ((t % 256 : Nat) : Int), .int .u8 ((t / 256 % 256 : Nat) : Int), .int .u8 ((t / 65536 % 256 : Nat) : Int), .int .u8 ((t / 16777216 % 256 : Nat) : Int)] = flat bV ((x.take (k + 1)).flatMap by4) := by
      rw [hts, flat_append]; rfl
    repeat' (first | (apply G.shrK (n := 8) (k1 := .u32); rfl; rfl; rfl; exact shr_n rfl rfl; rfl; rfl; rfl) | (apply G.shrK (n := 16) (k1 := .u32); rfl; rfl; rfl; exact shr_n rfl rfl; rfl; rfl; rfl) | (apply G.shrK (n := 24) (k1 := .u32); rfl; rfl; rfl; exact shr_n rfl rfl; rfl; rfl; rfl) | (apply G.convK; rfl; exact u8_of _; rfl; rfl; rfl) | (apply G.sliceL; rfl; rfl; rfl; rfl; rfl; rfl; rfl; rfl; intro Bs) | (apply G.ap; rfl; rfl; rfl; (repeat (first | exact RAt.head | apply RAt.tail)); exact SrcV.blk (by exact mm) rfl rfl; exact hcs; omega; omega; intro v2) | (apply G.pu; rfl; rfl; first | exact trivial | omega) | (apply J.ct; rfl) | (apply G.nil; rfl) | (apply G.cm; rfl; rfl; all_goals intro h; all_goals try (exfalso; omega)) | (apply G.fa; rfl; rfl) | (apply G.ld; rfl; (first | (apply LdV.one; (first | exact CellV.row0 (by assumption) rfl | exact CellV.rowS (by assumption) rfl | exact CellV.rowSS (by assumption) rfl | (apply CellV.blk; exact mm; rfl))) | (apply LdV.aggBlk; exact mm; rfl) | (apply LdV.part; exact mm; rfl; rfl) | (apply LdV.aggRow; assumption; rfl) | (apply LdV.partRow; assumption; rfl; rfl)); rfl) | (apply G.sk; rfl) | (apply G.ls; rfl; rfl) | (apply G.ix; rfl; rfl; rfl; omega; rfl) | (apply G.ix; rfl; rfl; (first | exact sub_one _ | exact add_one' _); omega; rfl) | (apply G.lt; rfl; rfl) | (apply G.bu; rfl; rfl; rfl) | (apply G.fd; rfl; rfl; rfl) | (apply G.cv; rfl; rfl; rfl; omega) | (apply G.beq; rfl; rfl; rfl) | (apply G.bne; rfl; rfl; rfl) | (apply G.mm; rfl; rfl) | (apply G.mf; rfl; rfl) | (apply G.mx; rfl; rfl; rfl) | (apply G.mn; rfl; rfl; rfl) | (apply G.bx; rfl; rfl; rfl; intro Bk) | (apply G.al; rfl; intro Bk) | (apply G.so; rfl; rfl; (repeat (first | exact RAt.head | apply RAt.tail)); rfl; rfl) | (apply G.ss; rfl; rfl; (repeat (first | exact RAt.head | apply RAt.tail)); rfl; rfl) | (apply J.regQ; exact Tryz.mixed; decide +kernel) | (apply J.regL; exact Tryz.mixed; decide +kernel) | apply J.reg)
    exact J.fin (ih (k + 1, v2) (by dsimp only; omega) (by dsimp only; omega))
  · have hke : k = x.length := by omega
    subst hke
    rw [List.take_length]
    have hlen4 := by4_len x
    have hlt4 : ∀ d ∈ (x.flatMap by4).reverse, d < 256 := fun d hd => by
      obtain ⟨y, _, hy⟩ := List.mem_flatMap.1 (List.mem_reverse.1 hd)
      exact by4_lt hy
    obtain ⟨e1, e2⟩ := bv_u8 _ hlt4
    have htx := text_eq hx e2
    rw [hv, clean_eq] at htx
    have hl8 : ((x.flatMap by4).reverse.map UInt8.ofNat).length = 4 * x.length := by rw [List.length_map, List.length_reverse, hlen4]
    generalize (x.flatMap by4).reverse.map UInt8.ofNat = l8 at *
    apply J.open (i := 0) rfl (by omega)
    intro g cap hcap hu
    subst hu
    have hrv := fun (w' : World) (M1 : List Row) (tot : Nat) (hw : Sat w (.blk g 5 (flat bV (x.flatMap by4)) tot :: M1) w') => rev_holds w M1 g 5 tot cap (x.flatMap by4) w' (by omega) hw
    rw [hlen4] at hrv
    simp only [List.set_cons_zero]
    all_goals (refine go ?_; and_intros <;> (try exact trivial) <;> repeat (first | refine fun (Bk : Nat) => ?_ | intro h))
    repeat' ((first | (apply G.cM (g := 130) (X := Unit) (fun _ => .tuple #[]) (fun _ => [.blk g 5 (flat bV (x.flatMap by4).reverse) (cap * 1)]); rfl; rfl; exact fun w' hw => hrv w' [] _ hw; intro _) | (apply G.ofBytes (E := 5) (l := l8); rfl; exact hl8; exact fun w' hw => (e1 ▸ SlAt.ofBlk bV_len hw (.head _)); rfl; rfl; rfl) | (apply G.cV (g := 131) (vs := [.string (bs l8)]); rfl; rfl; exact fun w' _ => clean_holds l8 w' (by omega))) <;> (refine go ?_; and_intros <;> (try exact trivial) <;> repeat (first | refine fun (Bk : Nat) => ?_ | intro h)))
    all_goals refine ret1b Tryz.func99 Tryz.results99 ?_
    all_goals exact ret_str htx
end Go.Proofs.YteaccaieaigeaaaGreatDoor
/-
  Contracts of the natural numbers as bytes: Valid, Int, Cmp, Add, Sub, Mul, DivMod, Gcd.
-/
namespace Go.Proofs.YteaccaieaigeaaaGreatDoor
open Go.RowKit Go.Sl Go.Num
theorem vB_dgs {l : List UInt8} (h : l.length ≤ 536870912) : (dgs B32 (vB l)).length ≤ 134217728 := by
  refine Nat.le_trans (dgs_bound (by decide) ((l.length + 3) / 4) _ ?_) (by omega)
  refine Nat.lt_of_lt_of_le (vB_lt l) ?_
  rw [← b32_eq, ← Nat.pow_mul]
  exact Nat.pow_le_pow_right (by decide) (by omega)
theorem dgs_add {m n k : Nat} (h1 : (dgs B32 m).length ≤ k) (h2 : (dgs B32 n).length ≤ k) : (dgs B32 (m + n)).length ≤ k + 1 := by
  refine dgs_bound (by decide) _ _ ?_
  have a1 := vL_lt (b := B32) (by decide) _ (dgs_lt (b := B32) (by decide) m)
  have a2 := vL_lt (b := B32) (by decide) _ (dgs_lt (b := B32) (by decide) n)
  rw [vL_dgs (by decide)] at a1 a2
  have b1 : B32 ^ (dgs B32 m).length ≤ B32 ^ k := Nat.pow_le_pow_right (by decide) h1
  have b2 : B32 ^ (dgs B32 n).length ≤ B32 ^ k := Nat.pow_le_pow_right (by decide) h2
  rw [Nat.pow_succ]
  have : B32 ^ k * 2 ≤ B32 ^ k * B32 := Nat.mul_le_mul_left _ (by decide)
  omega
theorem dgs_mul {m n k l : Nat} (h1 : (dgs B32 m).length ≤ k) (h2 : (dgs B32 n).length ≤ l) : (dgs B32 (m * n)).length ≤ k + l := by
  refine dgs_bound (by decide) _ _ ?_
  have a1 := vL_lt (b := B32) (by decide) _ (dgs_lt (b := B32) (by decide) m)
  have a2 := vL_lt (b := B32) (by decide) _ (dgs_lt (b := B32) (by decide) n)
  rw [vL_dgs (by decide)] at a1 a2
  rw [Nat.pow_add]
  exact Nat.mul_lt_mul'' (Nat.lt_of_lt_of_le a1 (Nat.pow_le_pow_right (by decide) h1)) (Nat.lt_of_lt_of_le a2 (Nat.pow_le_pow_right (by decide) h2))
theorem natAdd_holds (a b : List UInt8) (w : World) (ha : a.length ≤ 536870912) (hb : b.length ≤ 536870912) :
    Calls Tryz.prog 93 #[.string (bs a), .string (bs b)] w fun e w' => e = .returned (.string (bs (nB (vB a + vB b)))) ∧ Below w.heap.size w w' := by
  have hla := vB_dgs ha
  have hlb := vB_dgs hb
  have hlc := dgs_add hla hlb
  refine enterA [(0, .string (bs a)), (1, .string (bs b))] Tryz.func93 Tryz.ntmps93 ?_
  all_goals (refine go ?_; and_intros <;> (try exact trivial) <;> repeat (first | refine fun (Bk : Nat) => ?_ | intro h))
  repeat' ((first | (apply G.cN (g := 98) (vs := [.string (bs a)]) (fun a' c' => .slice a' (dgs B32 (vB a)).length c') ((dgs B32 (vB a)).map lmV); rfl; rfl; exact fun w' _ => load_holds a w' (by omega); intro a1 c1 hp1 hq1) | (apply G.cN (g := 98) (vs := [.string (bs b)]) (fun a' c' => .slice a' (dgs B32 (vB b)).length c') ((dgs B32 (vB b)).map lmV); rfl; rfl; exact fun w' _ => load_holds b w' (by omega); intro a2 c2 hp2 hq2) | (apply G.cN (g := 123) (fun a' c' => .slice a' (dgs B32 (vB a + vB b)).length c') ((dgs B32 (vB a + vB b)).map lmV); rfl; rfl; exact fun w' hw => plus_holds _ _ _ _ _ _ w' (by omega) (by omega) (hw.sl (by exact mm)) (hw.sl (by exact mm)); intro a3 c3 hp3 hq3) | (apply G.cV (g := 99); rfl; rfl; exact fun w' hw => text_holds _ _ _ w' (by omega) (hw.sl (by exact mm)))) <;> (refine go ?_; and_intros <;> (try exact trivial) <;> repeat (first | refine fun (Bk : Nat) => ?_ | intro h)))
  all_goals refine ret1b Tryz.func93 Tryz.results93 ?_
  all_goals rfl
theorem natMul_holds (a b : List UInt8) (w : World) (ha : a.length ≤ 536870912) (hb : b.length ≤ 536870912) :
    Calls Tryz.prog 92 #[.string (bs a), .string (bs b)] w fun e w' => e = .returned (.string (bs (nB (vB a * vB b)))) ∧ Below w.heap.size w w' := by
  have hla := vB_dgs ha
  have hlb := vB_dgs hb
  have hlc := dgs_mul hla hlb
  refine enterA [(0, .string (bs a)), (1, .string (bs b))] Tryz.func92 Tryz.ntmps92 ?_
  all_goals (refine go ?_; and_intros <;> (try exact trivial) <;> repeat (first | refine fun (Bk : Nat) => ?_ | intro h))
  repeat' ((first | (apply G.cN (g := 98) (vs := [.string (bs a)]) (fun a' c' => .slice a' (dgs B32 (vB a)).length c') ((dgs B32 (vB a)).map lmV); rfl; rfl; exact fun w' _ => load_holds a w' (by omega); intro a1 c1 hp1 hq1) | (apply G.cN (g := 98) (vs := [.string (bs b)]) (fun a' c' => .slice a' (dgs B32 (vB b)).length c') ((dgs B32 (vB b)).map lmV); rfl; rfl; exact fun w' _ => load_holds b w' (by omega); intro a2 c2 hp2 hq2) | (apply G.cN (g := 122) (fun a' c' => .slice a' (dgs B32 (vB a * vB b)).length c') ((dgs B32 (vB a * vB b)).map lmV); rfl; rfl; exact fun w' hw => times_holds _ _ _ _ _ _ w' (by omega) (by omega) (hw.sl (by exact mm)) (hw.sl (by exact mm)); intro a3 c3 hp3 hq3) | (apply G.cV (g := 99); rfl; rfl; exact fun w' hw => text_holds _ _ _ w' (by omega) (hw.sl (by exact mm)))) <;> (refine go ?_; and_intros <;> (try exact trivial) <;> repeat (first | refine fun (Bk : Nat) => ?_ | intro h)))
  all_goals refine ret1b Tryz.func92 Tryz.results92 ?_
  all_goals rfl
theorem natCmp_holds (a b : List UInt8) (w : World) (ha : a.length ≤ 536870912) (hb : b.length ≤ 536870912) :
    Calls Tryz.prog 94 #[.string (bs a), .string (bs b)] w fun e w' => e = .returned (.int .i64 (cmpI (vB a) (vB b))) ∧ Below w.heap.size w w' := by
  have hla := vB_dgs ha
  have hlb := vB_dgs hb
  refine enterA [(0, .string (bs a)), (1, .string (bs b))] Tryz.func94 Tryz.ntmps94 ?_
  all_goals (refine go ?_; and_intros <;> (try exact trivial) <;> repeat (first | refine fun (Bk : Nat) => ?_ | intro h))
  repeat' ((first | (apply G.cN (g := 98) (vs := [.string (bs a)]) (fun a' c' => .slice a' (dgs B32 (vB a)).length c') ((dgs B32 (vB a)).map lmV); rfl; rfl; exact fun w' _ => load_holds a w' (by omega); intro a1 c1 hp1 hq1) | (apply G.cN (g := 98) (vs := [.string (bs b)]) (fun a' c' => .slice a' (dgs B32 (vB b)).length c') ((dgs B32 (vB b)).map lmV); rfl; rfl; exact fun w' _ => load_holds b w' (by omega); intro a2 c2 hp2 hq2) | (apply G.cV (g := 124); rfl; rfl; exact fun w' hw => compare_holds _ _ _ _ _ _ w' (by omega) (by omega) (hw.sl (by exact mm)) (hw.sl (by exact mm)))) <;> (refine go ?_; and_intros <;> (try exact trivial) <;> repeat (first | refine fun (Bk : Nat) => ?_ | intro h)))
  all_goals refine ret1b Tryz.func94 Tryz.results94 ?_
  all_goals rfl
theorem natSub_holds (a b : List UInt8) (w : World) (ha : a.length ≤ 536870912) (hb : b.length ≤ 536870912) (hle : vB b ≤ vB a) :
    Calls Tryz.prog 95 #[.string (bs a), .string (bs b)] w fun e w' => e = .returned (.tuple #[.string (bs (nB (vB a - vB b))), .int .i64 0]) ∧ Below w.heap.size w w' := by
  have hla := vB_dgs ha
  have hlb := vB_dgs hb
  have hlc := dgs_len_mono (b := B32) (by decide) (Nat.sub_le (vB a) (vB b))
  have hcm := fun (w' : World) (x : Option Addr) (c : Nat) (y : Option Addr) (d : Nat) (h1 : SlAt w' x 1 ((dgs B32 (vB a)).map lmV)) (h2 : SlAt w' y 1 ((dgs B32 (vB b)).map lmV)) => compare_holds x (vB a) c y (vB b) d w' (by omega) (by omega) h1 h2
  have hc0 : 0 ≤ cmpI (vB a) (vB b) := by
    rcases Nat.lt_or_ge (vB b) (vB a) with h | h
    · rw [cmpI_gt (by omega)]; decide
    · rw [show vB a = vB b by omega, cmpI_eq]; decide
  generalize cmpI (vB a) (vB b) = cc at *
  refine enterA [(0, .string (bs a)), (1, .string (bs b))] Tryz.func95 Tryz.ntmps95 ?_
  all_goals (refine go ?_; and_intros <;> (try exact trivial) <;> repeat (first | refine fun (Bk : Nat) => ?_ | intro h))
  repeat' ((first | (apply G.cN (g := 98) (vs := [.string (bs a)]) (fun a' c' => .slice a' (dgs B32 (vB a)).length c') ((dgs B32 (vB a)).map lmV); rfl; rfl; exact fun w' _ => load_holds a w' (by omega); intro a1 c1 hp1 hq1) | (apply G.cN (g := 98) (vs := [.string (bs b)]) (fun a' c' => .slice a' (dgs B32 (vB b)).length c') ((dgs B32 (vB b)).map lmV); rfl; rfl; exact fun w' _ => load_holds b w' (by omega); intro a2 c2 hp2 hq2) | (apply G.cV (g := 124); rfl; rfl; exact fun w' hw => hcm w' _ _ _ _ (hw.sl (by exact mm)) (hw.sl (by exact mm))) | (apply G.cN (g := 125) (fun a' c' => .slice a' (dgs B32 (vB a - vB b)).length c') ((dgs B32 (vB a - vB b)).map lmV); rfl; rfl; exact fun w' hw => minus_holds _ _ _ _ _ _ w' (by omega) (by omega) (hw.sl (by exact mm)) (hw.sl (by exact mm)) hle; intro a3 c3 hp3 hq3) | (apply G.cV (g := 99); rfl; rfl; exact fun w' hw => text_holds _ _ _ w' (by omega) (hw.sl (by exact mm)))) <;> (refine go ?_; and_intros <;> (try exact trivial) <;> repeat (first | refine fun (Bk : Nat) => ?_ | intro h)))
  all_goals refine ret2b Tryz.func95 Tryz.results95 ?_
  all_goals rfl
/-- The division of numbers of any length. -/
theorem by_any (a : Option Addr) (m c : Nat) (b : Option Addr) (n d : Nat) (w : World) (hl : (dgs B32 m).length ≤ 268435456) (hA : SlAt w a 1 ((dgs B32 m).map lmV)) (hB : SlAt w b 1 ((dgs B32 n).map lmV)) (hge : n ≤ m) (hn : n ≠ 0) :
    Calls Tryz.prog 97 #[.slice a (dgs B32 m).length c, .slice b (dgs B32 n).length d] w (RetLL (m / n) (m % n) w) := by
  have h0 : (dgs B32 n).length ≠ 0 := by rw [dgs_pos (by decide) hn]; simp
  rcases Nat.lt_or_ge (dgs B32 n).length 2 with h | h
  · exact by_one a m c b n d w (by omega) hA hB hge (by omega)
  · exact by_ge a m c b n d w hl hA hB hge h
theorem natDivMod_holds (a b : List UInt8) (w : World) (ha : a.length ≤ 536870912) (hb : b.length ≤ 536870912) (hn : vB b ≠ 0) :
    Calls Tryz.prog 101 #[.string (bs a), .string (bs b)] w fun e w' => e = .returned (.tuple #[.string (bs (nB (vB a / vB b))), .string (bs (nB (vB a % vB b))), .int .i64 0]) ∧ Below w.heap.size w w' := by
  have hla := vB_dgs ha
  have hlb := vB_dgs hb
  have hlc := dgs_len_mono (b := B32) (by decide) (Nat.div_le_self (vB a) (vB b))
  have hld := dgs_len_mono (b := B32) (by decide) (Nat.mod_le (vB a) (vB b))
  have hn1 : (dgs B32 (vB b)).length ≠ 0 := by rw [dgs_pos (by decide) hn]; simp
  rcases Nat.lt_or_ge (vB a) (vB b) with hlt | hge
  · rw [Nat.mod_eq_of_lt hlt, Nat.div_eq_of_lt hlt] at *
    have hz : (dgs B32 0).length = 0 := by rw [dgs_zero]; rfl
    refine enterA [(0, .string (bs a)), (1, .string (bs b))] Tryz.func101 Tryz.ntmps101 ?_
    all_goals (refine go ?_; and_intros <;> (try exact trivial) <;> repeat (first | refine fun (Bk : Nat) => ?_ | intro h))
    repeat' ((first | (apply G.cN (g := 98) (vs := [.string (bs a)]) (fun a' c' => .slice a' (dgs B32 (vB a)).length c') ((dgs B32 (vB a)).map lmV); rfl; rfl; exact fun w' _ => load_holds a w' (by omega); intro a1 c1 hp1 hq1) | (apply G.cN (g := 98) (vs := [.string (bs b)]) (fun a' c' => .slice a' (dgs B32 (vB b)).length c') ((dgs B32 (vB b)).map lmV); rfl; rfl; exact fun w' _ => load_holds b w' (by omega); intro a2 c2 hp2 hq2) | (apply G.cV (g := 97); rfl; rfl; exact fun w' hw => by_lt _ _ _ _ _ _ w' (by omega) (by omega) (hw.sl (by exact mm)) (hw.sl (by exact mm)) hlt) | (apply G.cV (g := 99) (vs := [.slice none 0 0]) (v := .string (bs (nB 0))); rfl; rfl; exact fun w' hw => (by have h := text_holds none 0 0 w' (by omega) (by rw [dgs_zero]; exact SlAt.nil); rw [hz] at h; exact h)) | (apply G.cV (g := 99); rfl; rfl; exact fun w' hw => text_holds _ _ _ w' (by omega) (hw.sl (by exact mm)))) <;> (refine go ?_; and_intros <;> (try exact trivial) <;> repeat (first | refine fun (Bk : Nat) => ?_ | intro h)))
    all_goals refine ret3b Tryz.func101 Tryz.results101 ?_
    all_goals rfl
  · skip
    refine enterA [(0, .string (bs a)), (1, .string (bs b))] Tryz.func101 Tryz.ntmps101 ?_
    all_goals (refine go ?_; and_intros <;> (try exact trivial) <;> repeat (first | refine fun (Bk : Nat) => ?_ | intro h))
    repeat' ((first | (apply G.cN (g := 98) (vs := [.string (bs a)]) (fun a' c' => .slice a' (dgs B32 (vB a)).length c') ((dgs B32 (vB a)).map lmV); rfl; rfl; exact fun w' _ => load_holds a w' (by omega); intro a1 c1 hp1 hq1) | (apply G.cN (g := 98) (vs := [.string (bs b)]) (fun a' c' => .slice a' (dgs B32 (vB b)).length c') ((dgs B32 (vB b)).map lmV); rfl; rfl; exact fun w' _ => load_holds b w' (by omega); intro a2 c2 hp2 hq2) | (apply G.cN2 (g := 97) (fun x1 c1 x2 c2 => .tuple #[.slice x1 (dgs B32 (vB a / vB b)).length c1, .slice x2 (dgs B32 (vB a % vB b)).length c2]) ((dgs B32 (vB a / vB b)).map lmV) ((dgs B32 (vB a % vB b)).map lmV); rfl; rfl; exact fun w' hw => by_any _ _ _ _ _ _ w' (by omega) (hw.sl (by exact mm)) (hw.sl (by exact mm)) hge hn; intro a3 c3 a4 c4 hp3 hp4 hq3 hq4) | (apply G.cV (g := 99); rfl; rfl; exact fun w' hw => text_holds _ _ _ w' (by omega) (hw.sl (by exact mm)))) <;> (refine go ?_; and_intros <;> (try exact trivial) <;> repeat (first | refine fun (Bk : Nat) => ?_ | intro h)))
    all_goals refine ret3b Tryz.func101 Tryz.results101 ?_
    all_goals rfl
theorem natValid_holds (a : List UInt8) (w : World) : Calls Tryz.prog 65 #[.string (bs a)] w fun e w' => e = .returned (.bool (decide (nB (vB a) = a))) ∧ Below w.heap.size w w' := by
  refine enterA [(0, .string (bs a))] Tryz.func65 Tryz.ntmps65 ?_
  cases a with
  | nil =>
    all_goals (refine go ?_; and_intros <;> (try exact trivial) <;> repeat (first | refine fun (Bk : Nat) => ?_ | intro h))
    repeat' ((first | (apply G.eqlStr; rfl; rfl; rfl; rfl; rfl; all_goals intro h; all_goals try (exact absurd rfl h))) <;> (refine go ?_; and_intros <;> (try exact trivial) <;> repeat (first | refine fun (Bk : Nat) => ?_ | intro h)))
    all_goals refine ret1b Tryz.func65 Tryz.results65 ?_
    all_goals exact ret_bool (by simp [vB, nB_zero])
  | cons x r =>
    by_cases hx : x = 0
    · subst hx
      have hz : (((0 : UInt8)).toNat : Int) = 0 := rfl
      have hr : decide (nB (vB (0 :: r)) = 0 :: r) = false := by
        refine decide_eq_false fun e => nB_head (vB (0 :: r)) ?_
        rw [e]; rfl
      rw [hr]
      all_goals (refine go ?_; and_intros <;> (try exact trivial) <;> repeat (first | refine fun (Bk : Nat) => ?_ | intro h))
      repeat' ((first | (apply G.eqlStr; rfl; rfl; rfl; rfl; rfl; all_goals intro h; all_goals try (cases h; done)) | (apply G.sx (i := 0); rfl; rfl; rfl; rfl; rfl)) <;> (refine go ?_; and_intros <;> (try exact trivial) <;> repeat (first | refine fun (Bk : Nat) => ?_ | intro h)))
      all_goals refine ret1b Tryz.func65 Tryz.results65 ?_
      all_goals rfl
    · have hz : ((x.toNat : Nat) : Int) ≠ 0 := by
        intro e
        exact hx (UInt8.toNat_inj.1 (by simpa using e))
      rw [decide_eq_true (nB_vB_of hx)]
      all_goals (refine go ?_; and_intros <;> (try exact trivial) <;> repeat (first | refine fun (Bk : Nat) => ?_ | intro h))
      repeat' ((first | (apply G.eqlStr; rfl; rfl; rfl; rfl; rfl; all_goals intro h; all_goals try (cases h; done)) | (apply G.sx (i := 0); rfl; rfl; rfl; rfl; rfl)) <;> (refine go ?_; and_intros <;> (try exact trivial) <;> repeat (first | refine fun (Bk : Nat) => ?_ | intro h)))
      all_goals refine ret1b Tryz.func65 Tryz.results65 ?_
      all_goals rfl
end Go.Proofs.YteaccaieaigeaaaGreatDoor
/-
  Contracts of the natural numbers as bytes: Gcd, Int.
-/
namespace Go.Proofs.YteaccaieaigeaaaGreatDoor
open Go.RowKit Go.Sl Go.Num
/-- Where a slice that is handed back lies. -/
def Src (x : Option Addr) (m : Nat) (y : Option Addr) (n : Nat) (w : World) (p : Addr) : Prop := (x = some p ∧ m ≠ 0) ∨ (y = some p ∧ n ≠ 0) ∨ w.heap.size ≤ p.block
theorem dgs_pos_len {n : Nat} (h : n ≠ 0) : 0 < (dgs B32 n).length := by rw [dgs_pos (by decide) h]; simp
theorem sl_lt {w : World} {x : Option Addr} {m : Nat} {p : Addr} (h : SlAt w x 1 ((dgs B32 m).map lmV)) (hm : m ≠ 0) (hp : x = some p) : p.block < w.heap.size := h.lt (by rw [List.length_map]; exact dgs_pos_len hm) hp
abbrev gcdF (B : Nat) : Value := .func (.func 96) #[] #[.pointer (some ⟨B, 0, none⟩)]
theorem gcd1_holds : ∀ (n m : Nat) (x : Option Addr) (c : Nat) (y : Option Addr) (d B : Nat) (w : World), (dgs B32 m).length ≤ 268435456 → (dgs B32 n).length ≤ 268435456 → SlAt w x 1 ((dgs B32 m).map lmV) → SlAt w y 1 ((dgs B32 n).map lmV) → RowAt w B 0 [gcdF B] →
    Calls Tryz.prog 96 #[.slice x (dgs B32 m).length c, .slice y (dgs B32 n).length d, .pointer (some ⟨B, 0, none⟩)] w fun e w' => ∃ a' c', e = .returned (.slice a' (dgs B32 (Nat.gcd m n)).length c') ∧ SlAt w' a' 1 ((dgs B32 (Nat.gcd m n)).map lmV) ∧ (∀ p, a' = some p → Nat.gcd m n ≠ 0 → Src x m y n w p) ∧ Below w.heap.size w w' := by
  intro n
  induction n using Nat.strongRecOn with
  | _ n ih =>
  intro m x c y d B w hlm hln hX hY hB
  by_cases hn : n = 0
  · subst hn
    have hz : (dgs B32 0).length = 0 := by rw [dgs_zero]; rfl
    rw [Nat.gcd_zero_right, hz]
    refine enterA [(0, .slice x (dgs B32 m).length c), (1, .slice y 0 d), (2, .pointer (some ⟨B, 0, none⟩))] Tryz.func96 Tryz.ntmps96 ?_
    all_goals (refine go ?_; and_intros <;> (try exact trivial) <;> repeat (first | refine fun (Bk : Nat) => ?_ | intro h))
    (refine ret1 Tryz.func96 Tryz.results96 ?_; intro w' hw)
    exact ⟨x, c, rfl, hX.below hw.below, fun p hp h0 => .inl ⟨hp, h0⟩, hw.below⟩
  have hnl := dgs_pos_len hn
  rcases Nat.lt_or_ge m n with hlt | hge
  · have hrec : ∀ (w' : World), Below w.heap.size w w' → Calls Tryz.prog 96 #[.slice y (dgs B32 n).length d, .slice x (dgs B32 m).length c, .pointer (some ⟨B, 0, none⟩)] w' fun e w2 => ∃ a' c', e = .returned (.slice a' (dgs B32 (Nat.gcd m n)).length c') ∧ SlAt w2 a' 1 ((dgs B32 (Nat.gcd m n)).map lmV) ∧ (∀ p, a' = some p → 0 < ((dgs B32 (Nat.gcd m n)).map lmV).length → p.block < w.heap.size ∨ w'.heap.size ≤ p.block) ∧ (∀ p, a' = some p → Nat.gcd m n ≠ 0 → Src x m y n w p) ∧ Below w'.heap.size w' w2 := by
      intro w' hw
      have h1 := ih m hlt n y d x c B w' hln hlm (hY.below hw) (hX.below hw) (hB.below hw)
      rw [Nat.gcd_comm] at h1
      refine h1.mono fun e w2 ⟨a', c', he, hs, hp, hb⟩ => ⟨a', c', he, hs, fun p hpp hl => ?_, fun p hpp h0 => ?_, hb⟩
      · have h0 : Nat.gcd m n ≠ 0 := fun e => by rw [e, dgs_zero] at hl; exact absurd hl (by decide)
        rcases hp p hpp h0 with ⟨h, h2⟩ | ⟨h, h2⟩ | h
        · exact .inl (sl_lt hY h2 h)
        · exact .inl (sl_lt hX h2 h)
        · exact .inr h
      · rcases hp p hpp h0 with h | h | h
        · exact .inr (.inl h)
        · exact .inl h
        · exact .inr (.inr (Nat.le_trans hw.size h))
    have hby := fun (w' : World) (hw : Below w.heap.size w w') => by_lt x m c y n d w' (by omega) (by omega) (hX.below hw) (hY.below hw) hlt
    clear ih
    refine enterA [(0, .slice x (dgs B32 m).length c), (1, .slice y (dgs B32 n).length d), (2, .pointer (some ⟨B, 0, none⟩))] Tryz.func96 Tryz.ntmps96 ?_
    all_goals (refine go ?_; and_intros <;> (try exact trivial) <;> repeat (first | refine fun (Bk : Nat) => ?_ | intro h))
    repeat' ((first | (apply G.cV (g := 97); rfl; rfl; exact fun w' hw => hby w' hw.below) | (apply G.cQf (g := 96) (fun a' => ∀ p, a' = some p → Nat.gcd m n ≠ 0 → Src x m y n w p) (fun a' c' => .slice a' (dgs B32 (Nat.gcd m n)).length c') ((dgs B32 (Nat.gcd m n)).map lmV); rfl; rfl; rfl; exact fun w' hw => (hrec w' hw.below).mono fun e w2 ⟨a', c', he, hs, hf, hq, hb⟩ => ⟨a', c', he, hs, fun p hp hl => (hf p hp hl).imp id .inl, hq, hb⟩; intro a3 c3 hp3 hq3)) <;> (refine go ?_; and_intros <;> (try exact trivial) <;> repeat (first | refine fun (Bk : Nat) => ?_ | intro h)))
    (refine ret1 Tryz.func96 Tryz.results96 ?_; intro w' hw)
    exact ⟨a3, c3, rfl, hw.sl (by exact mm), hq3, hw.below⟩
  · have hge2 : Nat.gcd n (m % n) = Nat.gcd m n := by rw [Nat.gcd_comm m n, Nat.gcd_rec n m, Nat.gcd_comm]
    have hlr := dgs_len_mono (b := B32) (by decide) (Nat.mod_le m n)
    have hby := fun (w' : World) (hw : Below w.heap.size w w') => by_any x m c y n d w' hlm (hX.below hw) (hY.below hw) hge hn
    have hrec := fun (w' : World) (a4 : Option Addr) (c4 : Nat) (hw : Below w.heap.size w w') (h4 : SlAt w' a4 1 ((dgs B32 (m % n)).map lmV)) => ih (m % n) (Nat.mod_lt _ (by omega)) n y d a4 c4 B w' hln (by omega) (hY.below hw) h4 (hB.below hw)
    rw [hge2] at hrec
    clear ih
    refine enterA [(0, .slice x (dgs B32 m).length c), (1, .slice y (dgs B32 n).length d), (2, .pointer (some ⟨B, 0, none⟩))] Tryz.func96 Tryz.ntmps96 ?_
    all_goals (refine go ?_; and_intros <;> (try exact trivial) <;> repeat (first | refine fun (Bk : Nat) => ?_ | intro h))
    repeat' ((first | (apply G.cN2 (g := 97) (fun x1 c1 x2 c2 => .tuple #[.slice x1 (dgs B32 (m / n)).length c1, .slice x2 (dgs B32 (m % n)).length c2]) ((dgs B32 (m / n)).map lmV) ((dgs B32 (m % n)).map lmV); rfl; rfl; exact fun w' hw => hby w' hw.below; intro a3 c3 a4 c4 hp3 hp4 hq3 hq4)) <;> (refine go ?_; and_intros <;> (try exact trivial) <;> repeat (first | refine fun (Bk : Nat) => ?_ | intro h)))
    apply G.cQf (g := 96) (fun a' => ∀ p, a' = some p → Nat.gcd m n ≠ 0 → Src x m y n w p) (fun a' c' => .slice a' (dgs B32 (Nat.gcd m n)).length c') ((dgs B32 (Nat.gcd m n)).map lmV)
    · rfl
    · rfl
    · rfl
    · intro w' hw
      refine (hrec w' a4 c4 hw.below (hw.sl (by exact mm))).mono fun e w2 ⟨a', c', he, hs, hp, hb⟩ => ⟨a', c', he, hs, fun p hpp hl => ?_, fun p hpp h0 => ?_, hb⟩
      · have h0 : Nat.gcd m n ≠ 0 := fun e => by rw [e, dgs_zero] at hl; exact absurd hl (by decide)
        rcases hp p hpp h0 with ⟨h, h2⟩ | ⟨h, h2⟩ | h
        · exact .inl (sl_lt hY h2 h)
        · exact .inr (.inr ⟨slRow w.heap.size a4 1 ((dgs B32 (m % n)).map lmV), by exact mm, fun k h => h, by rw [List.length_map]; exact dgs_pos_len h2, p, h, rfl, hq4 p h⟩)
        · exact .inr (.inl h)
      · rcases hp p hpp h0 with h | ⟨h, h2⟩ | h
        · exact .inr (.inl h)
        · exact .inr (.inr (hq4 p h))
        · exact .inr (.inr (Nat.le_trans hw.size h))
    intro a5 c5 hp5 hq5
    all_goals (refine go ?_; and_intros <;> (try exact trivial) <;> repeat (first | refine fun (Bk : Nat) => ?_ | intro h))
    (refine ret1 Tryz.func96 Tryz.results96 ?_; intro w' hw)
    exact ⟨a5, c5, rfl, hw.sl (by exact mm), hq5, hw.below⟩
theorem natGcd_holds (a b : List UInt8) (w : World) (ha : a.length ≤ 536870912) (hb : b.length ≤ 536870912) :
    Calls Tryz.prog 66 #[.string (bs a), .string (bs b)] w fun e w' => e = .returned (.string (bs (nB (Nat.gcd (vB a) (vB b))))) ∧ Below w.heap.size w w' := by
  have hla := vB_dgs ha
  have hlb := vB_dgs hb
  have hlc : (dgs B32 (Nat.gcd (vB a) (vB b))).length ≤ 134217728 := by
    by_cases h : vB a = 0
    · rw [h, Nat.gcd_zero_left]; exact hlb
    · exact Nat.le_trans (dgs_len_mono (by decide) (Nat.gcd_le_left _ (by omega))) hla
  have hrec := fun (w' : World) (a1 : Option Addr) (c1 : Nat) (a2 : Option Addr) (c2 B : Nat) (h1 : SlAt w' a1 1 ((dgs B32 (vB a)).map lmV)) (h2 : SlAt w' a2 1 ((dgs B32 (vB b)).map lmV)) (hB : RowAt w' B 0 [gcdF B]) => gcd1_holds (vB b) (vB a) a1 c1 a2 c2 B w' (by omega) (by omega) h1 h2 hB
  refine enterA [(0, .string (bs a)), (1, .string (bs b))] Tryz.func66 Tryz.ntmps66 ?_
  all_goals (refine goR ?_; and_intros <;> (try exact trivial) <;> repeat (first | refine fun (Bk : Nat) => ?_ | intro h))
  repeat' ((first | (apply G.mf; rfl; rfl) | (apply J.regA (.q 0 <| .q 1 <| .q 3 <| .e 2 <| .e 4 <| .r 5 <| .r 6 <| .q 7 <| .nil); exact Tryz.mixed; decide +kernel) | (apply G.cN (g := 98) (vs := [.string (bs a)]) (fun a' c' => .slice a' (dgs B32 (vB a)).length c') ((dgs B32 (vB a)).map lmV); rfl; rfl; exact fun w' _ => load_holds a w' (by omega); intro a1 c1 hp1 hq1) | (apply G.cN (g := 98) (vs := [.string (bs b)]) (fun a' c' => .slice a' (dgs B32 (vB b)).length c') ((dgs B32 (vB b)).map lmV); rfl; rfl; exact fun w' _ => load_holds b w' (by omega); intro a2 c2 hp2 hq2) | (apply G.cV (g := 99); rfl; rfl; exact fun w' hw => text_holds _ _ _ w' (by omega) (hw.sl (by exact mm))) | (apply J.regQ; exact Tryz.mixed; decide +kernel) | (apply J.regL'; exact Tryz.mixed; decide +kernel)) <;> (refine goR ?_; and_intros <;> (try exact trivial) <;> repeat (first | refine fun (Bk : Nat) => ?_ | intro h)))
  apply G.cQf (g := 96) (fun _ => True) (fun a' c' => .slice a' (dgs B32 (Nat.gcd (vB a) (vB b))).length c') ((dgs B32 (Nat.gcd (vB a) (vB b))).map lmV)
  · rfl
  · rfl
  · rfl
  · intro w' hw
    refine (hrec w' a1 c1 a2 c2 Bk (hw.sl (by exact mm)) (hw.sl (by exact mm)) (hw.rowAt (by exact mm))).mono fun e w2 ⟨a', c', he, hs, hp, hbl⟩ => ⟨a', c', he, hs, fun p hpp hl => ?_, trivial, hbl⟩
    have h0 : Nat.gcd (vB a) (vB b) ≠ 0 := fun e => by rw [e, dgs_zero] at hl; exact absurd hl (by decide)
    rcases hp p hpp h0 with ⟨h, h2⟩ | ⟨h, h2⟩ | h
    · exact .inr (.inr ⟨slRow w.heap.size a1 1 ((dgs B32 (vB a)).map lmV), by exact mm, fun k h => h, by rw [List.length_map]; exact dgs_pos_len h2, p, h, rfl, hq1 p h⟩)
    · exact .inr (.inr ⟨slRow w.heap.size a2 1 ((dgs B32 (vB b)).map lmV), by exact mm, fun k h => h, by rw [List.length_map]; exact dgs_pos_len h2, p, h, rfl, hq2 p h⟩)
    · exact .inr (.inl h)
  intro a3 c3 hp3 _
  all_goals (refine go ?_; and_intros <;> (try exact trivial) <;> repeat (first | refine fun (Bk : Nat) => ?_ | intro h))
  repeat' ((first | (apply G.cE (g := 99); rfl; rfl; exact fun w' hw => text_holds _ _ _ w' (by omega) (hw.sl (by exact mm)))) <;> (refine go ?_; and_intros <;> (try exact trivial) <;> repeat (first | refine fun (Bk : Nat) => ?_ | intro h)))
  all_goals refine ret1b Tryz.func66 Tryz.results66 ?_
  all_goals rfl
theorem div_b32 {n : Nat} (h : n < 9223372036854775808) : n / B32 < B32 := by show n / 4294967296 < 4294967296; omega
theorem natInt_holds (n : Nat) (w : World) (h : n < 9223372036854775808) : Calls Tryz.prog 100 #[.int .i64 n] w fun e w' => e = .returned (.tuple #[.string (bs (nB n)), .int .i64 0]) ∧ Below w.heap.size w w' := by
  have ht : trimL [n % B32, n / B32] = dgs B32 n := by
    rw [trimL_eq (b := B32) (by decide) [n % B32, n / B32] (fun d hd => ?_)]
    · congr 1; simp only [vL]; rw [Nat.mul_zero, Nat.add_zero]; exact Nat.mod_add_div n B32
    · simp only [List.mem_cons, List.not_mem_nil, or_false] at hd
      rcases hd with rfl | rfl
      · exact Nat.mod_lt _ (by decide)
      · exact div_b32 h
  have hl : (dgs B32 n).length ≤ 2 := by rw [← ht]; exact trimL_le _
  have hs : (n : Int).fdiv (2 ^ (min 32 IntKind.i64.bits)) = ((n / B32 : Nat) : Int) := shr_n rfl rfl
  have c1 : IntKind.u32.wrap (n : Int) = ((n % B32 : Nat) : Int) := u32_of n
  have c2 : IntKind.u32.wrap ((n / B32 : Nat) : Int) = ((n / B32 : Nat) : Int) := by rw [u32_of]; congr 1; exact Nat.mod_eq_of_lt (div_b32 h)
  generalize n / B32 = nh at *
  generalize n % B32 = nl at *
  refine enterA [(0, .int .i64 n)] Tryz.func100 Tryz.ntmps100 ?_
  repeat' (first | (apply G.shrK (n := 32); rfl; rfl; rfl; exact hs; rfl; rfl; rfl) | (apply G.convK; rfl; exact c1; rfl; rfl; rfl) | (apply G.convK; rfl; exact c2; rfl; rfl; rfl) | (apply G.sliceL; rfl; rfl; rfl; rfl; rfl; rfl; rfl; rfl; intro Bs) | (apply G.cV (g := 127); rfl; rfl; exact fun w' hw => trimD_holds (l := [nl, nh]) hw (by exact mm) rfl ht (by decide) (by decide)) | (apply G.cV (g := 99); rfl; rfl; exact fun w' hw => text_holds _ n _ w' (by omega) (sl_blk (l := [nl, nh]) hw (by exact mm) ht)) | (apply G.pu; rfl; rfl; first | exact trivial | omega) | (apply J.ct; rfl) | (apply G.nil; rfl) | (apply G.cm; rfl; rfl; all_goals intro h; all_goals try (exfalso; omega)) | (apply G.fa; rfl; rfl) | (apply G.ld; rfl; (first | (apply LdV.one; (first | exact CellV.row0 (by assumption) rfl | exact CellV.rowS (by assumption) rfl | exact CellV.rowSS (by assumption) rfl | (apply CellV.blk; exact mm; rfl))) | (apply LdV.aggBlk; exact mm; rfl) | (apply LdV.part; exact mm; rfl; rfl) | (apply LdV.aggRow; assumption; rfl) | (apply LdV.partRow; assumption; rfl; rfl)); rfl) | (apply G.sk; rfl) | (apply G.ls; rfl; rfl) | (apply G.ix; rfl; rfl; rfl; omega; rfl) | (apply G.ix; rfl; rfl; (first | exact sub_one _ | exact add_one' _); omega; rfl) | (apply G.lt; rfl; rfl) | (apply G.bu; rfl; rfl; rfl) | (apply G.fd; rfl; rfl; rfl) | (apply G.cv; rfl; rfl; rfl; omega) | (apply G.beq; rfl; rfl; rfl) | (apply G.bne; rfl; rfl; rfl) | (apply G.mm; rfl; rfl) | (apply G.mf; rfl; rfl) | (apply G.mx; rfl; rfl; rfl) | (apply G.mn; rfl; rfl; rfl) | (apply G.bx; rfl; rfl; rfl; intro Bk) | (apply G.al; rfl; intro Bk) | (apply G.so; rfl; rfl; (repeat (first | exact RAt.head | apply RAt.tail)); rfl; rfl) | (apply G.ss; rfl; rfl; (repeat (first | exact RAt.head | apply RAt.tail)); rfl; rfl) | (apply J.regQ; exact Tryz.mixed; decide +kernel) | (apply J.regL; exact Tryz.mixed; decide +kernel) | apply J.reg)
  all_goals refine ret2b Tryz.func100 Tryz.results100 ?_
  all_goals rfl
end Go.Proofs.YteaccaieaigeaaaGreatDoor
/-
  Contracts of the specification of natural numbers: number, Cmp, Add, Sub, Mul.
-/
namespace Go.Proofs.YteaccaieaigeaaaGreatDoor
open Go.RowKit Go.Sl Go.Num
theorem nB_len_le {m n : Nat} (h : m ≤ n) : (nB m).length ≤ (nB n).length := by
  simp only [nB, List.length_reverse, List.length_map]
  exact dgs_len_mono (by decide) h
theorem nB_vB_len (a : List UInt8) : (nB (vB a)).length ≤ a.length := nB_bound (vB_lt a)
end Go.Proofs.YteaccaieaigeaaaGreatDoor
/-
  Contracts of the rational numbers: Valid, of, lowest, plus, less, times, over.
-/
namespace Go.Proofs.YteaccaieaigeaaaGreatDoor
open Go.RowKit Go.Sl Go.Num
theorem nB_one : nB 1 = [1] := by
  have h := nB_vB_of (x := 1) (r := []) (by decide)
  have e : vB [1] = 1 := rfl
  rwa [e] at h
theorem nB_eq_one {n : Nat} : nB n = [1] ↔ n = 1 := ⟨fun h => nB_inj (h.trans nB_one.symm), fun h => by rw [h, nB_one]⟩
theorem ratValid_holds (a : Q3) (w : World) (h1 : a.num.length ≤ 536870912) (h2 : a.den.length ≤ 536870912) :
    Calls Tryz.prog 27 #[qA a] w fun e w' => e = .returned (.bool (decide (validQ a))) ∧ Below w.heap.size w w' := by
  have hvn := fun w' => natValid_holds a.num w'
  have hvd := fun w' => natValid_holds a.den w'
  have hg := fun w' => natGcd_holds a.num a.den w' h1 h2
  refine enterA [(0, qA a)] Tryz.func27 Tryz.ntmps27 ?_
  by_cases hz : a = zero3
  · rw [decide_eq_true (show validQ a from .inl hz)]
    all_goals (refine go ?_; and_intros <;> (try exact trivial) <;> repeat (first | refine fun (Bk : Nat) => ?_ | intro h))
    repeat' ((first | (apply G.eqR a zero3; rfl; rfl; rfl; all_goals intro h; all_goals try (exact absurd hz h))) <;> (refine go ?_; and_intros <;> (try exact trivial) <;> repeat (first | refine fun (Bk : Nat) => ?_ | intro h)))
    all_goals refine ret1b Tryz.func27 Tryz.results27 ?_
    all_goals rfl
  have key : validQ a ↔ (a.num ≠ [] ∧ a.den ≠ [] ∧ nB (vB a.num) = a.num ∧ nB (vB a.den) = a.den ∧ Nat.gcd (vB a.num) (vB a.den) = 1) := ⟨fun h => h.resolve_left hz, .inr⟩
  generalize hr : decide (validQ a) = r
  obtain ⟨s, n, d⟩ := a
  dsimp only at *
  by_cases c1 : n = []
  · rw [show r = false from hr ▸ decide_eq_false (fun h => (key.1 h).1 c1)]
    all_goals (refine go ?_; and_intros <;> (try exact trivial) <;> repeat (first | refine fun (Bk : Nat) => ?_ | intro h))
    repeat' ((first | (apply G.eqR ⟨s, n, d⟩ zero3; rfl; rfl; rfl; all_goals intro h; all_goals try (exact absurd h hz)) | (apply G.neqStr; rfl; rfl; rfl; rfl; rfl; all_goals intro h; all_goals try (first | exact absurd h (by assumption) | exact absurd (by assumption) h))) <;> (refine go ?_; and_intros <;> (try exact trivial) <;> repeat (first | refine fun (Bk : Nat) => ?_ | intro h)))
    all_goals refine ret1b Tryz.func27 Tryz.results27 ?_
    all_goals rfl
  by_cases c2 : d = []
  · rw [show r = false from hr ▸ decide_eq_false (fun h => (key.1 h).2.1 c2)]
    all_goals (refine go ?_; and_intros <;> (try exact trivial) <;> repeat (first | refine fun (Bk : Nat) => ?_ | intro h))
    repeat' ((first | (apply G.eqR ⟨s, n, d⟩ zero3; rfl; rfl; rfl; all_goals intro h; all_goals try (exact absurd h hz)) | (apply G.neqStr; rfl; rfl; rfl; rfl; rfl; all_goals intro h; all_goals try (first | exact absurd h (by assumption) | exact absurd (by assumption) h))) <;> (refine go ?_; and_intros <;> (try exact trivial) <;> repeat (first | refine fun (Bk : Nat) => ?_ | intro h)))
    all_goals refine ret1b Tryz.func27 Tryz.results27 ?_
    all_goals rfl
  by_cases c3 : nB (vB n) = n
  · rw [decide_eq_true c3] at hvn
    by_cases c4 : nB (vB d) = d
    · rw [decide_eq_true c4] at hvd
      by_cases c5 : Nat.gcd (vB n) (vB d) = 1
      · have c6 : nB (Nat.gcd (vB n) (vB d)) = [1] := nB_eq_one.2 c5
        rw [show r = true from hr ▸ decide_eq_true (key.2 ⟨c1, c2, c3, c4, c5⟩)]
        all_goals (refine go ?_; and_intros <;> (try exact trivial) <;> repeat (first | refine fun (Bk : Nat) => ?_ | intro h))
        repeat' ((first | (apply G.eqR ⟨s, n, d⟩ zero3; rfl; rfl; rfl; all_goals intro h; all_goals try (exact absurd h hz)) | (apply G.neqStr; rfl; rfl; rfl; rfl; rfl; all_goals intro h; all_goals try (first | exact absurd h (by assumption) | exact absurd (by assumption) h)) | (apply G.eqlStr; rfl; rfl; rfl; rfl; rfl; all_goals intro h; all_goals try (first | exact absurd h (by assumption) | exact absurd (by assumption) h)) | (apply G.cV (g := 65) (vs := [.string (bs n)]); rfl; rfl; exact fun w' _ => hvn w') | (apply G.cV (g := 65) (vs := [.string (bs d)]); rfl; rfl; exact fun w' _ => hvd w') | (apply G.cV (g := 66); rfl; rfl; exact fun w' _ => hg w')) <;> (refine go ?_; and_intros <;> (try exact trivial) <;> repeat (first | refine fun (Bk : Nat) => ?_ | intro h)))
        all_goals refine ret1b Tryz.func27 Tryz.results27 ?_
        all_goals rfl
      · have c6 : nB (Nat.gcd (vB n) (vB d)) ≠ [1] := fun e => c5 (nB_eq_one.1 e)
        rw [show r = false from hr ▸ decide_eq_false (fun h => c5 (key.1 h).2.2.2.2)]
        all_goals (refine go ?_; and_intros <;> (try exact trivial) <;> repeat (first | refine fun (Bk : Nat) => ?_ | intro h))
        repeat' ((first | (apply G.eqR ⟨s, n, d⟩ zero3; rfl; rfl; rfl; all_goals intro h; all_goals try (exact absurd h hz)) | (apply G.neqStr; rfl; rfl; rfl; rfl; rfl; all_goals intro h; all_goals try (first | exact absurd h (by assumption) | exact absurd (by assumption) h)) | (apply G.eqlStr; rfl; rfl; rfl; rfl; rfl; all_goals intro h; all_goals try (first | exact absurd h (by assumption) | exact absurd (by assumption) h)) | (apply G.cV (g := 65) (vs := [.string (bs n)]); rfl; rfl; exact fun w' _ => hvn w') | (apply G.cV (g := 65) (vs := [.string (bs d)]); rfl; rfl; exact fun w' _ => hvd w') | (apply G.cV (g := 66); rfl; rfl; exact fun w' _ => hg w')) <;> (refine go ?_; and_intros <;> (try exact trivial) <;> repeat (first | refine fun (Bk : Nat) => ?_ | intro h)))
        all_goals refine ret1b Tryz.func27 Tryz.results27 ?_
        all_goals rfl
    · rw [decide_eq_false c4] at hvd
      rw [show r = false from hr ▸ decide_eq_false (fun h => c4 (key.1 h).2.2.2.1)]
      all_goals (refine go ?_; and_intros <;> (try exact trivial) <;> repeat (first | refine fun (Bk : Nat) => ?_ | intro h))
      repeat' ((first | (apply G.eqR ⟨s, n, d⟩ zero3; rfl; rfl; rfl; all_goals intro h; all_goals try (exact absurd h hz)) | (apply G.neqStr; rfl; rfl; rfl; rfl; rfl; all_goals intro h; all_goals try (first | exact absurd h (by assumption) | exact absurd (by assumption) h)) | (apply G.cV (g := 65) (vs := [.string (bs n)]); rfl; rfl; exact fun w' _ => hvn w') | (apply G.cV (g := 65) (vs := [.string (bs d)]); rfl; rfl; exact fun w' _ => hvd w')) <;> (refine go ?_; and_intros <;> (try exact trivial) <;> repeat (first | refine fun (Bk : Nat) => ?_ | intro h)))
      all_goals refine ret1b Tryz.func27 Tryz.results27 ?_
      all_goals rfl
  · rw [decide_eq_false c3] at hvn
    rw [show r = false from hr ▸ decide_eq_false (fun h => c3 (key.1 h).2.2.1)]
    all_goals (refine go ?_; and_intros <;> (try exact trivial) <;> repeat (first | refine fun (Bk : Nat) => ?_ | intro h))
    repeat' ((first | (apply G.eqR ⟨s, n, d⟩ zero3; rfl; rfl; rfl; all_goals intro h; all_goals try (exact absurd h hz)) | (apply G.neqStr; rfl; rfl; rfl; rfl; rfl; all_goals intro h; all_goals try (first | exact absurd h (by assumption) | exact absurd (by assumption) h)) | (apply G.cV (g := 65) (vs := [.string (bs n)]); rfl; rfl; exact fun w' _ => hvn w')) <;> (refine go ?_; and_intros <;> (try exact trivial) <;> repeat (first | refine fun (Bk : Nat) => ?_ | intro h)))
    all_goals refine ret1b Tryz.func27 Tryz.results27 ?_
    all_goals rfl
/-- A fraction as the program holds it. -/
abbrev frA (f : Bool × Nat × Nat) : Value := .agg #[.bool f.1, .string (bs (nB f.2.1)), .string (bs (nB f.2.2))]
theorem ratOf_holds (a : Q3) (w : World) (h1 : a.num.length ≤ 536870912) (h2 : a.den.length ≤ 536870912) :
    Calls Tryz.prog 61 #[qA a] w fun e w' => e = .returned (frA (frac a)) ∧ Below w.heap.size w w' := by
  have hv := fun w' => ratValid_holds a w' h1 h2
  have hf0 : ¬ (validQ a ∧ a.num ≠ []) → frA (frac a) = .agg #[.bool false, .string (bs []), .string (bs [1])] := fun h => by
    rw [frac, if_neg h]; simp only [frA, nB_zero, nB_one]
  have hf1 : validQ a ∧ a.num ≠ [] → frA (frac a) = .agg #[.bool a.neg, .string (bs a.num), .string (bs a.den)] := fun h => by
    rw [frac, if_pos h]
    rcases h.1 with e | ⟨_, _, e1, e2, _⟩
    · exact absurd (by rw [e]; rfl) h.2
    · simp only [frA, e1, e2]
  refine enterA [(0, qA a)] Tryz.func61 Tryz.ntmps61 ?_
  by_cases c1 : a.num = []
  · rw [hf0 (fun h => h.2 c1)]
    all_goals (refine go ?_; and_intros <;> (try exact trivial) <;> repeat (first | refine fun (Bk : Nat) => ?_ | intro h))
    repeat' ((first | (apply G.eqlStr; rfl; rfl; rfl; rfl; rfl; all_goals intro h; all_goals try (first | exact absurd h (by assumption) | exact absurd (by assumption) h))) <;> (refine go ?_; and_intros <;> (try exact trivial) <;> repeat (first | refine fun (Bk : Nat) => ?_ | intro h)))
    all_goals refine ret1b Tryz.func61 Tryz.results61 ?_
    all_goals rfl
  by_cases c2 : validQ a
  · rw [hf1 ⟨c2, c1⟩]
    rw [decide_eq_true c2] at hv
    all_goals (refine go ?_; and_intros <;> (try exact trivial) <;> repeat (first | refine fun (Bk : Nat) => ?_ | intro h))
    repeat' ((first | (apply G.eqlStr; rfl; rfl; rfl; rfl; rfl; all_goals intro h; all_goals try (first | exact absurd h (by assumption) | exact absurd (by assumption) h)) | (apply G.cV (g := 27); rfl; rfl; exact fun w' _ => hv w')) <;> (refine go ?_; and_intros <;> (try exact trivial) <;> repeat (first | refine fun (Bk : Nat) => ?_ | intro h)))
    all_goals refine ret1b Tryz.func61 Tryz.results61 ?_
    all_goals rfl
  · rw [hf0 (fun h => c2 h.1)]
    rw [decide_eq_false c2] at hv
    all_goals (refine go ?_; and_intros <;> (try exact trivial) <;> repeat (first | refine fun (Bk : Nat) => ?_ | intro h))
    repeat' ((first | (apply G.eqlStr; rfl; rfl; rfl; rfl; rfl; all_goals intro h; all_goals try (first | exact absurd h (by assumption) | exact absurd (by assumption) h)) | (apply G.cV (g := 27); rfl; rfl; exact fun w' _ => hv w')) <;> (refine go ?_; and_intros <;> (try exact trivial) <;> repeat (first | refine fun (Bk : Nat) => ?_ | intro h)))
    all_goals refine ret1b Tryz.func61 Tryz.results61 ?_
    all_goals rfl
/-- The lengths of a fraction's parts. -/
def fLe (f : Bool × Nat × Nat) (k : Nat) : Prop := (nB f.2.1).length ≤ k ∧ (nB f.2.2).length ≤ k
theorem lowest_holds (f : Bool × Nat × Nat) (w : World) (hl : fLe f 536870912) (hd : f.2.2 ≠ 0) :
    Calls Tryz.prog 70 #[frA f] w fun e w' => e = .returned (qA (rQ (ofF f.1 f.2.1 f.2.2))) ∧ Below w.heap.size w w' := by
  obtain ⟨s, n, d⟩ := f
  obtain ⟨h1, h2⟩ := hl
  dsimp only at h1 h2 hd ⊢
  have hg := fun w' => natGcd_holds (nB n) (nB d) w' h1 h2
  have hg0 : Nat.gcd n d ≠ 0 := fun e => hd (Nat.eq_zero_of_gcd_eq_zero_right e)
  have hgl : (nB (Nat.gcd n d)).length ≤ 536870912 := Nat.le_trans (nB_len_le (Nat.gcd_le_right _ (by omega))) h2
  have hn := fun w' => natDivMod_holds (nB n) (nB (Nat.gcd n d)) w' h1 hgl (by rw [vB_nB]; exact hg0)
  have hdd := fun w' => natDivMod_holds (nB d) (nB (Nat.gcd n d)) w' h2 hgl (by rw [vB_nB]; exact hg0)
  simp only [vB_nB] at hg hn hdd
  rw [rQ_ofF hd]
  refine enterA [(0, frA (s, n, d))] Tryz.func70 Tryz.ntmps70 ?_
  by_cases c1 : n = 0
  · subst c1
    rw [if_pos rfl]
    have c2 : nB 0 = [] := nB_zero
    all_goals (refine go ?_; and_intros <;> (try exact trivial) <;> repeat (first | refine fun (Bk : Nat) => ?_ | intro h))
    repeat' ((first | (apply G.eqlStr; rfl; rfl; rfl; rfl; rfl; all_goals intro h; all_goals try (first | exact absurd h (by assumption) | exact absurd (by assumption) h))) <;> (refine go ?_; and_intros <;> (try exact trivial) <;> repeat (first | refine fun (Bk : Nat) => ?_ | intro h)))
    all_goals refine ret1b Tryz.func70 Tryz.results70 ?_
    all_goals rfl
  · rw [if_neg c1]
    have c2 : nB n ≠ [] := fun e => c1 (nB_nil.1 e)
    all_goals (refine go ?_; and_intros <;> (try exact trivial) <;> repeat (first | refine fun (Bk : Nat) => ?_ | intro h))
    repeat' ((first | (apply G.eqlStr; rfl; rfl; rfl; rfl; rfl; all_goals intro h; all_goals try (first | exact absurd h (by assumption) | exact absurd (by assumption) h)) | (apply G.cV (g := 66); rfl; rfl; exact fun w' _ => hg w') | (apply G.cV (g := 101) (vs := [.string (bs (nB n)), .string (bs (nB (Nat.gcd n d)))]); rfl; rfl; exact fun w' _ => hn w') | (apply G.cV (g := 101) (vs := [.string (bs (nB d)), .string (bs (nB (Nat.gcd n d)))]); rfl; rfl; exact fun w' _ => hdd w')) <;> (refine go ?_; and_intros <;> (try exact trivial) <;> repeat (first | refine fun (Bk : Nat) => ?_ | intro h)))
    all_goals refine ret1b Tryz.func70 Tryz.results70 ?_
    all_goals rfl
end Go.Proofs.YteaccaieaigeaaaGreatDoor
/-
  Contracts of the rational numbers: plus, less, times, over, do, Add, Sub, Mul, Cmp, Make, Int.
-/
namespace Go.Proofs.YteaccaieaigeaaaGreatDoor
open Go.RowKit Go.Sl Go.Num
theorem nB_lt_pow {n k : Nat} (h : (nB n).length ≤ k) : n < 256 ^ k := by
  have := vB_lt (nB n)
  rw [vB_nB] at this
  exact Nat.lt_of_lt_of_le this (Nat.pow_le_pow_right (by decide) h)
theorem nB_mul {m n k l : Nat} (h1 : (nB m).length ≤ k) (h2 : (nB n).length ≤ l) : (nB (m * n)).length ≤ k + l := by
  refine nB_bound ?_
  rw [Nat.pow_add]
  exact Nat.mul_lt_mul'' (nB_lt_pow h1) (nB_lt_pow h2)
theorem nB_add {m n k : Nat} (h1 : (nB m).length ≤ k) (h2 : (nB n).length ≤ k) : (nB (m + n)).length ≤ k + 1 := by
  refine nB_bound ?_
  have a1 := nB_lt_pow h1
  have a2 := nB_lt_pow h2
  rw [Nat.pow_succ]
  omega
theorem plus_f (f g : Bool × Nat × Nat) (w : World) (hf : fLe f 134217728) (hg : fLe g 134217728) :
    Calls Tryz.prog 64 #[frA f, frA g] w fun e w' => e = .returned (frA (fplus f.1 f.2.1 f.2.2 g.1 g.2.1 g.2.2)) ∧ Below w.heap.size w w' := by
  obtain ⟨s, n, d⟩ := f
  obtain ⟨t, m, e⟩ := g
  obtain ⟨h1, h2⟩ := hf
  obtain ⟨h3, h4⟩ := hg
  dsimp only at h1 h2 h3 h4 ⊢
  have m1 := fun w' => natMul_holds (nB n) (nB e) w' (by omega) (by omega)
  have m2 := fun w' => natMul_holds (nB m) (nB d) w' (by omega) (by omega)
  have m3 := fun w' => natMul_holds (nB d) (nB e) w' (by omega) (by omega)
  have l1 := nB_mul h1 h4
  have l2 := nB_mul h3 h2
  have ad := fun w' => natAdd_holds (nB (n * e)) (nB (m * d)) w' (by omega) (by omega)
  have cm := fun w' => natCmp_holds (nB (n * e)) (nB (m * d)) w' (by omega) (by omega)
  have s1 := fun (h : n * e ≤ m * d) w' => natSub_holds (nB (m * d)) (nB (n * e)) w' (by omega) (by omega) (by rw [vB_nB, vB_nB]; exact h)
  have s2 := fun (h : m * d ≤ n * e) w' => natSub_holds (nB (n * e)) (nB (m * d)) w' (by omega) (by omega) (by rw [vB_nB, vB_nB]; exact h)
  simp only [vB_nB] at m1 m2 m3 ad cm s1 s2
  rw [fplus]
  refine enterA [(0, frA (s, n, d)), (1, frA (t, m, e))] Tryz.func64 Tryz.ntmps64 ?_
  by_cases hst : s = t
  · subst hst
    rw [if_pos rfl]
    cases s <;> skip
    all_goals clear cm s1 s2
    all_goals (refine go ?_; and_intros <;> (try exact trivial) <;> repeat (first | refine fun (Bk : Nat) => ?_ | intro h))
    repeat' ((first | (apply G.cV (g := 92) (vs := [.string (bs (nB n)), .string (bs (nB e))]); rfl; rfl; exact fun w' _ => m1 w') | (apply G.cV (g := 92) (vs := [.string (bs (nB m)), .string (bs (nB d))]); rfl; rfl; exact fun w' _ => m2 w') | (apply G.cV (g := 92) (vs := [.string (bs (nB d)), .string (bs (nB e))]); rfl; rfl; exact fun w' _ => m3 w') | (apply G.cV (g := 93); rfl; rfl; exact fun w' _ => ad w')) <;> (refine go ?_; and_intros <;> (try exact trivial) <;> repeat (first | refine fun (Bk : Nat) => ?_ | intro h)))
    all_goals refine ret1b Tryz.func64 Tryz.results64 ?_
    all_goals rfl
  rw [if_neg hst]
  have ht : t = !s := by cases s <;> cases t <;> simp_all
  subst ht
  by_cases hlt : n * e < m * d
  · rw [if_pos hlt]
    have s1 := s1 (by omega)
    rw [cmpI_lt (by omega)] at cm
    clear s2 hst
    cases s <;> skip
    all_goals (refine go ?_; and_intros <;> (try exact trivial) <;> repeat (first | refine fun (Bk : Nat) => ?_ | intro h))
    repeat' ((first | (apply G.cV (g := 92) (vs := [.string (bs (nB n)), .string (bs (nB e))]); rfl; rfl; exact fun w' _ => m1 w') | (apply G.cV (g := 92) (vs := [.string (bs (nB m)), .string (bs (nB d))]); rfl; rfl; exact fun w' _ => m2 w') | (apply G.cV (g := 92) (vs := [.string (bs (nB d)), .string (bs (nB e))]); rfl; rfl; exact fun w' _ => m3 w') | (apply G.cV (g := 94); rfl; rfl; exact fun w' _ => cm w') | (apply G.cV (g := 95); rfl; rfl; exact fun w' _ => s1 w')) <;> (refine go ?_; and_intros <;> (try exact trivial) <;> repeat (first | refine fun (Bk : Nat) => ?_ | intro h)))
    all_goals refine ret1b Tryz.func64 Tryz.results64 ?_
    all_goals rfl
  · rw [if_neg hlt]
    have s2 := s2 (by omega)
    have hc0 : 0 ≤ cmpI ((n * e : Nat) : Int) ((m * d : Nat) : Int) := by
      rcases Nat.lt_or_ge (m * d) (n * e) with h | h
      · rw [cmpI_gt (by omega)]; decide
      · rw [show n * e = m * d by omega, cmpI_eq]; decide
    generalize cmpI ((n * e : Nat) : Int) ((m * d : Nat) : Int) = cc at *
    clear s1 hst
    cases s <;> skip
    all_goals (refine go ?_; and_intros <;> (try exact trivial) <;> repeat (first | refine fun (Bk : Nat) => ?_ | intro h))
    repeat' ((first | (apply G.cV (g := 92) (vs := [.string (bs (nB n)), .string (bs (nB e))]); rfl; rfl; exact fun w' _ => m1 w') | (apply G.cV (g := 92) (vs := [.string (bs (nB m)), .string (bs (nB d))]); rfl; rfl; exact fun w' _ => m2 w') | (apply G.cV (g := 92) (vs := [.string (bs (nB d)), .string (bs (nB e))]); rfl; rfl; exact fun w' _ => m3 w') | (apply G.cV (g := 94); rfl; rfl; exact fun w' _ => cm w') | (apply G.cV (g := 95); rfl; rfl; exact fun w' _ => s2 w')) <;> (refine go ?_; and_intros <;> (try exact trivial) <;> repeat (first | refine fun (Bk : Nat) => ?_ | intro h)))
    all_goals refine ret1b Tryz.func64 Tryz.results64 ?_
    all_goals rfl
theorem fplus_le {f g : Bool × Nat × Nat} {k : Nat} (hf : fLe f k) (hg : fLe g k) : fLe (fplus f.1 f.2.1 f.2.2 g.1 g.2.1 g.2.2) (k + k + 1) := by
  obtain ⟨s, n, d⟩ := f
  obtain ⟨t, m, e⟩ := g
  obtain ⟨h1, h2⟩ := hf
  obtain ⟨h3, h4⟩ := hg
  dsimp only at h1 h2 h3 h4
  have l1 := nB_mul h1 h4
  have l2 := nB_mul h3 h2
  have l3 := nB_mul h2 h4
  rw [fplus]
  split
  · exact ⟨nB_add l1 l2, Nat.le_succ_of_le l3⟩
  · split
    · exact ⟨Nat.le_succ_of_le (Nat.le_trans (nB_len_le (Nat.sub_le _ _)) l2), Nat.le_succ_of_le l3⟩
    · exact ⟨Nat.le_succ_of_le (Nat.le_trans (nB_len_le (Nat.sub_le _ _)) l1), Nat.le_succ_of_le l3⟩
theorem less_f (f g : Bool × Nat × Nat) (w : World) (hf : fLe f 134217728) (hg : fLe g 134217728) :
    Calls Tryz.prog 62 #[frA f, frA g] w fun e w' => e = .returned (frA (fplus f.1 f.2.1 f.2.2 (!g.1) g.2.1 g.2.2)) ∧ Below w.heap.size w w' := by
  obtain ⟨t, m, e⟩ := g
  have hp := fun w' => plus_f f (!t, m, e) w' hf hg
  dsimp only at hp ⊢
  generalize fplus f.1 f.2.1 f.2.2 (!t) m e = r at *
  obtain ⟨s, n, d⟩ := f
  refine enterA [(0, frA (s, n, d)), (1, frA (t, m, e))] Tryz.func62 Tryz.ntmps62 ?_
  cases t
  all_goals skip
  all_goals (refine go ?_; and_intros <;> (try exact trivial) <;> repeat (first | refine fun (Bk : Nat) => ?_ | intro h))
  repeat' ((first | (apply G.cV (g := 64); rfl; rfl; exact fun w' _ => hp w')) <;> (refine go ?_; and_intros <;> (try exact trivial) <;> repeat (first | refine fun (Bk : Nat) => ?_ | intro h)))
  all_goals refine ret1b Tryz.func62 Tryz.results62 ?_
  all_goals rfl
def ftimes (f g : Bool × Nat × Nat) : Bool × Nat × Nat := (f.1 != g.1, f.2.1 * g.2.1, f.2.2 * g.2.2)
theorem times_f (f g : Bool × Nat × Nat) (w : World) (hf : fLe f 134217728) (hg : fLe g 134217728) :
    Calls Tryz.prog 67 #[frA f, frA g] w fun e w' => e = .returned (frA (ftimes f g)) ∧ Below w.heap.size w w' := by
  obtain ⟨s, n, d⟩ := f
  obtain ⟨t, m, e⟩ := g
  obtain ⟨h1, h2⟩ := hf
  obtain ⟨h3, h4⟩ := hg
  dsimp only at h1 h2 h3 h4 ⊢
  have m1 := fun w' => natMul_holds (nB n) (nB m) w' (by omega) (by omega)
  have m2 := fun w' => natMul_holds (nB d) (nB e) w' (by omega) (by omega)
  simp only [vB_nB] at m1 m2
  refine enterA [(0, frA (s, n, d)), (1, frA (t, m, e))] Tryz.func67 Tryz.ntmps67 ?_
  all_goals (refine go ?_; and_intros <;> (try exact trivial) <;> repeat (first | refine fun (Bk : Nat) => ?_ | intro h))
  repeat' ((first | (apply G.cV (g := 92) (vs := [.string (bs (nB n)), .string (bs (nB m))]); rfl; rfl; exact fun w' _ => m1 w') | (apply G.cV (g := 92) (vs := [.string (bs (nB d)), .string (bs (nB e))]); rfl; rfl; exact fun w' _ => m2 w')) <;> (refine go ?_; and_intros <;> (try exact trivial) <;> repeat (first | refine fun (Bk : Nat) => ?_ | intro h)))
  all_goals refine ret1b Tryz.func67 Tryz.results67 ?_
  all_goals rfl
theorem over_f (f g : Bool × Nat × Nat) (w : World) (hf : fLe f 134217728) (hg : fLe g 134217728) :
    Calls Tryz.prog 79 #[frA f, frA g] w fun e w' => e = .returned (frA (ftimes f (g.1, g.2.2, g.2.1))) ∧ Below w.heap.size w w' := by
  obtain ⟨t, m, e⟩ := g
  have hp := fun w' => times_f f (t, e, m) w' hf ⟨hg.2, hg.1⟩
  dsimp only at hp ⊢
  generalize ftimes f (t, e, m) = r at *
  obtain ⟨s, n, d⟩ := f
  refine enterA [(0, frA (s, n, d)), (1, frA (t, m, e))] Tryz.func79 Tryz.ntmps79 ?_
  all_goals (refine go ?_; and_intros <;> (try exact trivial) <;> repeat (first | refine fun (Bk : Nat) => ?_ | intro h))
  repeat' ((first | (apply G.cV (g := 67); rfl; rfl; exact fun w' _ => hp w')) <;> (refine go ?_; and_intros <;> (try exact trivial) <;> repeat (first | refine fun (Bk : Nat) => ?_ | intro h)))
  all_goals refine ret1b Tryz.func79 Tryz.results79 ?_
  all_goals rfl
theorem do_holds (g : FuncId) [Fun Tryz.prog g] (F : Value) (b : Q3) (r : Bool × Nat × Nat) (w : World) (h1 : b.num.length ≤ 536870912) (h2 : b.den.length ≤ 536870912) (hop : ∀ w', Calls Tryz.prog g #[F, frA (frac b)] w' fun e w2 => e = .returned (frA r) ∧ Below w'.heap.size w' w2) (hr : fLe r 536870912) (hd : r.2.2 ≠ 0) :
    Calls Tryz.prog 63 #[.func (.func g) #[F] #[], qA b] w fun e w' => e = .returned (qA (rQ (ofF r.1 r.2.1 r.2.2))) ∧ Below w.heap.size w w' := by
  have hof := fun w' => ratOf_holds b w' h1 h2
  have hlo := fun w' => lowest_holds r w' hr hd
  have hop' : ∀ w', Calls Tryz.prog g (#[F] ++ [frA (frac b)].toArray) w' fun e w2 => e = .returned (frA r) ∧ Below w'.heap.size w' w2 := fun w' => by simpa using hop w'
  refine enterA [(0, .func (.func g) #[F] #[]), (1, qA b)] Tryz.func63 Tryz.ntmps63 ?_
  all_goals (refine go ?_; and_intros <;> (try exact trivial) <;> repeat (first | refine fun (Bk : Nat) => ?_ | intro h))
  repeat' ((first | (apply G.cV (g := 61); rfl; rfl; exact fun w' _ => hof w') | (apply G.cVm (g := g) (v := frA r); rfl; rfl; rfl; exact fun w' _ => hop' w') | (apply G.cV (g := 70); rfl; rfl; exact fun w' _ => hlo w')) <;> (refine go ?_; and_intros <;> (try exact trivial) <;> repeat (first | refine fun (Bk : Nat) => ?_ | intro h)))
  all_goals refine ret1b Tryz.func63 Tryz.results63 ?_
  all_goals rfl
theorem frac_le {a : Q3} {k : Nat} (h1 : a.num.length ≤ k) (h2 : a.den.length ≤ k) (hk : 1 ≤ k) : fLe (frac a) k := by
  rw [frac]
  split
  · exact ⟨Nat.le_trans (nB_vB_len _) h1, Nat.le_trans (nB_vB_len _) h2⟩
  · refine ⟨?_, ?_⟩
    · show (nB 0).length ≤ k
      rw [nB_zero]; exact Nat.zero_le _
    · show (nB 1).length ≤ k
      rw [nB_one]; exact hk
theorem ratAdd_holds (a b : Q3) (w : World) (h1 : a.num.length ≤ 134217728) (h2 : a.den.length ≤ 134217728) (h3 : b.num.length ≤ 134217728) (h4 : b.den.length ≤ 134217728) :
    Calls Tryz.prog 26 #[qA a, qA b] w fun e w' => e = .returned (qA (rQ (qR a + qR b))) ∧ Below w.heap.size w w' := by
  have hfa := frac_le h1 h2 (by decide)
  have hfb := frac_le h3 h4 (by decide)
  obtain ⟨e1, d1⟩ := frac_eq a
  obtain ⟨e2, d2⟩ := frac_eq b
  obtain ⟨e3, d3⟩ := fplus_eq (s := (frac a).1) (t := (frac b).1) (n := (frac a).2.1) (m := (frac b).2.1) d1 d2
  have hle := fplus_le hfa hfb
  have hof := fun w' => ratOf_holds a w' (by omega) (by omega)
  have hdo := fun w' => do_holds 64 (frA (frac a)) b _ w' (by omega) (by omega) (fun w2 => plus_f (frac a) (frac b) w2 hfa hfb) ⟨Nat.le_trans hle.1 (by decide), Nat.le_trans hle.2 (by decide)⟩ d3
  rw [e3, e1, e2] at hdo
  refine enterA [(0, qA a), (1, qA b)] Tryz.func26 Tryz.ntmps26 ?_
  all_goals (refine go ?_; and_intros <;> (try exact trivial) <;> repeat (first | refine fun (Bk : Nat) => ?_ | intro h))
  repeat' ((first | (apply G.cV (g := 61); rfl; rfl; exact fun w' _ => hof w') | (apply G.cV (g := 63); rfl; rfl; exact fun w' _ => hdo w')) <;> (refine go ?_; and_intros <;> (try exact trivial) <;> repeat (first | refine fun (Bk : Nat) => ?_ | intro h)))
  all_goals refine ret1b Tryz.func26 Tryz.results26 ?_
  all_goals rfl
theorem ratSub_holds (a b : Q3) (w : World) (h1 : a.num.length ≤ 134217728) (h2 : a.den.length ≤ 134217728) (h3 : b.num.length ≤ 134217728) (h4 : b.den.length ≤ 134217728) :
    Calls Tryz.prog 44 #[qA a, qA b] w fun e w' => e = .returned (qA (rQ (qR a - qR b))) ∧ Below w.heap.size w w' := by
  have hfa := frac_le h1 h2 (by decide)
  have hfb := frac_le h3 h4 (by decide)
  obtain ⟨e1, d1⟩ := frac_eq a
  obtain ⟨e2, d2⟩ := frac_eq b
  obtain ⟨e3, d3⟩ := fplus_eq (s := (frac a).1) (t := !(frac b).1) (n := (frac a).2.1) (m := (frac b).2.1) d1 d2
  have hle := fplus_le (g := (!(frac b).1, (frac b).2.1, (frac b).2.2)) hfa hfb
  have hof := fun w' => ratOf_holds a w' (by omega) (by omega)
  have hdo := fun w' => do_holds 62 (frA (frac a)) b _ w' (by omega) (by omega) (fun w2 => less_f (frac a) (frac b) w2 hfa hfb) ⟨Nat.le_trans hle.1 (by decide), Nat.le_trans hle.2 (by decide)⟩ d3
  rw [e3, e1, ← ofF_neg, e2, ← Rat.sub_eq_add_neg] at hdo
  refine enterA [(0, qA a), (1, qA b)] Tryz.func44 Tryz.ntmps44 ?_
  all_goals (refine go ?_; and_intros <;> (try exact trivial) <;> repeat (first | refine fun (Bk : Nat) => ?_ | intro h))
  repeat' ((first | (apply G.cV (g := 61); rfl; rfl; exact fun w' _ => hof w') | (apply G.cV (g := 63); rfl; rfl; exact fun w' _ => hdo w')) <;> (refine go ?_; and_intros <;> (try exact trivial) <;> repeat (first | refine fun (Bk : Nat) => ?_ | intro h)))
  all_goals refine ret1b Tryz.func44 Tryz.results44 ?_
  all_goals rfl
theorem ftimes_le {f g : Bool × Nat × Nat} {k l : Nat} (hf : fLe f k) (hg : fLe g l) : fLe (ftimes f g) (k + l) := ⟨nB_mul hf.1 hg.1, nB_mul hf.2 hg.2⟩
theorem ratMul_holds (a b : Q3) (w : World) (h1 : a.num.length ≤ 134217728) (h2 : a.den.length ≤ 134217728) (h3 : b.num.length ≤ 134217728) (h4 : b.den.length ≤ 134217728) :
    Calls Tryz.prog 28 #[qA a, qA b] w fun e w' => e = .returned (qA (rQ (qR a * qR b))) ∧ Below w.heap.size w w' := by
  have hfa := frac_le h1 h2 (by decide)
  have hfb := frac_le h3 h4 (by decide)
  obtain ⟨e1, d1⟩ := frac_eq a
  obtain ⟨e2, d2⟩ := frac_eq b
  have hle := ftimes_le hfa hfb
  have hof := fun w' => ratOf_holds a w' (by omega) (by omega)
  have hdo := fun w' => do_holds 67 (frA (frac a)) b _ w' (by omega) (by omega) (fun w2 => times_f (frac a) (frac b) w2 hfa hfb) ⟨Nat.le_trans hle.1 (by decide), Nat.le_trans hle.2 (by decide)⟩ (Nat.mul_ne_zero d1 d2)
  have e3 : ofF (ftimes (frac a) (frac b)).1 (ftimes (frac a) (frac b)).2.1 (ftimes (frac a) (frac b)).2.2 = qR a * qR b := by
    rw [← e1, ← e2, ofF_times]; rfl
  rw [e3] at hdo
  refine enterA [(0, qA a), (1, qA b)] Tryz.func28 Tryz.ntmps28 ?_
  all_goals (refine go ?_; and_intros <;> (try exact trivial) <;> repeat (first | refine fun (Bk : Nat) => ?_ | intro h))
  repeat' ((first | (apply G.cV (g := 61); rfl; rfl; exact fun w' _ => hof w') | (apply G.cV (g := 63); rfl; rfl; exact fun w' _ => hdo w')) <;> (refine go ?_; and_intros <;> (try exact trivial) <;> repeat (first | refine fun (Bk : Nat) => ?_ | intro h)))
  all_goals refine ret1b Tryz.func28 Tryz.results28 ?_
  all_goals rfl
end Go.Proofs.YteaccaieaigeaaaGreatDoor
/-
  Contracts of the rational numbers: Cmp, inside, integer, Make, Int.
-/
namespace Go.Proofs.YteaccaieaigeaaaGreatDoor
open Go.RowKit Go.Sl Go.Num
theorem ratCmp_holds (a b : Q3) (w : World) (h1 : a.num.length ≤ 134217728) (h2 : a.den.length ≤ 134217728) (h3 : b.num.length ≤ 134217728) (h4 : b.den.length ≤ 134217728) :
    Calls Tryz.prog 25 #[qA a, qA b] w fun e w' => e = .returned (.int .i64 (sgnR (qR a - qR b))) ∧ Below w.heap.size w w' := by
  have hfa := frac_le h1 h2 (by decide)
  have hfb := frac_le h3 h4 (by decide)
  obtain ⟨e1, d1⟩ := frac_eq a
  obtain ⟨e2, d2⟩ := frac_eq b
  obtain ⟨e3, d3⟩ := fplus_eq (s := (frac a).1) (t := !(frac b).1) (n := (frac a).2.1) (m := (frac b).2.1) d1 d2
  have hoa := fun w' => ratOf_holds a w' (by omega) (by omega)
  have hob := fun w' => ratOf_holds b w' (by omega) (by omega)
  have hle := fun w' => less_f (frac a) (frac b) w' hfa hfb
  rw [e1, ← ofF_neg, e2, ← Rat.sub_eq_add_neg] at e3
  rw [← e3, sgn_ofF d3]
  generalize fplus (frac a).1 (frac a).2.1 (frac a).2.2 (!(frac b).1) (frac b).2.1 (frac b).2.2 = r at *
  obtain ⟨s, n, d⟩ := r
  dsimp only at d3 ⊢
  refine enterA [(0, qA a), (1, qA b)] Tryz.func25 Tryz.ntmps25 ?_
  by_cases hn : n = 0
  · have c1 : nB n = [] := nB_nil.2 hn
    rw [if_pos hn]
    all_goals (refine go ?_; and_intros <;> (try exact trivial) <;> repeat (first | refine fun (Bk : Nat) => ?_ | intro h))
    repeat' ((first | (apply J.regA (.q 0 <| .q 1 <| .q 2 <| .q 3 <| .q 4 <| .e 5 <| .r 6 <| .nil); exact Tryz.mixed; decide +kernel) | (apply G.eqlStr; rfl; rfl; rfl; rfl; rfl; all_goals intro h; all_goals try (first | exact absurd h (by assumption) | exact absurd (by assumption) h)) | (apply G.cV (g := 61) (vs := [qA a]); rfl; rfl; exact fun w' _ => hoa w') | (apply G.cV (g := 61) (vs := [qA b]); rfl; rfl; exact fun w' _ => hob w') | (apply G.cV (g := 62); rfl; rfl; exact fun w' _ => hle w')) <;> (refine go ?_; and_intros <;> (try exact trivial) <;> repeat (first | refine fun (Bk : Nat) => ?_ | intro h)))
    all_goals refine ret1b Tryz.func25 Tryz.results25 ?_
    all_goals rfl
  · have c1 : nB n ≠ [] := fun e => hn (nB_nil.1 e)
    rw [if_neg hn]
    cases s
    all_goals skip
    all_goals (refine go ?_; and_intros <;> (try exact trivial) <;> repeat (first | refine fun (Bk : Nat) => ?_ | intro h))
    repeat' ((first | (apply J.regA (.q 0 <| .q 1 <| .q 2 <| .q 3 <| .q 4 <| .e 5 <| .r 6 <| .nil); exact Tryz.mixed; decide +kernel) | (apply G.eqlStr; rfl; rfl; rfl; rfl; rfl; all_goals intro h; all_goals try (first | exact absurd h (by assumption) | exact absurd (by assumption) h)) | (apply G.cV (g := 61) (vs := [qA a]); rfl; rfl; exact fun w' _ => hoa w') | (apply G.cV (g := 61) (vs := [qA b]); rfl; rfl; exact fun w' _ => hob w') | (apply G.cV (g := 62); rfl; rfl; exact fun w' _ => hle w')) <;> (refine go ?_; and_intros <;> (try exact trivial) <;> repeat (first | refine fun (Bk : Nat) => ?_ | intro h)))
    all_goals refine ret1b Tryz.func25 Tryz.results25 ?_
    all_goals rfl
def insideB (n : Int) : Bool := decide (-999999999999999 ≤ n) && decide (n ≤ 999999999999999)
theorem inside_holds (n : Int) (w : World) : Calls Tryz.prog 68 #[.int .i64 n] w fun e w' => e = .returned (.bool (insideB n)) ∧ Below w.heap.size w w' := by
  refine enterA [(0, .int .i64 n)] Tryz.func68 Tryz.ntmps68 ?_
  all_goals (refine go ?_; and_intros <;> (try exact trivial) <;> repeat (first | refine fun (Bk : Nat) => ?_ | intro h))
  all_goals refine ret1b Tryz.func68 Tryz.results68 ?_
  all_goals exact ret_bool (by rw [insideB]; first | (rw [decide_eq_true (by omega), decide_eq_true (by omega)]; rfl) | (rw [decide_eq_false (by omega)]; rfl) | (rw [decide_eq_true (by omega), decide_eq_false (by omega)]; rfl))
theorem insideB_true {n : Int} (h1 : -999999999999999 ≤ n) (h2 : n ≤ 999999999999999) : insideB n = true := by rw [insideB, decide_eq_true h1, decide_eq_true h2]; rfl
theorem integer_holds (n : Int) (w : World) (h1 : -999999999999999 ≤ n) (h2 : n ≤ 999999999999999) :
    Calls Tryz.prog 69 #[.int .i64 n] w fun e w' => e = .returned (frA (decide (n < 0), n.natAbs, 1)) ∧ Below w.heap.size w w' := by
  have hm : max n (-n) = ((n.natAbs : Nat) : Int) := by omega
  have hi := fun w' => natInt_holds n.natAbs w' (by omega)
  have hf : frA (decide (n < 0), n.natAbs, 1) = .agg #[.bool (decide (n < 0)), .string (bs (nB n.natAbs)), .string (bs [1])] := by simp only [frA, nB_one]
  rw [hf]
  generalize n.natAbs = m at *
  refine enterA [(0, .int .i64 n)] Tryz.func69 Tryz.ntmps69 ?_
  repeat' (first | (apply G.mxE; rfl; rfl; exact hm; rfl) | (apply G.cV (g := 100); rfl; rfl; exact fun w' _ => hi w') | (apply G.pu; rfl; rfl; first | exact trivial | omega) | (apply J.ct; rfl) | (apply G.nil; rfl) | (apply G.cm; rfl; rfl; all_goals intro h; all_goals try (exfalso; omega)) | (apply G.fa; rfl; rfl) | (apply G.ld; rfl; (first | (apply LdV.one; (first | exact CellV.row0 (by assumption) rfl | exact CellV.rowS (by assumption) rfl | exact CellV.rowSS (by assumption) rfl | (apply CellV.blk; exact mm; rfl))) | (apply LdV.aggBlk; exact mm; rfl) | (apply LdV.part; exact mm; rfl; rfl) | (apply LdV.aggRow; assumption; rfl) | (apply LdV.partRow; assumption; rfl; rfl)); rfl) | (apply G.sk; rfl) | (apply G.ls; rfl; rfl) | (apply G.ix; rfl; rfl; rfl; omega; rfl) | (apply G.ix; rfl; rfl; (first | exact sub_one _ | exact add_one' _); omega; rfl) | (apply G.lt; rfl; rfl) | (apply G.bu; rfl; rfl; rfl) | (apply G.fd; rfl; rfl; rfl) | (apply G.cv; rfl; rfl; rfl; omega) | (apply G.beq; rfl; rfl; rfl) | (apply G.bne; rfl; rfl; rfl) | (apply G.mm; rfl; rfl) | (apply G.mf; rfl; rfl) | (apply G.mx; rfl; rfl; rfl) | (apply G.mn; rfl; rfl; rfl) | (apply G.bx; rfl; rfl; rfl; intro Bk) | (apply G.al; rfl; intro Bk) | (apply G.so; rfl; rfl; (repeat (first | exact RAt.head | apply RAt.tail)); rfl; rfl) | (apply G.ss; rfl; rfl; (repeat (first | exact RAt.head | apply RAt.tail)); rfl; rfl) | (apply J.regQ; exact Tryz.mixed; decide +kernel) | (apply J.regL; exact Tryz.mixed; decide +kernel) | apply J.reg)
  all_goals refine ret1b Tryz.func69 Tryz.results69 ?_
  all_goals (first | (rw [decide_eq_true (by omega)]; rfl) | (rw [decide_eq_false (by omega)]; rfl))
theorem ofF_int (n : Int) : ofF (decide (n < 0)) n.natAbs 1 = (n : Rat) := by
  rw [ofF, sg_self, ← Rat.mkRat_one]
theorem int_le {n : Int} (h1 : -999999999999999 ≤ n) (h2 : n ≤ 999999999999999) : (nB n.natAbs).length ≤ 8 := nB_bound (by omega)
theorem nB1_le : (nB 1).length ≤ 8 := by rw [nB_one]; decide
theorem int_holds (n : Int) (w : World) (h1 : -999999999999999 ≤ n) (h2 : n ≤ 999999999999999) :
    Calls Tryz.prog 33 #[.int .i64 n] w fun e w' => e = .returned (qA (rQ (n : Rat))) ∧ Below w.heap.size w w' := by
  have i1 := fun w' => integer_holds n w' h1 h2
  have b1 := fun w' => inside_holds n w'
  rw [insideB_true h1 h2] at b1
  have l1 : fLe (decide (n < 0), n.natAbs, 1) 8 := ⟨int_le h1 h2, nB1_le⟩
  have lo := fun w' => lowest_holds (decide (n < 0), n.natAbs, 1) w' ⟨Nat.le_trans l1.1 (by decide), Nat.le_trans l1.2 (by decide)⟩ (show (1 : Nat) ≠ 0 by decide)
  rw [ofF_int n] at lo
  generalize frA (decide (n < 0), n.natAbs, 1) = f1 at *
  refine enterA [(0, .int .i64 n)] Tryz.func33 Tryz.ntmps33 ?_
  all_goals (refine go ?_; and_intros <;> (try exact trivial) <;> repeat (first | refine fun (Bk : Nat) => ?_ | intro h))
  repeat' ((first | (apply G.cV (g := 68) (vs := [.int .i64 n]); rfl; rfl; exact fun w' _ => b1 w') | (apply G.cV (g := 69) (vs := [.int .i64 n]); rfl; rfl; exact fun w' _ => i1 w') | (apply G.cV (g := 70); rfl; rfl; exact fun w' _ => lo w')) <;> (refine go ?_; and_intros <;> (try exact trivial) <;> repeat (first | refine fun (Bk : Nat) => ?_ | intro h)))
  all_goals refine ret1b Tryz.func33 Tryz.results33 ?_
  all_goals rfl
end Go.Proofs.YteaccaieaigeaaaGreatDoor
/-
  Contracts of the specification of rational numbers: Neg, Add, Sub, Mul, Cmp, Make, Int.
-/
namespace Go.Proofs.YteaccaieaigeaaaGreatDoor
open Go.RowKit Go.Sl Go.Num
theorem rQ_neg (q : Rat) : rQ (-q) = if (rQ q).num = [] then rQ q else ⟨!(rQ q).neg, (rQ q).num, (rQ q).den⟩ := by
  by_cases h : q.num = 0
  · have hq : q = 0 := Rat.num_eq_zero.1 h
    subst hq
    rfl
  · have h1 : (rQ q).num ≠ [] := by
      rw [rQ, if_neg h]
      exact fun e => h (Int.natAbs_eq_zero.1 (nB_nil.1 e))
    rw [if_neg h1, rQ, rQ, if_neg h, if_neg (by rw [Rat.neg_num]; omega)]
    simp only [Rat.neg_num, Rat.neg_den, Int.natAbs_neg]
    congr 1
    by_cases h2 : q.num < 0
    · rw [decide_eq_true h2, decide_eq_false (by omega)]; rfl
    · rw [decide_eq_false h2, decide_eq_true (by omega)]; rfl
theorem sgn_rQ (q : Rat) : sgnR q = if (rQ q).num = [] then 0 else if (rQ q).neg = true then -1 else 1 := by
  rw [sgnR]
  by_cases h : q.num = 0
  · have hq : q = 0 := Rat.num_eq_zero.1 h
    subst hq
    rfl
  · have h1 : (rQ q).num ≠ [] := by
      rw [rQ, if_neg h]
      exact fun e => h (Int.natAbs_eq_zero.1 (nB_nil.1 e))
    have h3 : q ≠ 0 := fun e => h (by rw [e]; rfl)
    rw [if_neg h3, if_neg h1, rQ, if_neg h]
    have h4 : q < 0 ↔ q.num < 0 := by rw [← Rat.not_le, ← Rat.num_nonneg, Int.not_le]
    by_cases h2 : q.num < 0
    · rw [if_pos (h4.2 h2), if_pos (decide_eq_true h2)]
    · rw [if_neg (fun e => h2 (h4.1 e)), if_neg (fun e => h2 (of_decide_eq_true e))]
end Go.Proofs.YteaccaieaigeaaaGreatDoor
/-
  Sizes of numbers, lists of integers, slices in memory: what all chapters share.
-/
namespace Go.Proofs.YteaccaieaigeaaaGreatDoor
open Go.RowKit Go.Sl Go.Num
def fewQ (k : Nat) (a : Q3) : Prop := a.num.length ≤ k ∧ a.den.length ≤ k
theorem fewQ_le {a : Q3} {j k : Nat} (h : fewQ j a) (hk : j ≤ k) : fewQ k a := ⟨Nat.le_trans h.1 hk, Nat.le_trans h.2 hk⟩
theorem SlAt.all {w : World} {a : Option Addr} {sz : Nat} {A : Type} {f : A → List Value} {l : List A} (h : SlAt w a sz (l.map f)) (h0 : 0 < l.length) : ∃ b off, a = some ⟨b, off, none⟩ ∧ ∀ i (hi : i < l.length), RowAt w b (off + i * sz) (f l[i]) := by
  obtain ⟨b, off, h1, h2⟩ := h (by simpa using h0)
  exact ⟨b, off, h1, fun i hi => h2 i _ (by simp [hi])⟩
theorem fewQ_ofF {s : Bool} {n d k : Nat} (hd : d ≠ 0) (h1 : (nB n).length ≤ k) (h2 : (nB d).length ≤ k) : fewQ k (rQ (ofF s n d)) := by
  rw [rQ_ofF hd]
  split
  · exact ⟨Nat.zero_le _, Nat.zero_le _⟩
  · exact ⟨Nat.le_trans (nB_len_le (Nat.div_le_self _ _)) h1, Nat.le_trans (nB_len_le (Nat.div_le_self _ _)) h2⟩
theorem fplus_le2 {f g : Bool × Nat × Nat} {i j : Nat} (hf : fLe f i) (hg : fLe g j) : fLe (fplus f.1 f.2.1 f.2.2 g.1 g.2.1 g.2.2) (i + j + 1) := by
  obtain ⟨s, n, d⟩ := f
  obtain ⟨t, m, e⟩ := g
  obtain ⟨h1, h2⟩ := hf
  obtain ⟨h3, h4⟩ := hg
  dsimp only at h1 h2 h3 h4
  have l1 := nB_mul h1 h4
  have l2 := nB_mul h3 h2
  rw [Nat.add_comm j i] at l2
  have l3 := nB_mul h2 h4
  have l4 := nB_add l1 l2
  rw [fplus]
  split
  · exact ⟨l4, by dsimp only; omega⟩
  · split
    · exact ⟨Nat.le_trans (nB_len_le (Nat.sub_le _ _)) (Nat.le_trans l2 (by omega)), by dsimp only; omega⟩
    · exact ⟨Nat.le_trans (nB_len_le (Nat.sub_le _ _)) (Nat.le_trans l1 (by omega)), by dsimp only; omega⟩
theorem fewQ_add {x y : Rat} {i j : Nat} (hx : fewQ i (rQ x)) (hy : fewQ j (rQ y)) (hi : 1 ≤ i) (hj : 1 ≤ j) : fewQ (i + j + 1) (rQ (x + y)) := by
  obtain ⟨e1, d1⟩ := frac_eq (rQ x)
  obtain ⟨e2, d2⟩ := frac_eq (rQ y)
  obtain ⟨e3, d3⟩ := fplus_eq (s := (frac (rQ x)).1) (t := (frac (rQ y)).1) (n := (frac (rQ x)).2.1) (m := (frac (rQ y)).2.1) d1 d2
  rw [e1, e2, qR_rQ, qR_rQ] at e3
  rw [← e3]
  have := fplus_le2 (frac_le hx.1 hx.2 hi) (frac_le hy.1 hy.2 hj)
  exact fewQ_ofF d3 this.1 this.2
theorem fewQ_neg {x : Rat} {i : Nat} (hx : fewQ i (rQ x)) : fewQ i (rQ (-x)) := by
  rw [rQ_neg]; split <;> exact hx
theorem fewQ_sub {x y : Rat} {i j : Nat} (hx : fewQ i (rQ x)) (hy : fewQ j (rQ y)) (hi : 1 ≤ i) (hj : 1 ≤ j) : fewQ (i + j + 1) (rQ (x - y)) := by
  rw [Rat.sub_eq_add_neg]; exact fewQ_add hx (fewQ_neg hy) hi hj
theorem fewQ_mul {x y : Rat} {i j : Nat} (hx : fewQ i (rQ x)) (hy : fewQ j (rQ y)) (hi : 1 ≤ i) (hj : 1 ≤ j) : fewQ (i + j) (rQ (x * y)) := by
  obtain ⟨e1, d1⟩ := frac_eq (rQ x)
  obtain ⟨e2, d2⟩ := frac_eq (rQ y)
  rw [qR_rQ] at e1 e2
  have e3 : ofF (ftimes (frac (rQ x)) (frac (rQ y))).1 (ftimes (frac (rQ x)) (frac (rQ y))).2.1 (ftimes (frac (rQ x)) (frac (rQ y))).2.2 = x * y := by
    rw [← e1, ← e2, ofF_times, e1, e2]; rfl
  rw [← e3]
  have := ftimes_le (frac_le hx.1 hx.2 hi) (frac_le hy.1 hy.2 hj)
  exact fewQ_ofF (Nat.mul_ne_zero d1 d2) this.1 this.2
theorem fewQ_int {n : Int} (h1 : -999999999999999 ≤ n) (h2 : n ≤ 999999999999999) : fewQ 8 (rQ (n : Rat)) := by
  rw [← ofF_int]
  exact fewQ_ofF (by decide) (int_le h1 h2) nB1_le
theorem fewQ_zero {k : Nat} : fewQ k (rQ 0) := ⟨Nat.zero_le _, Nat.zero_le _⟩
def isV (s : Int) : List Value := [.int .i64 s]
theorem isV_len (s : Int) : (isV s).length = 1 := rfl
theorem is_set {p : List Int} {j : Nat} {v : Int} (h : j < p.length) : setL (flat isV p) (0 + j * 1) [.int .i64 v] = flat isV (p.set j v) := flat_set1 isV_len h rfl
theorem is_get : ∀ {p : List Int} {j : Nat} (h : j < p.length), (flat isV p)[0 + j * 1]? = some (.int .i64 p[j])
  | x :: p, 0, _ => rfl
  | x :: p, j + 1, h => by
    have := is_get (p := p) (j := j) (by simpa using h)
    rw [Nat.zero_add, Nat.mul_one] at this ⊢
    rw [flat_cons]
    simpa [isV] using this
theorem isLen (l : List Int) : (flat isV l).length = l.length := by rw [flat_len isV_len, Nat.mul_one]
theorem getD_eq {S : List Int} {x : Nat} (h : x < S.length) : S.getD x 0 = S[x] := by rw [List.getD_eq_getElem?_getD, List.getElem?_eq_getElem h]; rfl
theorem nil_or_snoc {A : Type} (l : List A) : l = [] ∨ ∃ o p, l = o ++ [p] := by
  rcases List.eq_nil_or_concat l with rfl | ⟨o, p, rfl⟩
  · exact .inl rfl
  · exact .inr ⟨o, p, List.concat_eq_append⟩
theorem blkSlA {w0 w : World} {M : List Row} {A : Type} {f : A → List Value} {sz b tot : Nat} {e : TypeId} {l : List A} (hw : Sat w0 M w) (hf : ∀ x, (f x).length = sz) (hm : Row.blk b e (flat f l) tot ∈ M := by (repeat (first | exact List.Mem.head _ | apply List.Mem.tail))) : SlAt w (some ⟨b, 0, none⟩) sz (l.map f) ∧ w0.heap.size ≤ b := ⟨SlAt.ofBlk hf hw hm, ((hw.old _ hm).2 _ rfl).1⟩
end Go.Proofs.YteaccaieaigeaaaGreatDoor
/-
  Lists in which two elements change places; the order that insertion brings about.
-/
namespace Go.Proofs.YteaccaieaigeaaaGreatDoor
open Go.RowKit Go.Sl Go.Num
theorem swap_perm (l : List Int) (i j : Nat) (hi : i < l.length) (hj : j < l.length) : ((l.set i l[j]).set j l[i]).Perm l := by
  have h := Array.swap_perm (xs := l.toArray) (i := i) (j := j) (by simpa using hi) (by simpa using hj)
  have h2 := h.toList
  simpa using h2
def swp (S : List Int) (x y : Nat) : List Int := (S.set x (S.getD y 0)).set y (S.getD x 0)
theorem swp_len (S : List Int) (x y : Nat) : (swp S x y).length = S.length := by rw [swp, List.length_set, List.length_set]
theorem swp_eq {S : List Int} {x y : Nat} (hx : x < S.length) (hy : y < S.length) : swp S x y = (S.set x S[y]).set y S[x] := by rw [swp, getD_eq hx, getD_eq hy]
theorem swp_fst {S : List Int} {x y : Nat} (hx : x < S.length) (hy : y < S.length) : (swp S x y).getD x 0 = S.getD y 0 := by
  rw [getD_eq (by rw [swp_len]; exact hx), getD_eq hy]
  simp only [swp_eq hx hy, List.getElem_set]
  split
  · rename_i h; subst h; rfl
  · rfl
theorem swp_snd {S : List Int} {x y : Nat} (hx : x < S.length) (hy : y < S.length) : (swp S x y).getD y 0 = S.getD x 0 := by
  rw [getD_eq (by rw [swp_len]; exact hy), getD_eq hx]
  simp only [swp_eq hx hy, List.getElem_set_self]
theorem swp_oth {S : List Int} {x y z : Nat} (hx : x < S.length) (hy : y < S.length) (h1 : z ≠ x) (h2 : z ≠ y) : (swp S x y).getD z 0 = S.getD z 0 := by
  rw [swp_eq hx hy, List.getD_eq_getElem?_getD, List.getElem?_set_ne (by omega), List.getElem?_set_ne (by omega), List.getD_eq_getElem?_getD]
theorem swp_perm {S : List Int} {x y : Nat} (hx : x < S.length) (hy : y < S.length) : (swp S x y).Perm S := by
  rw [swp_eq hx hy]; exact swap_perm S x y hx hy
end Go.Proofs.YteaccaieaigeaaaGreatDoor
/-
  Maps from integers to integers.
-/
namespace Go.Proofs.YteaccaieaigeaaaGreatDoor
open Go.RowKit Go.Sl Go.Num
instance tkI : TKey Tryz.prog 3 (Value.int .i64) := TKey.int (by kernel_rfl)
end Go.Proofs.YteaccaieaigeaaaGreatDoor
