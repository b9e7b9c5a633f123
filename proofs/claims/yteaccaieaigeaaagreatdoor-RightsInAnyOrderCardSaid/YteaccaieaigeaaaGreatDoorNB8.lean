/-
  Windows of a list that are brought into another order; insertion.
-/
import Derived.Test.YteaccaieaigeaaaGreatDoorNB7
set_option linter.unusedVariables false
set_option linter.unusedSimpArgs false
set_option linter.unusedSectionVars false
namespace Go.Proofs.YteaccaieaigeaaaGreatDoor
open Go.RowKit Go.Sl Go.Num
/-- From a to b the list is in order. -/
def Srt (S : List Int) (a b : Nat) : Prop := ∀ x y, a ≤ x → x < y → y < b → S.getD x 0 ≤ S.getD y 0
/-- Only the window from a to b has changed, and only its order. -/
structure WP (S : List Int) (a b : Nat) (S' : List Int) : Prop where
  len : S'.length = S.length
  out : ∀ z, z < a ∨ b ≤ z → S'.getD z 0 = S.getD z 0
  per : S'.Perm S
theorem WP.refl (S : List Int) (a b : Nat) : WP S a b S := ⟨rfl, fun _ _ => rfl, .refl _⟩
theorem WP.trans {S T U : List Int} {a b : Nat} (h : WP S a b T) (h2 : WP T a b U) : WP S a b U := ⟨h2.len.trans h.len, fun z hz => (h2.out z hz).trans (h.out z hz), h2.per.trans h.per⟩
theorem WP.mono {S T : List Int} {a b c d : Nat} (h : WP S a b T) (h1 : c ≤ a) (h2 : b ≤ d) : WP S c d T := ⟨h.len, fun z hz => h.out z (by omega), h.per⟩
theorem WP.swp {S : List Int} {a b x y : Nat} (hx : a ≤ x ∧ x < b) (hy : a ≤ y ∧ y < b) (hb : b ≤ S.length) : WP S a b (swp S x y) :=
  ⟨swp_len S x y, fun z hz => swp_oth (by omega) (by omega) (by omega) (by omega), swp_perm (by omega) (by omega)⟩
theorem getD_ext {S T : List Int} (hl : S.length = T.length) (h : ∀ z, z < S.length → S.getD z 0 = T.getD z 0) : S = T := List.ext_getElem hl fun i h1 h2 => by
  have := h i h1
  rwa [getD_eq h1, getD_eq h2] at this
theorem WP.win {S T : List Int} {a b : Nat} (h : WP S a b T) (hab : a ≤ b) (hb : b ≤ S.length) : ((T.drop a).take (b - a)).Perm ((S.drop a).take (b - a)) := by
  have e1 : T.take a = S.take a := by
    refine getD_ext (by rw [List.length_take, List.length_take, h.len]) fun z hz => ?_
    rw [List.length_take] at hz
    have := h.out z (.inl (by omega))
    rw [List.getD_eq_getElem?_getD, List.getD_eq_getElem?_getD, List.getElem?_take_of_lt (by omega), List.getElem?_take_of_lt (by omega), ← List.getD_eq_getElem?_getD, ← List.getD_eq_getElem?_getD, this]
  have e2 : T.drop b = S.drop b := by
    refine getD_ext (by rw [List.length_drop, List.length_drop, h.len]) fun z hz => ?_
    have := h.out (b + z) (.inr (by omega))
    rw [List.getD_eq_getElem?_getD, List.getD_eq_getElem?_getD, List.getElem?_drop, List.getElem?_drop, ← List.getD_eq_getElem?_getD, ← List.getD_eq_getElem?_getD, this]
  have hS : S = S.take a ++ ((S.drop a).take (b - a) ++ S.drop b) := by
    have := (List.take_append_drop a S).symm
    have h2 := (List.take_append_drop (b - a) (S.drop a)).symm
    rw [List.drop_drop, show a + (b - a) = b by omega] at h2
    rw [h2] at this
    exact this
  have hT : T = T.take a ++ ((T.drop a).take (b - a) ++ T.drop b) := by
    have := (List.take_append_drop a T).symm
    have h2 := (List.take_append_drop (b - a) (T.drop a)).symm
    rw [List.drop_drop, show a + (b - a) = b by omega] at h2
    rw [h2] at this
    exact this
  have hp := h.per
  rw [hS, hT, e1, e2] at hp
  exact (List.perm_append_right_iff _).1 ((List.perm_append_left_iff _).1 hp)
/-- What holds of all elements of the window holds of them in the other order. -/
theorem WP.all {S T : List Int} {a b : Nat} (h : WP S a b T) (hb : b ≤ S.length) {P : Int → Prop} (hP : ∀ z, a ≤ z → z < b → P (S.getD z 0)) : ∀ z, a ≤ z → z < b → P (T.getD z 0) := fun z h1 h2 => by
  have hw := h.win (by omega) hb
  have hm : T.getD z 0 ∈ (T.drop a).take (b - a) := by
    refine List.mem_iff_getElem?.2 ⟨z - a, ?_⟩
    rw [List.getElem?_take_of_lt (by omega), List.getElem?_drop, show a + (z - a) = z by omega, List.getD_eq_getElem?_getD, List.getElem?_eq_getElem (by rw [h.len]; omega)]; rfl
  obtain ⟨i, hi⟩ := List.mem_iff_getElem?.1 (hw.mem_iff.1 hm)
  have hil : i < b - a := by
    have := (List.getElem?_eq_some_iff.1 hi).1
    rw [List.length_take] at this; omega
  rw [List.getElem?_take_of_lt hil, List.getElem?_drop] at hi
  have := hP (a + i) (by omega) (by omega)
  rw [List.getD_eq_getElem?_getD, hi] at this
  exact this
/-! ### insertion -/
/-- Up to i, all but the element at j are in order, and this one is not greater than those behind it. -/
def InsW (S : List Int) (a i j : Nat) : Prop := (∀ x y, a ≤ x → x < y → y ≤ i → x ≠ j → y ≠ j → S.getD x 0 ≤ S.getD y 0) ∧ ∀ y, j < y → y ≤ i → S.getD j 0 ≤ S.getD y 0
theorem InsW.start {S : List Int} {a i : Nat} (h : Srt S a i) : InsW S a i i := ⟨fun x y h1 h2 h3 _ h5 => h x y h1 h2 (by omega), fun y h1 h2 => by omega⟩
theorem InsW.step {S : List Int} {a i j : Nat} (h : InsW S a i (j + 1)) (ha : a ≤ j) (hi : i < S.length) (hj : j + 1 ≤ i) (hlt : S.getD (j + 1) 0 < S.getD j 0) : InsW (Proofs.YteaccaieaigeaaaGreatDoor.swp S (j + 1) j) a i j := by
  have e1 := swp_fst (S := S) (x := j + 1) (y := j) (by omega) (by omega)
  have e2 := swp_snd (S := S) (x := j + 1) (y := j) (by omega) (by omega)
  have e3 : ∀ z, z ≠ j + 1 → z ≠ j → (Proofs.YteaccaieaigeaaaGreatDoor.swp S (j + 1) j).getD z 0 = S.getD z 0 := fun z h1 h2 => swp_oth (by omega) (by omega) h1 h2
  refine ⟨fun x y h1 h2 h3 h4 h5 => ?_, fun y h1 h2 => ?_⟩
  · by_cases hx : x = j + 1
    · subst hx
      rw [e1, e3 y (by omega) h5]
      exact h.1 j y ha (by omega) h3 (by omega) (by omega)
    · by_cases hy : y = j + 1
      · subst hy
        rw [e1, e3 x hx h4]
        exact h.1 x j h1 (by omega) (by omega) hx (by omega)
      · rw [e3 x hx h4, e3 y hy h5]
        exact h.1 x y h1 h2 h3 hx hy
  · rw [e2]
    by_cases hy : y = j + 1
    · subst hy; rw [e1]; omega
    · rw [e3 y hy (by omega)]
      exact h.2 y (by omega) h2
theorem InsW.end_ {S : List Int} {a i j : Nat} (h : InsW S a i j) (hj : j = a ∨ a < j ∧ ¬ S.getD j 0 < S.getD (j - 1) 0) : Srt S a (i + 1) := fun x y h1 h2 h3 => by
  by_cases hx : x = j
  · subst hx; exact h.2 y h2 (by omega)
  · by_cases hy : y = j
    · subst hy
      rcases hj with rfl | ⟨h4, h5⟩
      · omega
      · by_cases h6 : x = y - 1
        · subst h6; omega
        · have := h.1 x (y - 1) h1 (by omega) (by omega) hx (by omega)
          omega
    · exact h.1 x y h1 h2 (by omega) hx hy
theorem Srt.short {S : List Int} {a b : Nat} (h : b ≤ a + 1) : Srt S a b := fun x y h1 h2 h3 => by omega
theorem srt_pair {S : List Int} (h : Srt S 0 S.length) : S.Pairwise (· ≤ ·) := by
  rw [List.pairwise_iff_getElem]
  intro i j hi hj hij
  have := h i j (Nat.zero_le _) hij hj
  rwa [getD_eq hi, getD_eq hj] at this
end Go.Proofs.YteaccaieaigeaaaGreatDoor
/-
  Contracts: the insertion sort of the library.
-/
namespace Go.Proofs.YteaccaieaigeaaaGreatDoor
open Go.RowKit Go.Sl Go.Num
theorem lessI_holds (x y : Int) (w : World) : Calls Tryz.prog 142 #[.int .i64 x, .int .i64 y] w fun e w' => e = .returned (.bool (decide (x < y))) ∧ Below w.heap.size w w' := by
  have hn := fun v w' => isNaNi_holds v w'
  refine enterA [(0, .int .i64 x), (1, .int .i64 y)] Tryz.func142 Tryz.ntmps142 ?_
  by_cases h0 : x < y
  · rw [decide_eq_true h0]
    all_goals (refine go ?_; and_intros <;> (try exact trivial) <;> repeat (first | refine fun (Bk : Nat) => ?_ | intro h))
    repeat' ((first | (apply G.cV (g := 158); rfl; rfl; exact fun w' _ => hn _ w')) <;> (refine go ?_; and_intros <;> (try exact trivial) <;> repeat (first | refine fun (Bk : Nat) => ?_ | intro h)))
    all_goals refine ret1b Tryz.func142 Tryz.results142 ?_
    all_goals rfl
  · rw [decide_eq_false h0]
    all_goals (refine go ?_; and_intros <;> (try exact trivial) <;> repeat (first | refine fun (Bk : Nat) => ?_ | intro h))
    repeat' ((first | (apply G.cV (g := 158); rfl; rfl; exact fun w' _ => hn _ w')) <;> (refine go ?_; and_intros <;> (try exact trivial) <;> repeat (first | refine fun (Bk : Nat) => ?_ | intro h)))
    all_goals refine ret1b Tryz.func142 Tryz.results142 ?_
    all_goals rfl
theorem gI {S : List Int} {j : Nat} (h : j < S.length) : (flat isV S)[0 + j * 1]? = some (.int .i64 (S.getD j 0)) := by rw [is_get h, getD_eq h]
theorem sI {S : List Int} {j : Nat} {v : Int} (h : j < S.length) : setL (flat isV S) (0 + j * 1) [.int .i64 v] = flat isV (S.set j v) := is_set h
theorem insSort_holds (w0 : World) (M : List Row) (w : World) (g tot n cp : Nat) (S : List Int) (a b : Nat) (hw : Sat w0 (.blk g 3 (flat isV S) tot :: M) w) (hb : b ≤ n) (hn : n = S.length) (hl : n ≤ 1000000000) (ha : a ≤ n) :
    Calls Tryz.prog 136 #[.slice (some ⟨g, 0, none⟩) n cp, .int .i64 a, .int .i64 b] w fun e w' => ∃ S', e = .returned (.tuple #[]) ∧ (WP S a b S' ∧ Srt S' a b) ∧ Sat w0 (.blk g 3 (flat isV S') tot :: M) w' := by
  refine enterR [(0, .slice (some ⟨g, 0, none⟩) n cp), (1, .int .i64 a), (2, .int .i64 b)] hw Tryz.func136 Tryz.ntmps136 ?_
  all_goals (refine go ?_; and_intros <;> (try exact trivial) <;> repeat (first | refine fun (Bk : Nat) => ?_ | intro h))
  refine J.loop (c := _) ((a + 1, S) : Nat × List Int) (fun s => b + 1 - s.1) (fun s => [(0, .slice (some ⟨g, 0, none⟩) n cp), (1, .int .i64 a), (2, .int .i64 b), (6, .int .i64 s.1)]) (fun s => .blk g 3 (flat isV s.2) tot :: M) (fun s => a + 1 ≤ s.1 ∧ (s.1 ≤ b ∨ s.1 = a + 1) ∧ WP S a b s.2 ∧ Srt s.2 a s.1) ?_ sbT sbL ?_
  · exact ⟨Nat.le_refl _, .inr rfl, WP.refl _ _ _, Srt.short (Nat.le_refl _)⟩
  intro ⟨i, S1⟩ ⟨h1, h2, h3, h4⟩ ih
  dsimp only at h1 h2 h3 h4 ⊢
  have hl1 := h3.len
  by_cases hi : i < b
  · have ih := fun S2 h5 h6 => ih (i + 1, S2) ⟨by dsimp only; omega, .inl hi, h5, h6⟩ (by dsimp only; omega)
    all_goals (refine go ?_; and_intros <;> (try exact trivial) <;> repeat (first | refine fun (Bk : Nat) => ?_ | intro h))
    refine J.loop (c := _) ((i, S1) : Nat × List Int) (fun s => s.1) (fun s => [(0, .slice (some ⟨g, 0, none⟩) n cp), (1, .int .i64 a), (2, .int .i64 b), (6, .int .i64 i), (7, .int .i64 s.1)]) (fun s => .blk g 3 (flat isV s.2) tot :: M) (fun s => a ≤ s.1 ∧ s.1 ≤ i ∧ WP S a b s.2 ∧ InsW s.2 a i s.1) ?_ sbT sbL ?_
    · exact ⟨by dsimp only; omega, Nat.le_refl _, h3, InsW.start h4⟩
    clear h3 h4 hl1
    intro ⟨j, S2⟩ ⟨j1, j2, j3, j4⟩ ih2
    dsimp only at j1 j2 j3 j4 ⊢
    have hl2 := j3.len
    by_cases hj : a < j
    · obtain ⟨k, rfl⟩ : ∃ k, j = k + 1 := ⟨j - 1, by omega⟩
      have q1 := gI (S := S2) (j := k + 1) (by omega)
      have q2 := gI (S := S2) (j := k) (by omega)
      have hle := fun w' => lessI_holds (S2.getD (k + 1) 0) (S2.getD k 0) w'
      by_cases hc : S2.getD (k + 1) 0 < S2.getD k 0
      · rw [decide_eq_true hc] at hle
        have ih2 := ih2 (k, swp S2 (k + 1) k) ⟨by dsimp only; omega, by dsimp only; omega, j3.trans (WP.swp ⟨by omega, by omega⟩ ⟨by omega, by omega⟩ (by omega)), j4.step (by omega) (by omega) (by omega) hc⟩ (by dsimp only; omega)
        have r1 := sI (S := S2) (j := k + 1) (v := S2.getD k 0) (by omega)
        have r2 := sI (S := S2.set (k + 1) (S2.getD k 0)) (j := k) (v := S2.getD (k + 1) 0) (by rw [List.length_set]; omega)
        have l1 : 0 + (k + 1) * 1 < (flat isV S2).length := by rw [isLen]; omega
        have l2 : 0 + k * 1 < (flat isV (S2.set (k + 1) (S2.getD k 0))).length := by rw [isLen, List.length_set]; omega
        dsimp only [swp] at ih2
        clear j3 j4 ih
        generalize S2.getD (k + 1) 0 = x at *
        generalize S2.getD k 0 = y at *
        generalize S2.set (k + 1) y = S3 at *
        generalize S3.set k x = S4 at *
        all_goals (refine goR ?_; and_intros <;> (try exact trivial) <;> repeat (first | refine fun (Bk : Nat) => ?_ | intro h))
        repeat' ((first | (apply G.ld; rfl; (apply LdV.one; exact CellV.blk (by exact mm) q1); rfl) | (apply G.ld; rfl; (apply LdV.one; exact CellV.blk (by exact mm) q2); rfl) | (apply G.cV (g := 142); rfl; rfl; exact fun w' _ => hle w') | (apply J.regA (.q 0 <| .q 1 <| .q 2 <| .q 3 <| .q 4 <| .q 5 <| .q 6 <| .q 7 <| .q 8 <| .q 9 <| .q 10 <| .q 11 <| .q 12 <| .q 13 <| .q 14 <| .nil); exact Tryz.mixed; decide +kernel) | (apply J.regX 0 [2, 3, 4] (.q 0 <| .q 1 <| .q 2 <| .q 3 <| .q 4 <| .q 5 <| .q 6 <| .q 7 <| .q 8 <| .q 9 <| .q 10 <| .q 11 <| .q 12 <| .q 13 <| .q 14 <| .e 15 <| .q 16 <| .e 17 <| .nil); exact Tryz.mixed; decide +kernel) | (apply G.s1n (n := 0); rfl; rfl; rfl; exact rfl; exact ⟨rfl, rfl⟩; exact l1; exact r1) | (apply G.s1n (n := 0); rfl; rfl; rfl; exact rfl; exact ⟨rfl, rfl⟩; exact l2; exact r2) | (apply J.regQ; exact Tryz.mixed; decide +kernel) | (apply J.regL'; exact Tryz.mixed; decide +kernel)) <;> (refine goR ?_; and_intros <;> (try exact trivial) <;> repeat (first | refine fun (Bk : Nat) => ?_ | intro h)))
        rw [show ((k + 1 : Nat) : Int) - 1 = (k : Int) by omega]
        exact J.fin ih2
      · rw [decide_eq_false hc] at hle
        have ih := ih S2 j3 (j4.end_ (.inr ⟨by omega, hc⟩))
        clear j3 j4 ih2
        generalize S2.getD (k + 1) 0 = x at *
        generalize S2.getD k 0 = y at *
        all_goals (refine goR ?_; and_intros <;> (try exact trivial) <;> repeat (first | refine fun (Bk : Nat) => ?_ | intro h))
        repeat' ((first | (apply G.ld; rfl; (apply LdV.one; exact CellV.blk (by exact mm) q1); rfl) | (apply G.ld; rfl; (apply LdV.one; exact CellV.blk (by exact mm) q2); rfl) | (apply G.cV (g := 142); rfl; rfl; exact fun w' _ => hle w') | (apply J.regA (.q 0 <| .q 1 <| .q 2 <| .q 3 <| .q 4 <| .q 5 <| .q 6 <| .q 7 <| .q 8 <| .q 9 <| .q 10 <| .q 11 <| .q 12 <| .q 13 <| .q 14 <| .nil); exact Tryz.mixed; decide +kernel) | (apply J.regQ; exact Tryz.mixed; decide +kernel) | (apply J.regL'; exact Tryz.mixed; decide +kernel)) <;> (refine goR ?_; and_intros <;> (try exact trivial) <;> repeat (first | refine fun (Bk : Nat) => ?_ | intro h)))
        exact J.fin ih
    · obtain rfl : j = a := by omega
      have ih := ih S2 j3 (j4.end_ (.inl rfl))
      clear j3 j4 ih2
      all_goals (refine goR ?_; and_intros <;> (try exact trivial) <;> repeat (first | refine fun (Bk : Nat) => ?_ | intro h))
      repeat' ((first | (apply J.regA (.q 0 <| .q 1 <| .q 2 <| .q 3 <| .q 4 <| .q 5 <| .q 6 <| .q 7 <| .q 8 <| .q 9 <| .q 10 <| .q 11 <| .q 12 <| .q 13 <| .q 14 <| .nil); exact Tryz.mixed; decide +kernel) | (apply J.regQ; exact Tryz.mixed; decide +kernel) | (apply J.regL'; exact Tryz.mixed; decide +kernel)) <;> (refine goR ?_; and_intros <;> (try exact trivial) <;> repeat (first | refine fun (Bk : Nat) => ?_ | intro h)))
      exact J.fin ih
  · have h5 : Srt S1 a b := fun x y q1 q2 q3 => h4 x y q1 q2 (by omega)
    clear ih
    all_goals (refine go ?_; and_intros <;> (try exact trivial) <;> repeat (first | refine fun (Bk : Nat) => ?_ | intro h))
    refine end0 Tryz.func136 Tryz.results136 ?_
    exact fun w' hw' => ⟨S1, rfl, ⟨h3, h5⟩, hw'⟩
end Go.Proofs.YteaccaieaigeaaaGreatDoor
/-
  Contracts: how many bits a number has; the sort of short lists.
-/
namespace Go.Sl
open Go.RowKit
variable {C : Ctx} {st : List (Nat × Value)} {M : List Row} {k : List Item} {q q' : Md} {all rest : List Oper} {d : Nat} {ty : TypeId} {pos : String} {after : Array Edge} {gd : Option (Nat × Bool)}
/-- A byte of a string, whichever it is. -/
theorem G.sxa {T : TypeId} {x y : Operand} {l : List UInt8} {ki : IntKind} {e : Int} {i : Nat} (hx : evS st x = some (.string (bs l))) (hy : evS st y = some (.int ki e)) (he : e = (i : Int)) (hi : i < l.length) [hT : TString C.P T] (hs : sideB all st gd d C.N q.calm = some q') (h : ∀ t : Nat, t < 256 → G q' C all ((d, .int .u8 (t : Int)) :: st) M rest k) :
    G q C all st M ({ dst := some d, op := .index T x y, type := ty, pos, after, guard := gd } :: rest) k := G.sx hx hy he (List.getElem?_eq_getElem hi) hs (h _ (UInt8.toNat_lt _))
end Go.Sl
namespace Go.Proofs.YteaccaieaigeaaaGreatDoor
open Go.RowKit Go.Sl Go.Num
theorem len64_holds (x : Nat) (w : World) (hx : x < 18446744073709551616) : Calls Tryz.prog 146 #[.int .u64 x] w fun e w' => ∃ z : Int, (0 ≤ z ∧ z ≤ 1000) ∧ e = .returned (.int .i64 z) ∧ Below w.heap.size w w' := by
  refine enterA [(0, .int .u64 x)] Tryz.func146 Tryz.ntmps146 ?_
  all_goals (refine go ?_; and_intros <;> (try exact trivial) <;> repeat (first | refine fun (Bk : Nat) => ?_ | intro h))
  repeat' ((first | (apply G.shrK (n := 32) (k1 := .u64); rfl; rfl; rfl; exact shr_n (k := 4294967296) rfl rfl; rfl; rfl; rfl) | (apply G.shrK (n := 16) (k1 := .u64); rfl; rfl; rfl; exact shr_n (k := 65536) rfl rfl; rfl; rfl; rfl) | (apply G.shrK (n := 8) (k1 := .u64); rfl; rfl; rfl; exact shr_n (k := 256) rfl rfl; rfl; rfl; rfl) | (apply G.sxa; rfl; rfl; rfl; exact Nat.lt_of_lt_of_eq (m := 256) (by omega) (by decide +kernel); rfl; intro tt ht)) <;> (refine go ?_; and_intros <;> (try exact trivial) <;> repeat (first | refine fun (Bk : Nat) => ?_ | intro h)))
  all_goals refine ret1 Tryz.func146 Tryz.results146 fun w' hw => ⟨_, ?_, rfl, hw.below⟩
  all_goals omega
theorem len_holds (x : Nat) (w : World) (hx : x < 18446744073709551616) : Calls Tryz.prog 111 #[.int .u64 x] w fun e w' => ∃ z : Int, (0 ≤ z ∧ z ≤ 1000) ∧ e = .returned (.int .i64 z) ∧ Below w.heap.size w w' := by
  have hl := fun w' (_ : Below w.heap.size w w') => len64_holds x w' hx
  refine enterA [(0, .int .u64 x)] Tryz.func111 Tryz.ntmps111 ?_
  all_goals (refine go ?_; and_intros <;> (try exact trivial) <;> repeat (first | refine fun (Bk : Nat) => ?_ | intro h))
  repeat' ((first | (refine G.cX (X := { z : Int // 0 ≤ z ∧ z ≤ 1000 }) (v := fun z => .int .i64 z.1) (fun w' hb => (hl w' hb).mono fun e w2 ⟨z, h1, h2, h3⟩ => ⟨⟨z, h1⟩, h2, h3⟩) ?_; intro z)) <;> (refine go ?_; and_intros <;> (try exact trivial) <;> repeat (first | refine fun (Bk : Nat) => ?_ | intro h)))
  refine ret1 Tryz.func111 Tryz.results111 fun w' hw => ⟨_, z.2, rfl, hw.below⟩
/-- The sort of at most twelve numbers. -/
theorem pdq12_holds (w0 : World) (M : List Row) (w : World) (g tot n cp : Nat) (S : List Int) (a b : Nat) (L : Int) (hw : Sat w0 (.blk g 3 (flat isV S) tot :: M) w) (hb : b ≤ n) (hn : n = S.length) (hl : n ≤ 1000000000) (ha : a ≤ n) (h12 : b ≤ a + 12) :
    Calls Tryz.prog 110 #[.slice (some ⟨g, 0, none⟩) n cp, .int .i64 a, .int .i64 b, .int .i64 L] w fun e w' => ∃ S', e = .returned (.tuple #[]) ∧ (WP S a b S' ∧ Srt S' a b) ∧ Sat w0 (.blk g 3 (flat isV S') tot :: M) w' := by
  refine enterR [(0, .slice (some ⟨g, 0, none⟩) n cp), (1, .int .i64 a), (2, .int .i64 b), (3, .int .i64 L)] hw Tryz.func110 Tryz.ntmps110 ?_
  all_goals (refine go ?_; and_intros <;> (try exact trivial) <;> repeat (first | refine fun (Bk : Nat) => ?_ | intro h))
  refine J.loop (c := _) () (fun _ => 0) (fun _ => [(0, .slice (some ⟨g, 0, none⟩) n cp), (1, .int .i64 a), (2, .int .i64 b), (3, .int .i64 L), (8, .bool true), (9, .bool true)]) (fun _ => .blk g 3 (flat isV S) tot :: M) (fun _ => True) trivial sbT sbL ?_
  intro _ _ ih
  clear ih
  all_goals (refine go ?_; and_intros <;> (try exact trivial) <;> repeat (first | refine fun (Bk : Nat) => ?_ | intro h))
  repeat' ((first | (refine G.cP (X := { S' // WP S a b S' ∧ Srt S' a b }) (fun _ => .tuple #[]) [.blk g 3 (flat isV S) tot] (fun x => [.blk g 3 (flat isV x.1) tot]) rfl rfl (List.Perm.refl _) (fun w' hw' => (insSort_holds _ _ w' g tot n cp S a b hw' hb hn hl ha).mono fun e w2 ⟨S', h1, h2, h3⟩ => ⟨⟨S', h2⟩, h1, h3⟩) ?_; rintro ⟨S', hS'⟩)) <;> (refine go ?_; and_intros <;> (try exact trivial) <;> repeat (first | refine fun (Bk : Nat) => ?_ | intro h)))
  refine ret0 Tryz.func110 Tryz.results110 ?_
  exact fun w' hw' => ⟨S', rfl, hS', hw'⟩
end Go.Proofs.YteaccaieaigeaaaGreatDoor
/-
  Contract: the sort of a short slice of the caller's own.
-/
namespace Go.Proofs.YteaccaieaigeaaaGreatDoor
open Go.RowKit Go.Sl Go.Num
theorem pdq0_holds (w0 : World) (M : List Row) (w : World) (v : Value) (L : Int) (hw : Sat w0 M w) :
    Calls Tryz.prog 110 #[v, .int .i64 0, .int .i64 0, .int .i64 L] w fun e w' => e = .returned (.tuple #[]) ∧ Sat w0 M w' := by
  refine enterR [(0, v), (1, .int .i64 0), (2, .int .i64 0), (3, .int .i64 L)] hw Tryz.func110 Tryz.ntmps110 ?_
  all_goals (refine go ?_; and_intros <;> (try exact trivial) <;> repeat (first | refine fun (Bk : Nat) => ?_ | intro h))
  refine J.loop (c := _) () (fun _ => 0) (fun _ => [(0, v), (1, .int .i64 0), (2, .int .i64 0), (3, .int .i64 L), (8, .bool true), (9, .bool true)]) (fun _ => M) (fun _ => True) trivial sbT sbL ?_
  intro _ _ ih
  clear ih
  have hI : ∀ (M : List Row) (w : World), Sat w0 M w → Calls Tryz.prog 136 #[v, .int .i64 0, .int .i64 0] w fun e w' => e = .returned (.tuple #[]) ∧ Sat w0 M w' := fun M w hw => by
    refine enterR [(0, v), (1, .int .i64 0), (2, .int .i64 0)] hw Tryz.func136 Tryz.ntmps136 ?_
    all_goals (refine go ?_; and_intros <;> (try exact trivial) <;> repeat (first | refine fun (Bk : Nat) => ?_ | intro h))
    refine J.loop (c := _) () (fun _ => 0) (fun _ => [(0, v), (1, .int .i64 0), (2, .int .i64 0), (6, .int .i64 1)]) (fun _ => M) (fun _ => True) trivial sbT sbL ?_
    intro _ _ ih
    clear ih
    all_goals (refine go ?_; and_intros <;> (try exact trivial) <;> repeat (first | refine fun (Bk : Nat) => ?_ | intro h))
    refine end0 Tryz.func136 Tryz.results136 ?_
    exact fun w' hw' => ⟨rfl, hw'⟩
  all_goals (refine go ?_; and_intros <;> (try exact trivial) <;> repeat (first | refine fun (Bk : Nat) => ?_ | intro h))
  repeat' ((first | (refine G.cI (v := .tuple #[]) rfl rfl (List.Perm.refl _) (fun w' hw' => hI _ w' hw') ?_)) <;> (refine go ?_; and_intros <;> (try exact trivial) <;> repeat (first | refine fun (Bk : Nat) => ?_ | intro h)))
  refine ret0 Tryz.func110 Tryz.results110 ?_
  exact fun w' hw' => ⟨rfl, hw'⟩
theorem sort12_holds (w0 : World) (M : List Row) (w : World) (au : Option Addr) (n cu : Nat) (S : List Int) (hw : Sat w0 (.own 0 (.slice au n cu) 3 1 n (flat isV S) :: M) w) (hn : n = S.length) (h12 : n ≤ 12) :
    Calls Tryz.prog 75 #[.slice au n cu] w fun e w' => ∃ S', e = .returned (.tuple #[]) ∧ (S'.Perm S ∧ S'.Pairwise (· ≤ ·)) ∧ Sat w0 (.own 0 (.slice au n cu) 3 1 n (flat isV S') :: M) w' := by
  have hlen := fun w' (_ : Below w0.heap.size w0 w') => len_holds n w' (by omega)
  refine enterR [(0, .slice au n cu)] hw Tryz.func75 Tryz.ntmps75 ?_
  rcases Nat.eq_zero_or_pos n with rfl | h0
  · obtain rfl : S = [] := List.length_eq_zero_iff.1 hn.symm
    all_goals (refine go ?_; and_intros <;> (try exact trivial) <;> repeat (first | refine fun (Bk : Nat) => ?_ | intro h))
    repeat' ((first | (refine G.cX (X := { z : Int // 0 ≤ z ∧ z ≤ 1000 }) (v := fun z => .int .i64 z.1) (fun w' hb => (hlen w' hb).mono fun e w2 ⟨z, h1, h2, h3⟩ => ⟨⟨z, h1⟩, h2, h3⟩) ?_; intro z) | (refine G.cI (v := .tuple #[]) rfl rfl (List.Perm.refl _) (fun w' hw' => pdq0_holds _ _ w' _ _ hw') ?_)) <;> (refine go ?_; and_intros <;> (try exact trivial) <;> repeat (first | refine fun (Bk : Nat) => ?_ | intro h)))
    refine end0 Tryz.func75 Tryz.results75 ?_
    exact fun w' hw' => ⟨[], rfl, ⟨.refl _, .nil⟩, hw'⟩
  · refine J.ownOpen RAt.head h0 fun g cap h1 h2 h3 => ?_
    cases h3
    all_goals (refine go ?_; and_intros <;> (try exact trivial) <;> repeat (first | refine fun (Bk : Nat) => ?_ | intro h))
    repeat' ((first | (refine G.cX (X := { z : Int // 0 ≤ z ∧ z ≤ 1000 }) (v := fun z => .int .i64 z.1) (fun w' hb => (hlen w' hb).mono fun e w2 ⟨z, h1, h2, h3⟩ => ⟨⟨z, h1⟩, h2, h3⟩) ?_; intro z) | (refine G.cP (X := { S' // WP S 0 n S' ∧ Srt S' 0 n }) (fun _ => .tuple #[]) [.blk g 3 (flat isV S) (cu * 1)] (fun x => [.blk g 3 (flat isV x.1) (cu * 1)]) rfl rfl (List.Perm.refl _) (fun w' hw' => (pdq12_holds _ _ w' g (cu * 1) n cu S 0 n z.1 hw' (Nat.le_refl _) hn (by omega) (by omega) (by omega)).mono fun e w2 ⟨S', h1, h2, h3⟩ => ⟨⟨S', h2⟩, h1, h3⟩) ?_; rintro ⟨S', hS', hs⟩)) <;> (refine go ?_; and_intros <;> (try exact trivial) <;> repeat (first | refine fun (Bk : Nat) => ?_ | intro h)))
    have hl := hS'.len
    dsimp only
    refine J.blkCut (g := g) (l' := S') n isV_len RAt.head h1 h2 (by omega) (List.take_of_length_le (by omega)) ?_
    refine end0 Tryz.func75 Tryz.results75 ?_
    exact fun w' hw' => ⟨S', rfl, ⟨hS'.per, srt_pair (by rw [show S'.length = n by omega]; exact hs)⟩, hw'⟩
end Go.Proofs.YteaccaieaigeaaaGreatDoor
