/-
  Contracts: the heap sort of the library.
-/
import Derived.Test.YtcdgibkbbcekhaaGreatDoorGR6
set_option linter.unusedVariables false
set_option linter.unusedSimpArgs false
set_option linter.unusedSectionVars false
namespace Go.Proofs.YtcdgibkbbcekhaaGreatDoor
open Go.RowKit Go.Sl Go.Num
/-- The first k of a window are a heap, the others are in order and not less than those. -/
structure HeapI (T : List Int) (a k hi : Nat) : Prop where
  hp : Hp T a 0 k
  so : Srt T (a + k) (a + hi)
  se : ∀ x y, x < k → k ≤ y → y < hi → T.getD (a + x) 0 ≤ T.getD (a + y) 0
theorem HeapI.swap {T : List Int} {a j hi : Nat} (h : HeapI T a (j + 1) hi) (hj : j < hi) (hb : a + hi ≤ T.length) : Hp (swp T a (a + j)) a 1 j := fun r c h1 h2 h3 => by
  have hrc : r < c := by unfold Chd at h2; omega
  rw [swp_at (by omega) (by omega), swp_at (by omega) (by omega), if_neg (by omega), if_neg (by omega), if_neg (by omega), if_neg (by omega)]
  exact h.hp r c (Nat.zero_le _) h2 (by omega)
theorem HeapI.step {T U : List Int} {a j hi : Nat} (h : HeapI T a (j + 1) hi) (hj : j < hi) (hb : a + hi ≤ T.length) (hw : WP (swp T a (a + j)) a (a + j) U) (hU : Hp U a 0 j) : HeapI U a j hi := by
  have e : ∀ z, j < z → U.getD (a + z) 0 = T.getD (a + z) 0 := fun z hz => by
    rw [hw.out _ (.inr (by omega))]
    by_cases hz2 : a + z < T.length
    · rw [swp_at (by omega) (by omega), if_neg (by omega), if_neg (by omega)]
    · rw [List.getD_eq_getElem?_getD, List.getD_eq_getElem?_getD, List.getElem?_eq_none (by rw [swp_len]; omega), List.getElem?_eq_none (by omega)]
  have ej : U.getD (a + j) 0 = T.getD a 0 := by
    rw [hw.out _ (.inr (by omega)), swp_at (by omega) (by omega)]
    split
    · rename_i h0; rw [show a + j = a by omega]
    · rw [if_pos rfl]
  have top := fun c (hc : c < j + 1) => h.hp.top (j + 1) c (by omega) hc
  have hx : ∀ z, a ≤ z → z < a + j → U.getD z 0 ≤ T.getD a 0 := hw.all (by rw [swp_len]; omega) (P := fun x => x ≤ T.getD a 0) fun z h1 h2 => by
    obtain ⟨c, rfl⟩ : ∃ c, z = a + c := ⟨z - a, by omega⟩
    show (swp T a (a + j)).getD (a + c) 0 ≤ T.getD a 0
    rw [swp_at (by omega) (by omega)]
    split
    · exact top j (by omega)
    · split
      · exact Int.le_refl _
      · exact top c (by omega)
  have hxs : ∀ z, a ≤ z → z < a + j → ∀ y, j < y → y < hi → U.getD z 0 ≤ T.getD (a + y) 0 := fun z h1 h2 y h3 h4 => by
    have := h.se 0 y (by omega) (by omega) h4
    exact Int.le_trans (hx z h1 h2) this
  refine ⟨hU, fun x y h1 h2 h3 => ?_, fun x y h1 h2 h3 => ?_⟩
  · obtain ⟨y, rfl⟩ : ∃ c, y = a + c := ⟨y - a, by omega⟩
    obtain ⟨x, rfl⟩ : ∃ c, x = a + c := ⟨x - a, by omega⟩
    rw [e y (by omega)]
    by_cases hxj : x = j
    · subst hxj; rw [ej]; exact h.se 0 y (by omega) (by omega) (by omega)
    · rw [e x (by omega)]; exact h.so (a + x) (a + y) (by omega) h2 h3
  · by_cases hyj : y = j
    · subst hyj; rw [ej]; exact hx _ (by omega) (by omega)
    · rw [e y (by omega)]; exact hxs _ (by omega) (by omega) y (by omega) h3
set_option maxHeartbeats 4000000 in
theorem heapSort_holds (w0 : World) (M : List Row) (w : World) (g tot n cp : Nat) (S : List Int) (a hi : Nat) (hw : Sat w0 (.blk g 3 (flat isV S) tot :: M) w) (hb : a + hi ≤ n) (hn : n = S.length) (hl : n ≤ 1000000000) (h0 : 0 < hi) :
    Calls Tryz.prog 180 #[.slice (some ⟨g, 0, none⟩) n cp, .int .i64 a, .int .i64 ((a + hi : Nat) : Int)] w fun e w' => ∃ S', e = .returned (.tuple #[]) ∧ (WP S a (a + hi) S' ∧ Srt S' a (a + hi)) ∧ Sat w0 (.blk g 3 (flat isV S') tot :: M) w' := by
  refine enterR [(0, .slice (some ⟨g, 0, none⟩) n cp), (1, .int .i64 a), (2, .int .i64 ((a + hi : Nat) : Int))] hw Tryz.func180 Tryz.ntmps180 ?_
  all_goals (refine go ?_; and_intros <;> (try exact trivial) <;> repeat (first | refine fun (Bk : Nat) => ?_ | intro h))
  rw [show (((a + hi : Nat) : Int) - a) = ((hi : Nat) : Int) by omega, show ((hi : Int) - 1) / 2 = (((hi - 1) / 2 + 1 : Nat) : Int) - 1 by omega]
  refine J.loop (c := _) (((hi - 1) / 2 + 1, S) : Nat × List Int) (fun s => s.1) (fun s => [(0, .slice (some ⟨g, 0, none⟩) n cp), (6, .int .i64 a), (7, .int .i64 0), (8, .int .i64 hi), (9, .int .i64 ((s.1 : Int) - 1))]) (fun s => .blk g 3 (flat isV s.2) tot :: M) (fun s => s.1 ≤ (hi - 1) / 2 + 1 ∧ WP S a (a + hi) s.2 ∧ Hp s.2 a s.1 hi) ?_ sbT sbL ?_
  · exact ⟨Nat.le_refl _, WP.refl _ _ _, fun r c h1 h2 h3 => by unfold Chd at h2; dsimp only at h1; omega⟩
  intro ⟨k, T⟩ ⟨k1, v1, v2⟩ ih
  dsimp only at k1 v1 v2 ⊢
  have hlt := v1.len
  by_cases hk : 0 < k
  · obtain ⟨j, rfl⟩ : ∃ j, k = j + 1 := ⟨k - 1, by omega⟩
    rw [show ((j + 1 : Nat) : Int) - 1 = (j : Int) by omega]
    all_goals (refine go ?_; and_intros <;> (try exact trivial) <;> repeat (first | refine fun (Bk : Nat) => ?_ | intro h))
    repeat' ((first | (refine G.cP (g := 194) (X := { S' // WP T a (a + hi) S' ∧ Hp S' a j hi }) (fun _ => .tuple #[]) [.blk g 3 (flat isV T) tot] (fun x => [.blk g 3 (flat isV x.1) tot]) rfl rfl (by (repeat (first | exact List.Perm.refl _ | (refine pickT (by (repeat (first | exact Pick.head | apply Pick.tail))) ?_)))) ?_ ?_; exact fun w' hw' => (siftDown_holds _ _ w' g tot n cp T a j hi hw' hb (by omega) hl (by omega) v2).mono fun e w2 ⟨S', h1, h2, h3⟩ => ⟨⟨S', h2⟩, h1, h3⟩; rintro ⟨U, u1, u2⟩; dsimp only)) <;> (refine go ?_; and_intros <;> (try exact trivial) <;> repeat (first | refine fun (Bk : Nat) => ?_ | intro h)))
    exact J.fin (ih (j, U) ⟨by dsimp only; omega, v1.trans u1, u2⟩ (by dsimp only; omega))
  obtain rfl : k = 0 := by omega
  clear ih
  all_goals (refine go ?_; and_intros <;> (try exact trivial) <;> repeat (first | refine fun (Bk : Nat) => ?_ | intro h))
  have hI : HeapI T a hi hi := ⟨v2, fun x y h1 h2 h3 => by omega, fun x y h1 h2 h3 => by omega⟩
  refine J.loop (c := _) ((hi, T) : Nat × List Int) (fun s => s.1) (fun s => [(0, .slice (some ⟨g, 0, none⟩) n cp), (6, .int .i64 a), (7, .int .i64 0), (10, .int .i64 ((s.1 : Int) - 1))]) (fun s => .blk g 3 (flat isV s.2) tot :: M) (fun s => s.1 ≤ hi ∧ WP S a (a + hi) s.2 ∧ HeapI s.2 a s.1 hi) ?_ sbT sbL ?_
  · exact ⟨Nat.le_refl _, v1, hI⟩
  clear v1 v2 hI hlt hk k1
  intro ⟨k, T⟩ ⟨k1, v1, v2⟩ ih
  dsimp only at k1 v1 v2 ⊢
  have hlt := v1.len
  by_cases hk : 0 < k
  · obtain ⟨j, rfl⟩ : ∃ j, k = j + 1 := ⟨k - 1, by omega⟩
    rw [show ((j + 1 : Nat) : Int) - 1 = (j : Int) by omega]
    have hsw := v2.swap (by omega) (by omega)
    have hst := fun U (h1 : WP (swp T a (a + j)) a (a + j) U) (h2 : Hp U a 0 j) => v2.step (by omega) (by omega) h1 h2
    have w2 := WP.swp (S := T) (a := a) (b := a + hi) (x := a) (y := a + j) ⟨by omega, by omega⟩ ⟨by omega, by omega⟩ (by omega)
    have ih := fun U h1 h2 => ih (j, U) ⟨by dsimp only; omega, v1.trans (w2.trans (h1.mono (Nat.le_refl _) (by omega))), hst U h1 h2⟩ (by dsimp only; omega)
    have hsl : (swp T a (a + j)).length = T.length := swp_len _ _ _
    have q1 := gI (S := T) (j := a) (by omega)
    have q2 := gI (S := T) (j := a + j) (by omega)
    have r1 := sI (S := T) (j := a) (v := T.getD (a + j) 0) (by omega)
    have r2 := sI (S := T.set a (T.getD (a + j) 0)) (j := a + j) (v := T.getD a 0) (by rw [List.length_set]; omega)
    have l1 : 0 + a * 1 < (flat isV T).length := by rw [isLen]; omega
    have l2 : 0 + (a + j) * 1 < (flat isV (T.set a (T.getD (a + j) 0))).length := by rw [isLen, List.length_set]; omega
    clear v1 v2 w2 hst
    dsimp only [swp] at ih hsw hsl
    generalize T.getD a 0 = x at *
    generalize T.getD (a + j) 0 = y at *
    generalize T.set a y = S3 at *
    generalize S3.set (a + j) x = S4 at *
    all_goals (refine goR ?_; and_intros <;> (try exact trivial) <;> repeat (first | refine fun (Bk : Nat) => ?_ | intro h))
    repeat' ((first | (apply G.ld; rfl; (apply LdV.one; exact CellV.blk (by exact mm) q1); rfl) | (apply G.ld; rfl; (apply LdV.one; exact CellV.blk (by exact mm) q2); rfl) | (apply J.regX 0 [2, 3, 4, 5] (.q 0 <| .q 1 <| .q 2 <| .q 3 <| .q 4 <| .q 5 <| .q 6 <| .q 7 <| .q 8 <| .q 9 <| .q 10 <| .q 11 <| .q 12 <| .q 13 <| .q 14 <| .q 15 <| .q 16 <| .e 17 <| .q 18 <| .e 19 <| .nil); exact Tryz.mixed; decide +kernel) | (apply G.s1n (n := 0); rfl; rfl; rfl; exact rfl; exact ⟨rfl, rfl⟩; exact l1; exact r1) | (apply G.s1n (n := 0); rfl; rfl; rfl; exact rfl; exact ⟨rfl, rfl⟩; exact l2; exact r2) | (apply G.ix (i := a + j); rfl; rfl; omega; omega; rfl) | (apply J.regQ; exact Tryz.mixed; decide +kernel) | (apply J.regL'; exact Tryz.mixed; decide +kernel)) <;> (refine goR ?_; and_intros <;> (try exact trivial) <;> repeat (first | refine fun (Bk : Nat) => ?_ | intro h)))
    dsimp only [List.set]
    all_goals (refine go ?_; and_intros <;> (try exact trivial) <;> repeat (first | refine fun (Bk : Nat) => ?_ | intro h))
    repeat' ((first | (refine G.cP (g := 194) (X := { S' // WP S4 a (a + j) S' ∧ Hp S' a 0 j }) (fun _ => .tuple #[]) [.blk g 3 (flat isV S4) tot] (fun x => [.blk g 3 (flat isV x.1) tot]) rfl rfl (by (repeat (first | exact List.Perm.refl _ | (refine pickT (by (repeat (first | exact Pick.head | apply Pick.tail))) ?_)))) ?_ ?_; exact fun w' hw' => (siftDown_holds _ _ w' g tot n cp S4 a 0 j hw' (by omega) (by omega) hl (by omega) hsw).mono fun e w2 ⟨S', h1, h2, h3⟩ => ⟨⟨S', h2⟩, h1, h3⟩; rintro ⟨U, u1, u2⟩; dsimp only)) <;> (refine go ?_; and_intros <;> (try exact trivial) <;> repeat (first | refine fun (Bk : Nat) => ?_ | intro h)))
    exact J.fin (ih U u1 u2)
  obtain rfl : k = 0 := by omega
  clear ih
  have hso := v2.so
  all_goals (refine go ?_; and_intros <;> (try exact trivial) <;> repeat (first | refine fun (Bk : Nat) => ?_ | intro h))
  first
    | (refine end0 Tryz.func180 Tryz.results180 ?_; exact fun w' hw' => ⟨T, rfl, ⟨v1, hso⟩, hw'⟩)
    | (refine ret0 Tryz.func180 Tryz.results180 ?_; exact fun w' hw' => ⟨T, rfl, ⟨v1, hso⟩, hw'⟩)
end Go.Proofs.YtcdgibkbbcekhaaGreatDoor
/-
  Unsigned words, whatever they are; the random numbers of the library's sort.
-/
namespace Go.Sl
open Go.RowKit
variable {C : Ctx} {st : List (Nat × Value)} {M : List Row} {k : List Item} {q q' : Md} {all rest : List Oper} {d : Nat} {ty : TypeId} {pos : String} {after : Array Edge} {gd : Option (Nat × Bool)}
theorem wrapU (z : Int) : ∃ m : Nat, m < 18446744073709551616 ∧ IntKind.u64.wrap z = (m : Int) := by
  refine ⟨(z % 18446744073709551616).toNat, by omega, ?_⟩
  simp [IntKind.wrap, IntKind.bits, IntKind.signed]; omega
theorem G.xorU {t : TypeId} {x y : Operand} {yt : TypeId} {a b : Int} (hx : evS st x = some (.int .u64 a)) (hy : evS st y = some (.int .u64 b)) (hs : sideB all st gd d C.N q.calm = some q') (h : ∀ m : Nat, m < 18446744073709551616 → G q' C all ((d, .int .u64 m) :: st) M rest k) :
    G q C all st M ({ dst := some d, op := .binOp .xor t x y yt, type := ty, pos, after, guard := gd } :: rest) k := by
  obtain ⟨g1, g2, g3⟩ := sideB_ok hs
  obtain ⟨m, h1, h2⟩ := wrapU ((BitVec.ofInt IntKind.u64.bits a ^^^ BitVec.ofInt IntKind.u64.bits b).toNat : Int)
  refine G.op (OpV.bin hx hy fun w => ?_) g1 rfl g2 g3 (h m h1)
  rw [← h2]; rfl
theorem G.shlU {t : TypeId} {x y : Operand} {yt : TypeId} {k2 : IntKind} {a b : Int} {n : Nat} (hx : evS st x = some (.int .u64 a)) (hy : evS st y = some (.int k2 b)) (hn : b = (n : Int)) (hs : sideB all st gd d C.N q.calm = some q') (h : ∀ m : Nat, m < 18446744073709551616 → G q' C all ((d, .int .u64 m) :: st) M rest k) :
    G q C all st M ({ dst := some d, op := .binOp .shl t x y yt, type := ty, pos, after, guard := gd } :: rest) k := by
  obtain ⟨g1, g2, g3⟩ := sideB_ok hs
  obtain ⟨m, h1, h2⟩ := wrapU (a * 2 ^ (min n IntKind.u64.bits))
  exact G.shlK hx hy hn h2 g1 g2 g3 (h m h1)
theorem G.shrU {t : TypeId} {x y : Operand} {yt : TypeId} {k2 : IntKind} {a : Nat} {b : Int} {n : Nat} (hx : evS st x = some (.int .u64 (a : Int))) (hy : evS st y = some (.int k2 b)) (hn : b = (n : Int)) (ha : a < 18446744073709551616) (hs : sideB all st gd d C.N q.calm = some q') (h : ∀ m : Nat, m < 18446744073709551616 → G q' C all ((d, .int .u64 m) :: st) M rest k) :
    G q C all st M ({ dst := some d, op := .binOp .shr t x y yt, type := ty, pos, after, guard := gd } :: rest) k := by
  obtain ⟨g1, g2, g3⟩ := sideB_ok hs
  refine G.shrK hx hy hn (m := ((a / 2 ^ (min n IntKind.u64.bits) : Nat) : Int)) ?_ g1 g2 g3 (h _ (Nat.lt_of_le_of_lt (Nat.div_le_self _ _) ha))
  rw [Int.fdiv_eq_ediv_of_nonneg _ (Int.le_of_lt (Int.pow_pos (by decide)))]; rfl
end Go.Sl
namespace Go.Proofs.YtcdgibkbbcekhaaGreatDoor
open Go.RowKit Go.Sl Go.Num
theorem next_holds (w0 : World) (M : List Row) (w : World) (br v : Nat) (hw : Sat w0 (.blk br 240 [.int .u64 (v : Nat)] 1 :: M) w) (hv : v < 18446744073709551616) :
    Calls Tryz.prog 196 #[.pointer (some ⟨br, 0, none⟩)] w fun e w' => ∃ u z : Nat, (u < 18446744073709551616 ∧ z < 18446744073709551616) ∧ e = .returned (.int .u64 z) ∧ Sat w0 (.blk br 240 [.int .u64 (u : Nat)] 1 :: M) w' := by
  refine enterR [(0, .pointer (some ⟨br, 0, none⟩))] hw Tryz.func196 Tryz.ntmps196 ?_
  all_goals (refine goR ?_; and_intros <;> (try exact trivial) <;> repeat (first | refine fun (Bk : Nat) => ?_ | intro h))
  repeat' ((first | (apply G.xorU; rfl; rfl; rfl; intro mx hmx) | (apply G.shlU (n := 13); rfl; rfl; rfl; rfl; intro my hmy) | (apply G.shlU (n := 17); rfl; rfl; rfl; rfl; intro mz hmz) | (apply G.shrU (n := 7); rfl; rfl; rfl; omega; rfl; intro mw hmw) | (apply J.regA (.q 0 <| .q 1 <| .q 2 <| .q 3 <| .q 4 <| .q 5 <| .q 6 <| .q 7 <| .q 8 <| .r 9 <| .nil); exact Tryz.mixed; decide +kernel) | (apply J.regQ; exact Tryz.mixed; decide +kernel) | (apply J.regL'; exact Tryz.mixed; decide +kernel)) <;> (refine goR ?_; and_intros <;> (try exact trivial) <;> repeat (first | refine fun (Bk : Nat) => ?_ | intro h)))
  refine ret1 Tryz.func196 Tryz.results196 ?_
  intro w' hw'
  exact ⟨_, _, ⟨hmx, hmx⟩, rfl, hw'⟩
end Go.Proofs.YtcdgibkbbcekhaaGreatDoor
/-
  Contracts: a power of two that is at most twice a number; patterns are broken.
-/
namespace Go.Sl
open Go.RowKit
variable {C : Ctx} {st : List (Nat × Value)} {M : List Row} {k : List Item} {q q' : Md} {all rest : List Oper} {d : Nat} {ty : TypeId} {pos : String} {after : Array Edge} {gd : Option (Nat × Bool)}
/-- A byte of a string, with what holds of all its bytes. -/
theorem G.sxp {T : TypeId} {x y : Operand} {l : List UInt8} {ki : IntKind} {e : Int} {i : Nat} (P : Nat → Nat → Bool) (hx : evS st x = some (.string (bs l))) (hy : evS st y = some (.int ki e)) (he : e = (i : Int)) (hi : i < l.length) (hP : (List.range l.length).all (fun i => P i ((l.getD i 0).toNat)) = true) [hT : TString C.P T] (hs : sideB all st gd d C.N q.calm = some q') (h : ∀ t : Nat, t < 256 → P i t = true → G q' C all ((d, .int .u8 t) :: st) M rest k) :
    G q C all st M ({ dst := some d, op := .index T x y, type := ty, pos, after, guard := gd } :: rest) k := by
  refine G.sx hx hy he (List.getElem?_eq_getElem hi) hs (h _ (UInt8.toNat_lt _) ?_)
  have := List.all_eq_true.1 hP i (List.mem_range.2 hi)
  rw [List.getD_eq_getElem?_getD, List.getElem?_eq_getElem hi] at this
  exact this
end Go.Sl
namespace Go.Proofs.YtcdgibkbbcekhaaGreatDoor
open Go.RowKit Go.Sl Go.Num
theorem len64p_holds (x : Nat) (w : World) (h0 : 0 < x) (hx : x < 4294967296) : Calls Tryz.prog 189 #[.int .u64 x] w fun e w' => ∃ z : Nat, (z ≤ 40 ∧ 2 ^ z ≤ 2 * x) ∧ e = .returned (.int .i64 z) ∧ Below w.heap.size w w' := by
  refine enterA [(0, .int .u64 x)] Tryz.func189 Tryz.ntmps189 ?_
  all_goals (refine go ?_; and_intros <;> (try exact trivial) <;> repeat (first | refine fun (Bk : Nat) => ?_ | intro h))
  repeat' ((first | (apply G.shrK (n := 16) (k1 := .u64); rfl; rfl; rfl; exact shr_n (k := 65536) rfl rfl; rfl; rfl; rfl) | (apply G.shrK (n := 8) (k1 := .u64); rfl; rfl; rfl; exact shr_n (k := 256) rfl rfl; rfl; rfl; rfl) | (apply G.sxp (fun i t => decide (t ≤ 8) && (decide (i = 0) || decide (2 ^ t ≤ 2 * i))); rfl; rfl; rfl; exact Nat.lt_of_lt_of_eq (m := 256) (by omega) (by decide +kernel); decide +kernel; rfl; intro tt ht hp)) <;> (refine go ?_; and_intros <;> (try exact trivial) <;> repeat (first | refine fun (Bk : Nat) => ?_ | intro h)))
  all_goals
    simp only [Bool.and_eq_true, Bool.or_eq_true, decide_eq_true_eq] at hp
    obtain ⟨hp1, hp2⟩ := hp
    have hp2 := hp2.resolve_left (by omega)
    refine ret1 Tryz.func189 Tryz.results189 ?_
    intro w' hw'
    have e8 : 2 ^ (8 + tt) = 256 * 2 ^ tt := by rw [Nat.pow_add]
    have e16 : 2 ^ (16 + tt) = 65536 * 2 ^ tt := by rw [Nat.pow_add]
    have e24 : 2 ^ (24 + tt) = 16777216 * 2 ^ tt := by rw [Nat.pow_add]
    first
      | exact ⟨tt, ⟨by omega, by omega⟩, congrArg Ending.returned (congrArg (Value.int .i64) (by omega)), hw'.below⟩
      | exact ⟨8 + tt, ⟨by omega, by omega⟩, congrArg Ending.returned (congrArg (Value.int .i64) (by omega)), hw'.below⟩
      | exact ⟨16 + tt, ⟨by omega, by omega⟩, congrArg Ending.returned (congrArg (Value.int .i64) (by omega)), hw'.below⟩
      | exact ⟨24 + tt, ⟨by omega, by omega⟩, congrArg Ending.returned (congrArg (Value.int .i64) (by omega)), hw'.below⟩
theorem lenp_holds (x : Nat) (w : World) (h0 : 0 < x) (hx : x < 4294967296) : Calls Tryz.prog 167 #[.int .u64 x] w fun e w' => ∃ z : Nat, (z ≤ 40 ∧ 2 ^ z ≤ 2 * x) ∧ e = .returned (.int .i64 z) ∧ Below w.heap.size w w' := by
  have hl := fun w' (_ : Below w.heap.size w w') => len64p_holds x w' h0 hx
  refine enterA [(0, .int .u64 x)] Tryz.func167 Tryz.ntmps167 ?_
  all_goals (refine go ?_; and_intros <;> (try exact trivial) <;> repeat (first | refine fun (Bk : Nat) => ?_ | intro h))
  repeat' ((first | (refine G.cX (X := { z : Nat // z ≤ 40 ∧ 2 ^ z ≤ 2 * x }) (v := fun z => .int .i64 z.1) (fun w' hb => (hl w' hb).mono fun e w2 ⟨z, h1, h2, h3⟩ => ⟨⟨z, h1⟩, h2, h3⟩) ?_; intro z)) <;> (refine go ?_; and_intros <;> (try exact trivial) <;> repeat (first | refine fun (Bk : Nat) => ?_ | intro h)))
  refine ret1 Tryz.func167 Tryz.results167 fun w' hw => ⟨_, z.2, rfl, hw.below⟩
theorem shl1 {z : Nat} (hz : z ≤ 40) : IntKind.u64.wrap (1 * 2 ^ (min z IntKind.u64.bits)) = ((2 ^ z : Nat) : Int) := by
  have h1 : min z IntKind.u64.bits = z := Nat.min_eq_left (Nat.le_trans hz (by decide))
  have h2 : 2 ^ z ≤ 2 ^ 40 := Nat.pow_le_pow_right (by decide) hz
  have h3 : (2 : Int) ^ z = ((2 ^ z : Nat) : Int) := by simp
  rw [h1, Int.one_mul, h3]
  generalize 2 ^ z = p at *
  simp [IntKind.wrap, IntKind.bits, IntKind.signed]; omega
theorem pow2_holds (x : Nat) (w : World) (h0 : 0 < x) (hx : x < 4294967296) : Calls Tryz.prog 195 #[.int .i64 x] w fun e w' => ∃ m : Nat, (0 < m ∧ m ≤ 2 * x) ∧ e = .returned (.int .u64 m) ∧ Below w.heap.size w w' := by
  have hl := fun w' (_ : Below w.heap.size w w') => lenp_holds x w' h0 hx
  refine enterA [(0, .int .i64 x)] Tryz.func195 Tryz.ntmps195 ?_
  all_goals (refine go ?_; and_intros <;> (try exact trivial) <;> repeat (first | refine fun (Bk : Nat) => ?_ | intro h))
  repeat' ((first | (refine G.cX (X := { z : Nat // z ≤ 40 ∧ 2 ^ z ≤ 2 * x }) (v := fun z => .int .i64 z.1) (fun w' hb => (hl w' hb).mono fun e w2 ⟨z, h1, h2, h3⟩ => ⟨⟨z, h1⟩, h2, h3⟩) ?_; rintro ⟨z, hz1, hz2⟩; dsimp only) | (apply G.shlK (n := z); rfl; rfl; rfl; exact shl1 hz1; rfl; rfl; rfl)) <;> (refine go ?_; and_intros <;> (try exact trivial) <;> repeat (first | refine fun (Bk : Nat) => ?_ | intro h)))
  refine ret1 Tryz.func195 Tryz.results195 ?_
  intro w' hw'
  exact ⟨2 ^ z, ⟨Nat.pos_of_ne_zero (by simp), hz2⟩, rfl, hw'.below⟩
end Go.Proofs.YtcdgibkbbcekhaaGreatDoor
/-
  Contracts: patterns are broken.
-/
namespace Go.Sl
open Go.RowKit
variable {C : Ctx} {st : List (Nat × Value)} {M : List Row} {k : List Item} {q q' : Md} {all rest : List Oper} {d : Nat} {ty : TypeId} {pos : String} {after : Array Edge} {gd : Option (Nat × Bool)}
/-- A mask: what is left is not greater than it. -/
theorem G.andU {t : TypeId} {x y : Operand} {yt : TypeId} {a : Int} {b : Nat} (hx : evS st x = some (.int .u64 a)) (hy : evS st y = some (.int .u64 (b : Int))) (hb : b < 18446744073709551616) (hs : sideB all st gd d C.N q.calm = some q') (h : ∀ m : Nat, m ≤ b → G q' C all ((d, .int .u64 m) :: st) M rest k) :
    G q C all st M ({ dst := some d, op := .binOp .and t x y yt, type := ty, pos, after, guard := gd } :: rest) k := by
  obtain ⟨g1, g2, g3⟩ := sideB_ok hs
  have e2 : (BitVec.ofInt IntKind.u64.bits (b : Int)).toNat = b := by
    show (BitVec.ofInt 64 (b : Int)).toNat = b
    rw [BitVec.ofInt_natCast, BitVec.toNat_ofNat]; omega
  have hle : (BitVec.ofInt IntKind.u64.bits a &&& BitVec.ofInt IntKind.u64.bits (b : Int)).toNat ≤ b := by
    rw [BitVec.toNat_and, e2]; exact Nat.and_le_right
  refine G.andK hx hy (m := (((BitVec.ofInt IntKind.u64.bits a &&& BitVec.ofInt IntKind.u64.bits (b : Int)).toNat : Nat) : Int)) ?_ g1 g2 g3 (h _ hle)
  generalize (BitVec.ofInt IntKind.u64.bits a &&& BitVec.ofInt IntKind.u64.bits (b : Int)).toNat = p at *
  simp [IntKind.wrap, IntKind.bits, IntKind.signed]; omega
end Go.Sl
namespace Go.Proofs.YtcdgibkbbcekhaaGreatDoor
open Go.RowKit Go.Sl Go.Num
set_option maxHeartbeats 4000000 in
theorem break_holds (w0 : World) (M : List Row) (w : World) (g tot n cp : Nat) (S : List Int) (a l : Nat) (hw : Sat w0 (.blk g 3 (flat isV S) tot :: M) w) (hb : a + l ≤ n) (hn : n = S.length) (hl : n ≤ 1000000000) (h8 : 8 ≤ l) :
    Calls Tryz.prog 181 #[.slice (some ⟨g, 0, none⟩) n cp, .int .i64 a, .int .i64 ((a + l : Nat) : Int)] w fun e w' => ∃ S', e = .returned (.tuple #[]) ∧ WP S a (a + l) S' ∧ Sat w0 (.blk g 3 (flat isV S') tot :: M) w' := by
  have hp2 := fun w' (_ : Below w0.heap.size w0 w') => pow2_holds l w' (by omega) (by omega)
  refine enterR [(0, .slice (some ⟨g, 0, none⟩) n cp), (1, .int .i64 a), (2, .int .i64 ((a + l : Nat) : Int))] hw Tryz.func181 Tryz.ntmps181 ?_
  all_goals (refine go ?_; and_intros <;> (try exact trivial) <;> repeat (first | refine fun (Bk : Nat) => ?_ | intro h))
  revert Bk; intro Bs
  rw [show (((a + l : Nat) : Int) - a) = ((l : Nat) : Int) by omega]
  all_goals (refine go ?_; and_intros <;> (try exact trivial) <;> repeat (first | refine fun (Bk : Nat) => ?_ | intro h))
  repeat' ((first | (refine G.cX (X := { m : Nat // 0 < m ∧ m ≤ 2 * l }) (v := fun m => .int .u64 m.1) (fun w' hb => (hp2 w' hb).mono fun e w2 ⟨z, h1, h2, h3⟩ => ⟨⟨z, h1⟩, h2, h3⟩) ?_; rintro ⟨m, hm1, hm2⟩; dsimp only)) <;> (refine go ?_; and_intros <;> (try exact trivial) <;> repeat (first | refine fun (Bk : Nat) => ?_ | intro h)))
  obtain ⟨p0, hp0⟩ : ∃ p, l / 4 * 2 = p + 1 := ⟨l / 4 * 2 - 1, by omega⟩
  rw [show ((a : Int) + (l : Int) / 4 * 2 - 1) = ((a + (p0 + 0) : Nat) : Int) by omega]
  refine J.loop (c := _) ((0, l, S) : Nat × Nat × List Int) (fun s => 3 - s.1) (fun s => [(0, .slice (some ⟨g, 0, none⟩) n cp), (1, .int .i64 a), (6, .int .i64 l), (7, .pointer (some ⟨Bs, 0, none⟩)), (8, .int .u64 m), (9, .int .i64 ((a + (p0 + s.1) : Nat) : Int))]) (fun s => .blk Bs 240 [.int .u64 (s.2.1 : Nat)] 1 :: .blk g 3 (flat isV s.2.2) tot :: M) (fun s => s.1 ≤ 3 ∧ s.2.1 < 18446744073709551616 ∧ WP S a (a + l) s.2.2) ?_ sbT sbL ?_
  · exact ⟨Nat.zero_le _, by dsimp only; omega, WP.refl _ _ _⟩
  intro ⟨i, v, T⟩ ⟨i1, v1, v2⟩ ih
  dsimp only at i1 v1 v2 ⊢
  have hlt := v2.len
  by_cases hi : i < 3
  case neg =>
    clear ih
    all_goals (refine go ?_; and_intros <;> (try exact trivial) <;> repeat (first | refine fun (Bk : Nat) => ?_ | intro h))
    first
      | (refine end0 Tryz.func181 Tryz.results181 ?_; exact fun w' hw' => ⟨T, rfl, v2, hw'.forget (List.sublist_cons_self _ _)⟩)
      | (refine ret0 Tryz.func181 Tryz.results181 ?_; exact fun w' hw' => ⟨T, rfl, v2, hw'.forget (List.sublist_cons_self _ _)⟩)
  all_goals (refine go ?_; and_intros <;> (try exact trivial) <;> repeat (first | refine fun (Bk : Nat) => ?_ | intro h))
  repeat' ((first | (refine G.cP (g := 196) (X := { t : Nat × Nat // t.1 < 18446744073709551616 ∧ t.2 < 18446744073709551616 }) (fun t => .int .u64 t.1.2) [.blk Bs 240 [.int .u64 (v : Nat)] 1] (fun t => [.blk Bs 240 [.int .u64 (t.1.1 : Nat)] 1]) rfl rfl (by (repeat (first | exact List.Perm.refl _ | (refine pickT (by (repeat (first | exact Pick.head | apply Pick.tail))) ?_)))) ?_ ?_; exact fun w' hw' => (next_holds _ _ w' Bs v hw' v1).mono fun e w2 ⟨u, z, h1, h2, h3⟩ => ⟨⟨(u, z), h1⟩, h2, h3⟩; rintro ⟨⟨u, z⟩, u1, u2⟩; dsimp only at u1 u2 ⊢)) <;> (refine go ?_; and_intros <;> (try exact trivial) <;> repeat (first | refine fun (Bk : Nat) => ?_ | intro h)))
  rw [show ((m : Int) - 1) = ((m - 1 : Nat) : Int) by omega]
  dsimp only [List.cons_append, List.nil_append]
  all_goals (refine go ?_; and_intros <;> (try exact trivial) <;> repeat (first | refine fun (Bk : Nat) => ?_ | intro h))
  repeat' ((first | (apply G.andU; rfl; rfl; omega; rfl; intro o ho)) <;> (refine go ?_; and_intros <;> (try exact trivial) <;> repeat (first | refine fun (Bk : Nat) => ?_ | intro h)))
  · skip
    have hol : o - l < l := by omega
    have w2 := v2.trans (WP.swp (S := T) (a := a) (b := a + l) (x := a + (p0 + i)) (y := a + (o - l)) ⟨by omega, by omega⟩ ⟨by omega, by omega⟩ (by omega))
    have ih := ih (i + 1, u, _) ⟨by dsimp only; omega, u1, w2⟩ (by dsimp only; omega)
    have q1 := gI (S := T) (j := a + (p0 + i)) (by omega)
    have q2 := gI (S := T) (j := a + (o - l)) (by omega)
    have r1 := sI (S := T) (j := a + (p0 + i)) (v := T.getD (a + (o - l)) 0) (by omega)
    have r2 := sI (S := T.set (a + (p0 + i)) (T.getD (a + (o - l)) 0)) (j := a + (o - l)) (v := T.getD (a + (p0 + i)) 0) (by rw [List.length_set]; omega)
    have l1 : 0 + (a + (p0 + i)) * 1 < (flat isV T).length := by rw [isLen]; omega
    have l2 : 0 + (a + (o - l)) * 1 < (flat isV (T.set (a + (p0 + i)) (T.getD (a + (o - l)) 0))).length := by rw [isLen, List.length_set]; omega
    dsimp only [swp] at ih
    clear v2 w2
    generalize T.getD (a + (p0 + i)) 0 = x at *
    generalize T.getD (a + (o - l)) 0 = y at *
    generalize T.set (a + (p0 + i)) y = S3 at *
    generalize S3.set (a + (o - l)) x = S4 at *
    all_goals (refine goR ?_; and_intros <;> (try exact trivial) <;> repeat (first | refine fun (Bk : Nat) => ?_ | intro h))
    repeat' ((first | (apply G.ld; rfl; (apply LdV.one; exact CellV.blk (by exact mm) q1); rfl) | (apply G.ld; rfl; (apply LdV.one; exact CellV.blk (by exact mm) q2); rfl) | (apply J.regX 1 [2, 3, 4, 5] (.q 0 <| .q 1 <| .q 2 <| .q 3 <| .q 4 <| .q 5 <| .q 6 <| .q 7 <| .q 8 <| .q 9 <| .q 10 <| .q 11 <| .q 12 <| .q 13 <| .q 14 <| .q 15 <| .q 16 <| .e 17 <| .q 18 <| .e 19 <| .nil); exact Tryz.mixed; decide +kernel) | (apply G.s1n (n := 1); rfl; rfl; rfl; exact rfl; exact ⟨rfl, rfl⟩; exact l1; exact r1) | (apply G.s1n (n := 1); rfl; rfl; rfl; exact rfl; exact ⟨rfl, rfl⟩; exact l2; exact r2) | (apply G.ix (i := a + (p0 + i)); rfl; rfl; omega; omega; rfl) | (apply G.ix (i := a + (o - l)); rfl; rfl; omega; omega; rfl) | (apply J.regQ; exact Tryz.mixed; decide +kernel) | (apply J.regL'; exact Tryz.mixed; decide +kernel)) <;> (refine goR ?_; and_intros <;> (try exact trivial) <;> repeat (first | refine fun (Bk : Nat) => ?_ | intro h)))
    rw [show ((a + (p0 + i) : Nat) : Int) + 1 = ((a + (p0 + (i + 1)) : Nat) : Int) by omega]
    exact J.fin ih
  · skip
    have hol : o < l := by omega
    have w2 := v2.trans (WP.swp (S := T) (a := a) (b := a + l) (x := a + (p0 + i)) (y := a + (o)) ⟨by omega, by omega⟩ ⟨by omega, by omega⟩ (by omega))
    have ih := ih (i + 1, u, _) ⟨by dsimp only; omega, u1, w2⟩ (by dsimp only; omega)
    have q1 := gI (S := T) (j := a + (p0 + i)) (by omega)
    have q2 := gI (S := T) (j := a + (o)) (by omega)
    have r1 := sI (S := T) (j := a + (p0 + i)) (v := T.getD (a + (o)) 0) (by omega)
    have r2 := sI (S := T.set (a + (p0 + i)) (T.getD (a + (o)) 0)) (j := a + (o)) (v := T.getD (a + (p0 + i)) 0) (by rw [List.length_set]; omega)
    have l1 : 0 + (a + (p0 + i)) * 1 < (flat isV T).length := by rw [isLen]; omega
    have l2 : 0 + (a + (o)) * 1 < (flat isV (T.set (a + (p0 + i)) (T.getD (a + (o)) 0))).length := by rw [isLen, List.length_set]; omega
    dsimp only [swp] at ih
    clear v2 w2
    generalize T.getD (a + (p0 + i)) 0 = x at *
    generalize T.getD (a + (o)) 0 = y at *
    generalize T.set (a + (p0 + i)) y = S3 at *
    generalize S3.set (a + (o)) x = S4 at *
    all_goals (refine goR ?_; and_intros <;> (try exact trivial) <;> repeat (first | refine fun (Bk : Nat) => ?_ | intro h))
    repeat' ((first | (apply G.ld; rfl; (apply LdV.one; exact CellV.blk (by exact mm) q1); rfl) | (apply G.ld; rfl; (apply LdV.one; exact CellV.blk (by exact mm) q2); rfl) | (apply J.regX 1 [2, 3, 4, 5] (.q 0 <| .q 1 <| .q 2 <| .q 3 <| .q 4 <| .q 5 <| .q 6 <| .q 7 <| .q 8 <| .q 9 <| .q 10 <| .q 11 <| .q 12 <| .q 13 <| .q 14 <| .q 15 <| .q 16 <| .e 17 <| .q 18 <| .e 19 <| .nil); exact Tryz.mixed; decide +kernel) | (apply G.s1n (n := 1); rfl; rfl; rfl; exact rfl; exact ⟨rfl, rfl⟩; exact l1; exact r1) | (apply G.s1n (n := 1); rfl; rfl; rfl; exact rfl; exact ⟨rfl, rfl⟩; exact l2; exact r2) | (apply G.ix (i := a + (p0 + i)); rfl; rfl; omega; omega; rfl) | (apply G.ix (i := a + (o)); rfl; rfl; omega; omega; rfl) | (apply J.regQ; exact Tryz.mixed; decide +kernel) | (apply J.regL'; exact Tryz.mixed; decide +kernel)) <;> (refine goR ?_; and_intros <;> (try exact trivial) <;> repeat (first | refine fun (Bk : Nat) => ?_ | intro h)))
    rw [show ((a + (p0 + i) : Nat) : Int) + 1 = ((a + (p0 + (i + 1)) : Nat) : Int) by omega]
    exact J.fin ih
end Go.Proofs.YtcdgibkbbcekhaaGreatDoor
/-
  Plain laws of the library's quicksort: the window that is left to sort.
-/
namespace Go.Proofs.YtcdgibkbbcekhaaGreatDoor
open Go.RowKit Go.Sl Go.Num
/-- What is left of the window from a to b, and what is right of it, is in order, and apart from it. -/
structure PQ (S : List Int) (a0 b0 a b : Nat) : Prop where
  r : a0 ≤ a ∧ a ≤ b ∧ b ≤ b0
  lo : Srt S a0 a
  hi : Srt S b b0
  l1 : ∀ x y, a0 ≤ x → x < a → a ≤ y → y < b0 → S.getD x 0 ≤ S.getD y 0
  l2 : ∀ x y, a0 ≤ x → x < b → b ≤ y → y < b0 → S.getD x 0 ≤ S.getD y 0
/-- What stands ahead of the window is not greater than what is in it. -/
def Pre (S : List Int) (a b : Nat) : Prop := 0 < a → ∀ z, a ≤ z → z < b → S.getD (a - 1) 0 ≤ S.getD z 0
theorem PQ.start {S : List Int} {a b : Nat} (h : a ≤ b) : PQ S a b a b := ⟨⟨Nat.le_refl _, h, Nat.le_refl _⟩, Srt.short (by omega), Srt.short (by omega), fun x y h1 h2 => by omega, fun x y h1 h2 h3 h4 => by omega⟩
theorem PQ.perm {S T : List Int} {a0 b0 a b : Nat} (h : PQ S a0 b0 a b) (hw : WP S a b T) (hb : b0 ≤ S.length) : PQ T a0 b0 a b := by
  have hr := h.r
  have eo : ∀ z, z < a ∨ b ≤ z → T.getD z 0 = S.getD z 0 := hw.out
  refine ⟨hr, fun x y h1 h2 h3 => ?_, fun x y h1 h2 h3 => ?_, fun x y h1 h2 h3 h4 => ?_, fun x y h1 h2 h3 h4 => ?_⟩
  · rw [eo x (by omega), eo y (by omega)]; exact h.lo x y h1 h2 h3
  · rw [eo x (by omega), eo y (by omega)]; exact h.hi x y h1 h2 h3
  · rw [eo x (by omega)]
    by_cases hy : y < b
    · exact hw.all (by omega) (P := fun v => S.getD x 0 ≤ v) (fun z q1 q2 => h.l1 x z h1 h2 q1 (by omega)) y h3 hy
    · rw [eo y (by omega)]; exact h.l1 x y h1 h2 h3 h4
  · rw [eo y (by omega)]
    by_cases hx : x < a
    · rw [eo x (by omega)]; exact h.l2 x y h1 (by omega) h3 h4
    · exact hw.all (by omega) (P := fun v => v ≤ S.getD y 0) (fun z q1 q2 => h.l2 z y (by omega) q2 h3 h4) x (by omega) h2
theorem Pre.perm {S T : List Int} {a b : Nat} (h : Pre S a b) (hw : WP S a b T) (hb : b ≤ S.length) : Pre T a b := fun h0 z h1 h2 => by
  rw [hw.out (a - 1) (by omega)]
  exact hw.all hb (P := fun v => S.getD (a - 1) 0 ≤ v) (h h0) z h1 h2
theorem PQ.fin {S : List Int} {a0 b0 a b : Nat} (h : PQ S a0 b0 a b) (hs : Srt S a b) : Srt S a0 b0 := fun x y h1 h2 h3 => by
  have hr := h.r
  by_cases hx : x < a
  · by_cases hy : y < a
    · exact h.lo x y h1 h2 hy
    · exact h.l1 x y h1 hx (by omega) h3
  · by_cases hy : y < b
    · exact hs x y (by omega) h2 hy
    · by_cases hx2 : x < b
      · exact h.l2 x y h1 hx2 (by omega) h3
      · exact h.hi x y (by omega) h2 h3
/-- The left part of a parted window is sorted. -/
theorem PQ.left {S T : List Int} {a0 b0 a m b : Nat} (h : PQ S a0 b0 a b) (hp : Par S a m b) (hw : WP S a m T) (hs : Srt T a m) (hb : b0 ≤ S.length) : PQ T a0 b0 (m + 1) b ∧ Pre T (m + 1) b := by
  have hr := h.r
  obtain ⟨p1, p2, p3⟩ := hp
  have hT := h.perm (hw.mono (Nat.le_refl _) (by omega)) hb
  have em : ∀ z, m ≤ z → T.getD z 0 = S.getD z 0 := fun z hz => hw.out z (.inr hz)
  have low : ∀ x, a ≤ x → x < m → T.getD x 0 ≤ S.getD m 0 := hw.all (by omega) (P := fun v => v ≤ S.getD m 0) p2
  have c1 : ∀ x, a ≤ x → x ≤ m → ∀ y, m < y → y < b → T.getD x 0 ≤ T.getD y 0 := fun x h1 h2 y h3 h4 => by
    rw [em y (by omega)]
    by_cases hx : x = m
    · subst hx; rw [em x (by omega)]; exact p3 y h3 h4
    · exact Int.le_trans (low x h1 (by omega)) (p3 y h3 h4)
  refine ⟨⟨⟨by omega, by omega, hr.2.2⟩, fun x y h1 h2 h3 => ?_, hT.hi, fun x y h1 h2 h3 h4 => ?_, hT.l2⟩, fun _ z h1 h2 => ?_⟩
  · by_cases hx : x < a
    · by_cases hy : y < a
      · exact hT.lo x y h1 h2 hy
      · exact hT.l1 x y h1 hx (by omega) (by omega)
    · by_cases hy : y = m
      · subst hy; rw [em y (Nat.le_refl _)]; exact low x (by omega) h2
      · exact hs x y (by omega) h2 (by omega)
  · by_cases hx : x < a
    · exact hT.l1 x y h1 hx (by omega) h4
    · by_cases hy : y < b
      · exact c1 x (by omega) (by omega) y (by omega) hy
      · exact hT.l2 x y h1 (by omega) (by omega) h4
  · rw [Nat.add_sub_cancel]; exact c1 m p1.1 (Nat.le_refl _) z (by omega) h2
/-- The right part of a parted window is sorted. -/
theorem PQ.right {S T : List Int} {a0 b0 a m b : Nat} (h : PQ S a0 b0 a b) (hq : Pre S a b) (hp : Par S a m b) (hw : WP S (m + 1) b T) (hs : Srt T (m + 1) b) (hb : b0 ≤ S.length) : PQ T a0 b0 a m ∧ Pre T a m := by
  have hr := h.r
  obtain ⟨p1, p2, p3⟩ := hp
  have hw2 := hw.mono (c := a) (d := b) (by omega) (Nat.le_refl _)
  have hT := h.perm hw2 hb
  have hQ := hq.perm hw2 (by omega)
  have em : ∀ z, z ≤ m → T.getD z 0 = S.getD z 0 := fun z hz => hw.out z (.inl (by omega))
  have upp : ∀ y, m + 1 ≤ y → y < b → S.getD m 0 ≤ T.getD y 0 := hw.all (by omega) (P := fun v => S.getD m 0 ≤ v) fun z h1 h2 => p3 z (by omega) h2
  have c1 : ∀ x, a ≤ x → x ≤ m → ∀ y, m < y → y < b → T.getD x 0 ≤ T.getD y 0 := fun x h1 h2 y h3 h4 => by
    rw [em x h2]
    by_cases hx : x = m
    · subst hx; exact upp y (by omega) h4
    · exact Int.le_trans (p2 x h1 (by omega)) (upp y (by omega) h4)
  refine ⟨⟨⟨hr.1, p1.1, by omega⟩, hT.lo, fun x y h1 h2 h3 => ?_, hT.l1, fun x y h1 h2 h3 h4 => ?_⟩, fun h0 z h1 h2 => hQ h0 z h1 (by omega)⟩
  · by_cases hx : x < b
    · by_cases hy : y < b
      · by_cases hx2 : x = m
        · subst hx2; exact c1 x p1.1 (Nat.le_refl _) y (by omega) hy
        · exact hs x y (by omega) h2 hy
      · exact hT.l2 x y (by omega) hx (by omega) h3
    · exact hT.hi x y (by omega) h2 h3
  · by_cases hx : x < a
    · exact hT.l1 x y h1 hx (by omega) h4
    · by_cases hy : y < b
      · by_cases hy2 : y = m
        · subst hy2; rw [em x (by omega), em y (Nat.le_refl _)]; exact p2 x (by omega) h2
        · exact c1 x (by omega) (by omega) y (by omega) hy
      · exact hT.l2 x y h1 (by omega) (by omega) h4
/-- Elements that are equal to the least one. -/
theorem PQ.equal {S : List Int} {a0 b0 a m b : Nat} (h : PQ S a0 b0 a b) (he : EIn S a m m b) (hmin : ∀ z, a ≤ z → z < b → S.getD a 0 ≤ S.getD z 0) : PQ S a0 b0 m b ∧ Pre S m b := by
  have hr := h.r
  have e1 := he.h1
  have e3 := he.h3
  have low : ∀ x, a ≤ x → x < m → S.getD x 0 ≤ S.getD a 0 := fun x h1 h2 => by
    by_cases hx : x = a
    · subst hx; exact Int.le_refl _
    · exact he.lo x (by omega) h2
  refine ⟨⟨⟨by omega, e3, hr.2.2⟩, fun x y h1 h2 h3 => ?_, h.hi, fun x y h1 h2 h3 h4 => ?_, h.l2⟩, fun h0 z h1 h2 => ?_⟩
  · by_cases hx : x < a
    · by_cases hy : y < a
      · exact h.lo x y h1 h2 hy
      · exact h.l1 x y h1 hx (by omega) (by omega)
    · exact Int.le_trans (low x (by omega) (by omega)) (hmin y (by omega) (by omega))
  · by_cases hx : x < a
    · exact h.l1 x y h1 hx (by omega) h4
    · by_cases hy : y < b
      · exact Int.le_trans (low x (by omega) h2) (Int.le_of_lt (he.hi y h3 hy))
      · exact h.l2 x y h1 (by omega) (by omega) h4
  · exact Int.le_trans (low (m - 1) (by omega) (by omega)) (Int.le_of_lt (he.hi z h1 h2))
end Go.Proofs.YtcdgibkbbcekhaaGreatDoor
/-
  Contracts: the quicksort of the library sorts.
-/
namespace Go.Proofs.YtcdgibkbbcekhaaGreatDoor
open Go.RowKit Go.Sl Go.Num
set_option maxHeartbeats 8000000 in
theorem pdq_holds (g tot n cp : Nat) (hl : n ≤ 1000000000) : ∀ (N : Nat) (w0 : World) (M : List Row) (w : World) (S : List Int) (a b L : Nat) (_ : Sat w0 (.blk g 3 (flat isV S) tot :: M) w) (_ : b ≤ n) (_ : n = S.length) (_ : a ≤ b) (_ : b - a ≤ N) (_ : Pre S a b) (_ : L ≤ 1000),
    Calls Tryz.prog 166 #[.slice (some ⟨g, 0, none⟩) n cp, .int .i64 a, .int .i64 b, .int .i64 L] w fun e w' => ∃ S', e = .returned (.tuple #[]) ∧ (WP S a b S' ∧ Srt S' a b) ∧ Sat w0 (.blk g 3 (flat isV S') tot :: M) w' := by
  intro N
  induction N using Nat.strongRecOn with
  | _ N ihN =>
  intro w0 M w S a0 b0 L0 hw hb hn hab hN hpre hL0
  refine enterR [(0, .slice (some ⟨g, 0, none⟩) n cp), (1, .int .i64 a0), (2, .int .i64 b0), (3, .int .i64 L0)] hw Tryz.func166 Tryz.ntmps166 ?_
  all_goals (refine go ?_; and_intros <;> (try exact trivial) <;> repeat (first | refine fun (Bk : Nat) => ?_ | intro h))
  refine J.loop (c := _) ((a0, b0, L0, true, true, S) : Nat × Nat × Nat × Bool × Bool × List Int) (fun s => s.2.1 - s.1) (fun s => [(0, .slice (some ⟨g, 0, none⟩) n cp), (1, .int .i64 (s.1 : Nat)), (2, .int .i64 (s.2.1 : Nat)), (3, .int .i64 (s.2.2.1 : Nat)), (8, .bool s.2.2.2.1), (9, .bool s.2.2.2.2.1)]) (fun s => .blk g 3 (flat isV s.2.2.2.2.2) tot :: M) (fun s => s.2.2.1 ≤ 1000 ∧ WP S a0 b0 s.2.2.2.2.2 ∧ PQ s.2.2.2.2.2 a0 b0 s.1 s.2.1 ∧ Pre s.2.2.2.2.2 s.1 s.2.1) ?_ sbT sbL ?_
  · exact ⟨hL0, WP.refl _ _ _, PQ.start hab, hpre⟩
  intro ⟨a, b, L, wb, wp, T⟩ ⟨hL, v1, v2, v3⟩ ih
  dsimp only at hL v1 v2 v3 ⊢
  have hr := v2.r
  have hlt := v1.len
  by_cases h12 : b ≤ a + 12
  · clear ih ihN
    all_goals (refine go ?_; and_intros <;> (try exact trivial) <;> repeat (first | refine fun (Bk : Nat) => ?_ | intro h))
    repeat' ((first | (refine G.cP (g := 179) (X := { S' // WP T a b S' ∧ Srt S' a b }) (fun _ => .tuple #[]) [.blk g 3 (flat isV T) tot] (fun x => [.blk g 3 (flat isV x.1) tot]) rfl rfl (by (repeat (first | exact List.Perm.refl _ | (refine pickT (by (repeat (first | exact Pick.head | apply Pick.tail))) ?_)))) ?_ ?_; exact fun w' hw' => (insSort_holds _ _ w' g tot n cp T a b hw' (by omega) (by omega) hl (by omega)).mono fun e w2 ⟨S', h1, h2, h3⟩ => ⟨⟨S', h2⟩, h1, h3⟩; rintro ⟨U, u1, u2⟩; dsimp only)) <;> (refine go ?_; and_intros <;> (try exact trivial) <;> repeat (first | refine fun (Bk : Nat) => ?_ | intro h)))
    refine ret0 Tryz.func166 Tryz.results166 ?_
    exact fun w' hw' => ⟨U, rfl, ⟨v1.trans (u1.mono hr.1 hr.2.2), (v2.perm u1 (by omega)).fin u2⟩, hw'⟩
  by_cases hL2 : L = 0
  · subst hL2
    clear ih ihN
    obtain ⟨k, rfl⟩ : ∃ k, b = a + k := ⟨b - a, by omega⟩
    all_goals (refine go ?_; and_intros <;> (try exact trivial) <;> repeat (first | refine fun (Bk : Nat) => ?_ | intro h))
    repeat' ((first | (refine G.cP (g := 180) (X := { S' // WP T a (a + k) S' ∧ Srt S' a (a + k) }) (fun _ => .tuple #[]) [.blk g 3 (flat isV T) tot] (fun x => [.blk g 3 (flat isV x.1) tot]) rfl rfl (by (repeat (first | exact List.Perm.refl _ | (refine pickT (by (repeat (first | exact Pick.head | apply Pick.tail))) ?_)))) ?_ ?_; exact fun w' hw' => (heapSort_holds _ _ w' g tot n cp T a k hw' (by omega) (by omega) hl (by omega)).mono fun e w2 ⟨S', h1, h2, h3⟩ => ⟨⟨S', h2⟩, h1, h3⟩; rintro ⟨U, u1, u2⟩; dsimp only)) <;> (refine go ?_; and_intros <;> (try exact trivial) <;> repeat (first | refine fun (Bk : Nat) => ?_ | intro h)))
    refine ret0 Tryz.func166 Tryz.results166 ?_
    exact fun w' hw' => ⟨U, rfl, ⟨v1.trans (u1.mono hr.1 hr.2.2), (v2.perm u1 (by omega)).fin u2⟩, hw'⟩
  apply cutK (X := { t : Nat × Nat × List Int // (a ≤ t.1 ∧ t.1 < b) ∧ t.2.1 ≤ 1000 ∧ WP T a b t.2.2 }) (fun t => [(0, .slice (some ⟨g, 0, none⟩) n cp), (1, .int .i64 (a : Nat)), (2, .int .i64 (b : Nat)), (3, .int .i64 (t.1.2.1 : Nat)), (8, .bool wb), (9, .bool wp), (10, .int .i64 ((b : Int) - a)), (11, .int .i64 (t.1.1 : Nat))]) (fun t => .blk g 3 (flat isV t.1.2.2) tot :: M)
  · intro hk
    have hTT := WP.refl T a b
    have rv : ∀ p : Nat, a ≤ p → p < b → ((b : Int) - 1 - ((p : Int) - a)) = ((b - 1 - (p - a) : Nat) : Int) := fun p h1 h2 => by omega
    have hwb : wb = false ∨ wb = true := by cases wb <;> simp
    have hwp : wp = false ∨ wp = true := by cases wp <;> simp
    rcases hwb with hwb | hwb <;> rcases hwp with hwp | hwp <;> rw [hwb, hwp]
    · obtain ⟨k, hkb⟩ : ∃ k, b = a + k := ⟨b - a, by omega⟩
      all_goals (refine goR ?_; and_intros <;> (try exact trivial) <;> repeat (first | refine fun (Bk : Nat) => ?_ | intro h))
      repeat' ((first | (refine G.cP (g := 181) (X := { S' // WP T a b S' }) (fun _ => .tuple #[]) [.blk g 3 (flat isV T) tot] (fun x => [.blk g 3 (flat isV x.1) tot]) rfl rfl (by (repeat (first | exact List.Perm.refl _ | (refine pickT (by (repeat (first | exact Pick.head | apply Pick.tail))) ?_)))) ?_ ?_; exact fun w' hw' => hkb ▸ (break_holds _ _ w' g tot n cp T a k hw' (by omega) (by omega) hl (by omega)).mono fun e w2 ⟨S', h1, h2, h3⟩ => ⟨⟨S', h2⟩, h1, h3⟩; rintro ⟨U, hU⟩; have hlu := hU.len; dsimp only)) <;> (refine goR ?_; and_intros <;> (try exact trivial) <;> repeat (first | refine fun (Bk : Nat) => ?_ | intro h)))
      rw [show ((L : Int) - 1) = ((L - 1 : Nat) : Int) by omega]
      all_goals (refine goR ?_; and_intros <;> (try exact trivial) <;> repeat (first | refine fun (Bk : Nat) => ?_ | intro h))
      repeat' ((first | (refine G.cP (g := 182) (X := { t : Nat × Int // (a ≤ t.1 ∧ t.1 < b) ∧ 0 ≤ t.2 ∧ t.2 ≤ 2 }) (fun t => .tuple #[.int .i64 (t.1.1 : Nat), .int .i64 t.1.2]) [.blk g 3 (flat isV U) tot] (fun _ => [.blk g 3 (flat isV U) tot]) rfl rfl (by (repeat (first | exact List.Perm.refl _ | (refine pickT (by (repeat (first | exact Pick.head | apply Pick.tail))) ?_)))) ?_ ?_; exact fun w' hw' => (pivot_holds _ _ w' g tot n cp U a b hw' (by omega) hl (by omega) (by omega)).mono fun e w2 ⟨x, h, h1, h2, h3⟩ => ⟨⟨(x, h), h1⟩, h2, h3⟩; rintro ⟨⟨p, h⟩, hp, hh⟩; dsimp only at hp hh ⊢; obtain rfl | rfl | rfl : h = 0 ∨ h = 1 ∨ h = 2 := by omega) | (refine G.cP (g := 183) (X := { S' // WP U a b S' }) (fun _ => .tuple #[]) [.blk g 3 (flat isV U) tot] (fun x => [.blk g 3 (flat isV x.1) tot]) rfl rfl (by (repeat (first | exact List.Perm.refl _ | (refine pickT (by (repeat (first | exact Pick.head | apply Pick.tail))) ?_)))) ?_ ?_; exact fun w' hw' => (reverse_holds _ _ w' g tot n cp U a b hw' (by omega) (by omega) hl (by omega)).mono fun e w2 ⟨S', h1, h2, h3⟩ => ⟨⟨S', h2⟩, h1, h3⟩; rintro ⟨V, hv⟩; have hlv := hv.len; dsimp only) | (refine G.cP (g := 184) (X := { t : List Int × Bool // WP V a b t.1 ∧ (t.2 = true → Srt t.1 a b) }) (fun t => .bool t.1.2) [.blk g 3 (flat isV V) tot] (fun x => [.blk g 3 (flat isV x.1.1) tot]) rfl rfl (by (repeat (first | exact List.Perm.refl _ | (refine pickT (by (repeat (first | exact Pick.head | apply Pick.tail))) ?_)))) ?_ ?_; exact fun w' hw' => (partIns_holds _ _ w' g tot n cp V a b hw' (by omega) (by omega) hl (by omega) (v3.perm ((hU).trans hv) (by omega))).mono fun e w2 ⟨S', bo, h1, h2, h3⟩ => ⟨⟨(S', bo), h1⟩, h2, h3⟩; rintro ⟨⟨V2, bo⟩, hv2, hso⟩; dsimp only at hv2 hso ⊢; cases bo) | (refine G.cP (g := 184) (X := { t : List Int × Bool // WP U a b t.1 ∧ (t.2 = true → Srt t.1 a b) }) (fun t => .bool t.1.2) [.blk g 3 (flat isV U) tot] (fun x => [.blk g 3 (flat isV x.1.1) tot]) rfl rfl (by (repeat (first | exact List.Perm.refl _ | (refine pickT (by (repeat (first | exact Pick.head | apply Pick.tail))) ?_)))) ?_ ?_; exact fun w' hw' => (partIns_holds _ _ w' g tot n cp U a b hw' (by omega) (by omega) hl (by omega) (v3.perm hU (by omega))).mono fun e w2 ⟨S', bo, h1, h2, h3⟩ => ⟨⟨(S', bo), h1⟩, h2, h3⟩; rintro ⟨⟨V2, bo⟩, hv2, hso⟩; dsimp only at hv2 hso ⊢; cases bo)) <;> (refine goR ?_; and_intros <;> (try exact trivial) <;> repeat (first | refine fun (Bk : Nat) => ?_ | intro h)))
      · skip
        have hk2 := hk ⟨(p, (L - 1), U), hp, by dsimp only; omega, hU⟩
        dsimp only at hk2
        rw [hwb, hwp] at hk2
        exact J.fin hk2
      · skip
        have hk2 := hk ⟨(p, (L - 1), U), hp, by dsimp only; omega, hU⟩
        dsimp only at hk2
        rw [hwb, hwp] at hk2
        exact J.fin hk2
      · skip
        have hk2 := hk ⟨(b - 1 - (p - a), (L - 1), V), by dsimp only; omega, by dsimp only; omega, (hU).trans hv⟩
        dsimp only at hk2
        rw [hwb, hwp] at hk2
        rw [rv p hp.1 hp.2]
        exact J.fin hk2
    · obtain ⟨k, hkb⟩ : ∃ k, b = a + k := ⟨b - a, by omega⟩
      all_goals (refine goR ?_; and_intros <;> (try exact trivial) <;> repeat (first | refine fun (Bk : Nat) => ?_ | intro h))
      repeat' ((first | (refine G.cP (g := 181) (X := { S' // WP T a b S' }) (fun _ => .tuple #[]) [.blk g 3 (flat isV T) tot] (fun x => [.blk g 3 (flat isV x.1) tot]) rfl rfl (by (repeat (first | exact List.Perm.refl _ | (refine pickT (by (repeat (first | exact Pick.head | apply Pick.tail))) ?_)))) ?_ ?_; exact fun w' hw' => hkb ▸ (break_holds _ _ w' g tot n cp T a k hw' (by omega) (by omega) hl (by omega)).mono fun e w2 ⟨S', h1, h2, h3⟩ => ⟨⟨S', h2⟩, h1, h3⟩; rintro ⟨U, hU⟩; have hlu := hU.len; dsimp only)) <;> (refine goR ?_; and_intros <;> (try exact trivial) <;> repeat (first | refine fun (Bk : Nat) => ?_ | intro h)))
      rw [show ((L : Int) - 1) = ((L - 1 : Nat) : Int) by omega]
      all_goals (refine goR ?_; and_intros <;> (try exact trivial) <;> repeat (first | refine fun (Bk : Nat) => ?_ | intro h))
      repeat' ((first | (refine G.cP (g := 182) (X := { t : Nat × Int // (a ≤ t.1 ∧ t.1 < b) ∧ 0 ≤ t.2 ∧ t.2 ≤ 2 }) (fun t => .tuple #[.int .i64 (t.1.1 : Nat), .int .i64 t.1.2]) [.blk g 3 (flat isV U) tot] (fun _ => [.blk g 3 (flat isV U) tot]) rfl rfl (by (repeat (first | exact List.Perm.refl _ | (refine pickT (by (repeat (first | exact Pick.head | apply Pick.tail))) ?_)))) ?_ ?_; exact fun w' hw' => (pivot_holds _ _ w' g tot n cp U a b hw' (by omega) hl (by omega) (by omega)).mono fun e w2 ⟨x, h, h1, h2, h3⟩ => ⟨⟨(x, h), h1⟩, h2, h3⟩; rintro ⟨⟨p, h⟩, hp, hh⟩; dsimp only at hp hh ⊢; obtain rfl | rfl | rfl : h = 0 ∨ h = 1 ∨ h = 2 := by omega) | (refine G.cP (g := 183) (X := { S' // WP U a b S' }) (fun _ => .tuple #[]) [.blk g 3 (flat isV U) tot] (fun x => [.blk g 3 (flat isV x.1) tot]) rfl rfl (by (repeat (first | exact List.Perm.refl _ | (refine pickT (by (repeat (first | exact Pick.head | apply Pick.tail))) ?_)))) ?_ ?_; exact fun w' hw' => (reverse_holds _ _ w' g tot n cp U a b hw' (by omega) (by omega) hl (by omega)).mono fun e w2 ⟨S', h1, h2, h3⟩ => ⟨⟨S', h2⟩, h1, h3⟩; rintro ⟨V, hv⟩; have hlv := hv.len; dsimp only) | (refine G.cP (g := 184) (X := { t : List Int × Bool // WP V a b t.1 ∧ (t.2 = true → Srt t.1 a b) }) (fun t => .bool t.1.2) [.blk g 3 (flat isV V) tot] (fun x => [.blk g 3 (flat isV x.1.1) tot]) rfl rfl (by (repeat (first | exact List.Perm.refl _ | (refine pickT (by (repeat (first | exact Pick.head | apply Pick.tail))) ?_)))) ?_ ?_; exact fun w' hw' => (partIns_holds _ _ w' g tot n cp V a b hw' (by omega) (by omega) hl (by omega) (v3.perm ((hU).trans hv) (by omega))).mono fun e w2 ⟨S', bo, h1, h2, h3⟩ => ⟨⟨(S', bo), h1⟩, h2, h3⟩; rintro ⟨⟨V2, bo⟩, hv2, hso⟩; dsimp only at hv2 hso ⊢; cases bo) | (refine G.cP (g := 184) (X := { t : List Int × Bool // WP U a b t.1 ∧ (t.2 = true → Srt t.1 a b) }) (fun t => .bool t.1.2) [.blk g 3 (flat isV U) tot] (fun x => [.blk g 3 (flat isV x.1.1) tot]) rfl rfl (by (repeat (first | exact List.Perm.refl _ | (refine pickT (by (repeat (first | exact Pick.head | apply Pick.tail))) ?_)))) ?_ ?_; exact fun w' hw' => (partIns_holds _ _ w' g tot n cp U a b hw' (by omega) (by omega) hl (by omega) (v3.perm hU (by omega))).mono fun e w2 ⟨S', bo, h1, h2, h3⟩ => ⟨⟨(S', bo), h1⟩, h2, h3⟩; rintro ⟨⟨V2, bo⟩, hv2, hso⟩; dsimp only at hv2 hso ⊢; cases bo)) <;> (refine goR ?_; and_intros <;> (try exact trivial) <;> repeat (first | refine fun (Bk : Nat) => ?_ | intro h)))
      · skip
        have hk2 := hk ⟨(p, (L - 1), U), hp, by dsimp only; omega, hU⟩
        dsimp only at hk2
        rw [hwb, hwp] at hk2
        exact J.fin hk2
      · skip
        have hk2 := hk ⟨(p, (L - 1), U), hp, by dsimp only; omega, hU⟩
        dsimp only at hk2
        rw [hwb, hwp] at hk2
        exact J.fin hk2
      · skip
        have hk2 := hk ⟨(b - 1 - (p - a), (L - 1), V), by dsimp only; omega, by dsimp only; omega, (hU).trans hv⟩
        dsimp only at hk2
        rw [hwb, hwp] at hk2
        rw [rv p hp.1 hp.2]
        exact J.fin hk2
    · skip
      all_goals (refine goR ?_; and_intros <;> (try exact trivial) <;> repeat (first | refine fun (Bk : Nat) => ?_ | intro h))
      repeat' ((first | (refine G.cP (g := 182) (X := { t : Nat × Int // (a ≤ t.1 ∧ t.1 < b) ∧ 0 ≤ t.2 ∧ t.2 ≤ 2 }) (fun t => .tuple #[.int .i64 (t.1.1 : Nat), .int .i64 t.1.2]) [.blk g 3 (flat isV T) tot] (fun _ => [.blk g 3 (flat isV T) tot]) rfl rfl (by (repeat (first | exact List.Perm.refl _ | (refine pickT (by (repeat (first | exact Pick.head | apply Pick.tail))) ?_)))) ?_ ?_; exact fun w' hw' => (pivot_holds _ _ w' g tot n cp T a b hw' (by omega) hl (by omega) (by omega)).mono fun e w2 ⟨x, h, h1, h2, h3⟩ => ⟨⟨(x, h), h1⟩, h2, h3⟩; rintro ⟨⟨p, h⟩, hp, hh⟩; dsimp only at hp hh ⊢; obtain rfl | rfl | rfl : h = 0 ∨ h = 1 ∨ h = 2 := by omega) | (refine G.cP (g := 183) (X := { S' // WP T a b S' }) (fun _ => .tuple #[]) [.blk g 3 (flat isV T) tot] (fun x => [.blk g 3 (flat isV x.1) tot]) rfl rfl (by (repeat (first | exact List.Perm.refl _ | (refine pickT (by (repeat (first | exact Pick.head | apply Pick.tail))) ?_)))) ?_ ?_; exact fun w' hw' => (reverse_holds _ _ w' g tot n cp T a b hw' (by omega) (by omega) hl (by omega)).mono fun e w2 ⟨S', h1, h2, h3⟩ => ⟨⟨S', h2⟩, h1, h3⟩; rintro ⟨V, hv⟩; have hlv := hv.len; dsimp only) | (refine G.cP (g := 184) (X := { t : List Int × Bool // WP V a b t.1 ∧ (t.2 = true → Srt t.1 a b) }) (fun t => .bool t.1.2) [.blk g 3 (flat isV V) tot] (fun x => [.blk g 3 (flat isV x.1.1) tot]) rfl rfl (by (repeat (first | exact List.Perm.refl _ | (refine pickT (by (repeat (first | exact Pick.head | apply Pick.tail))) ?_)))) ?_ ?_; exact fun w' hw' => (partIns_holds _ _ w' g tot n cp V a b hw' (by omega) (by omega) hl (by omega) (v3.perm ((hTT).trans hv) (by omega))).mono fun e w2 ⟨S', bo, h1, h2, h3⟩ => ⟨⟨(S', bo), h1⟩, h2, h3⟩; rintro ⟨⟨V2, bo⟩, hv2, hso⟩; dsimp only at hv2 hso ⊢; cases bo) | (refine G.cP (g := 184) (X := { t : List Int × Bool // WP T a b t.1 ∧ (t.2 = true → Srt t.1 a b) }) (fun t => .bool t.1.2) [.blk g 3 (flat isV T) tot] (fun x => [.blk g 3 (flat isV x.1.1) tot]) rfl rfl (by (repeat (first | exact List.Perm.refl _ | (refine pickT (by (repeat (first | exact Pick.head | apply Pick.tail))) ?_)))) ?_ ?_; exact fun w' hw' => (partIns_holds _ _ w' g tot n cp T a b hw' (by omega) (by omega) hl (by omega) (v3.perm hTT (by omega))).mono fun e w2 ⟨S', bo, h1, h2, h3⟩ => ⟨⟨(S', bo), h1⟩, h2, h3⟩; rintro ⟨⟨V2, bo⟩, hv2, hso⟩; dsimp only at hv2 hso ⊢; cases bo)) <;> (refine goR ?_; and_intros <;> (try exact trivial) <;> repeat (first | refine fun (Bk : Nat) => ?_ | intro h)))
      · skip
        have hk2 := hk ⟨(p, L, T), hp, by dsimp only; omega, hTT⟩
        dsimp only at hk2
        rw [hwb, hwp] at hk2
        exact J.fin hk2
      · skip
        have hk2 := hk ⟨(p, L, T), hp, by dsimp only; omega, hTT⟩
        dsimp only at hk2
        rw [hwb, hwp] at hk2
        exact J.fin hk2
      · skip
        have hk2 := hk ⟨(b - 1 - (p - a), L, V), by dsimp only; omega, by dsimp only; omega, (hTT).trans hv⟩
        dsimp only at hk2
        rw [hwb, hwp] at hk2
        rw [rv p hp.1 hp.2]
        exact J.fin hk2
    · skip
      all_goals (refine goR ?_; and_intros <;> (try exact trivial) <;> repeat (first | refine fun (Bk : Nat) => ?_ | intro h))
      repeat' ((first | (refine G.cP (g := 182) (X := { t : Nat × Int // (a ≤ t.1 ∧ t.1 < b) ∧ 0 ≤ t.2 ∧ t.2 ≤ 2 }) (fun t => .tuple #[.int .i64 (t.1.1 : Nat), .int .i64 t.1.2]) [.blk g 3 (flat isV T) tot] (fun _ => [.blk g 3 (flat isV T) tot]) rfl rfl (by (repeat (first | exact List.Perm.refl _ | (refine pickT (by (repeat (first | exact Pick.head | apply Pick.tail))) ?_)))) ?_ ?_; exact fun w' hw' => (pivot_holds _ _ w' g tot n cp T a b hw' (by omega) hl (by omega) (by omega)).mono fun e w2 ⟨x, h, h1, h2, h3⟩ => ⟨⟨(x, h), h1⟩, h2, h3⟩; rintro ⟨⟨p, h⟩, hp, hh⟩; dsimp only at hp hh ⊢; obtain rfl | rfl | rfl : h = 0 ∨ h = 1 ∨ h = 2 := by omega) | (refine G.cP (g := 183) (X := { S' // WP T a b S' }) (fun _ => .tuple #[]) [.blk g 3 (flat isV T) tot] (fun x => [.blk g 3 (flat isV x.1) tot]) rfl rfl (by (repeat (first | exact List.Perm.refl _ | (refine pickT (by (repeat (first | exact Pick.head | apply Pick.tail))) ?_)))) ?_ ?_; exact fun w' hw' => (reverse_holds _ _ w' g tot n cp T a b hw' (by omega) (by omega) hl (by omega)).mono fun e w2 ⟨S', h1, h2, h3⟩ => ⟨⟨S', h2⟩, h1, h3⟩; rintro ⟨V, hv⟩; have hlv := hv.len; dsimp only) | (refine G.cP (g := 184) (X := { t : List Int × Bool // WP V a b t.1 ∧ (t.2 = true → Srt t.1 a b) }) (fun t => .bool t.1.2) [.blk g 3 (flat isV V) tot] (fun x => [.blk g 3 (flat isV x.1.1) tot]) rfl rfl (by (repeat (first | exact List.Perm.refl _ | (refine pickT (by (repeat (first | exact Pick.head | apply Pick.tail))) ?_)))) ?_ ?_; exact fun w' hw' => (partIns_holds _ _ w' g tot n cp V a b hw' (by omega) (by omega) hl (by omega) (v3.perm ((hTT).trans hv) (by omega))).mono fun e w2 ⟨S', bo, h1, h2, h3⟩ => ⟨⟨(S', bo), h1⟩, h2, h3⟩; rintro ⟨⟨V2, bo⟩, hv2, hso⟩; dsimp only at hv2 hso ⊢; cases bo) | (refine G.cP (g := 184) (X := { t : List Int × Bool // WP T a b t.1 ∧ (t.2 = true → Srt t.1 a b) }) (fun t => .bool t.1.2) [.blk g 3 (flat isV T) tot] (fun x => [.blk g 3 (flat isV x.1.1) tot]) rfl rfl (by (repeat (first | exact List.Perm.refl _ | (refine pickT (by (repeat (first | exact Pick.head | apply Pick.tail))) ?_)))) ?_ ?_; exact fun w' hw' => (partIns_holds _ _ w' g tot n cp T a b hw' (by omega) (by omega) hl (by omega) (v3.perm hTT (by omega))).mono fun e w2 ⟨S', bo, h1, h2, h3⟩ => ⟨⟨(S', bo), h1⟩, h2, h3⟩; rintro ⟨⟨V2, bo⟩, hv2, hso⟩; dsimp only at hv2 hso ⊢; cases bo)) <;> (refine goR ?_; and_intros <;> (try exact trivial) <;> repeat (first | refine fun (Bk : Nat) => ?_ | intro h)))
      · skip
        have hk2 := hk ⟨(p, L, T), hp, by dsimp only; omega, hTT⟩
        dsimp only at hk2
        rw [hwb, hwp] at hk2
        exact J.fin hk2
      · skip
        have hk2 := hk ⟨(p, L, V2), hp, by dsimp only; omega, hv2⟩
        dsimp only at hk2
        rw [hwb, hwp] at hk2
        exact J.fin hk2
      · refine ret0 Tryz.func166 Tryz.results166 ?_
        exact fun w' hw' => ⟨V2, rfl, ⟨v1.trans (hv2.mono hr.1 hr.2.2), (v2.perm hv2 (by omega)).fin (hso rfl)⟩, hw'⟩
      · skip
        have hk2 := hk ⟨(b - 1 - (p - a), L, V2), by dsimp only; omega, by dsimp only; omega, (hv.trans hv2)⟩
        dsimp only at hk2
        rw [hwb, hwp] at hk2
        rw [rv p hp.1 hp.2]
        exact J.fin hk2
      · refine ret0 Tryz.func166 Tryz.results166 ?_
        exact fun w' hw' => ⟨V2, rfl, ⟨v1.trans ((hv.trans hv2).mono hr.1 hr.2.2), (v2.perm (hv.trans hv2) (by omega)).fin (hso rfl)⟩, hw'⟩
  intro ⟨⟨p, L2, U⟩, hp, hL', hU⟩
  dsimp only at hp hL' hU ⊢
  have hlu := hU.len
  have w1 := v1.trans (hU.mono hr.1 hr.2.2)
  have w2 := v2.perm hU (by omega)
  have w3 := v3.perm hU (by omega)
  have ih := fun (a' b' : Nat) wb' wp' U' h1 h2 h3 h4 => ih (a', b', L2, wb', wp', U') ⟨hL', h1, h2, h3⟩ h4
  dsimp only at ih
  clear v1 v2 v3 hU
  obtain ⟨pv, hpv⟩ : ∃ pv, U.getD p 0 = pv := ⟨_, rfl⟩
  have q2 := gI (S := U) (j := p) (by omega)
  rw [hpv] at q2
  have hlN : ∀ (S : List Int) (c d : Nat) (w' : World), Sat w0 (.blk g 3 (flat isV S) tot :: M) w' → d ≤ n → n = S.length → c ≤ d → d - c < N → Pre S c d → Calls Tryz.prog 166 #[.slice (some ⟨g, 0, none⟩) n cp, .int .i64 c, .int .i64 d, .int .i64 L2] w' fun e w2 => ∃ S', e = .returned (.tuple #[]) ∧ (WP S c d S' ∧ Srt S' c d) ∧ Sat w0 (.blk g 3 (flat isV S') tot :: M) w2 :=
    fun S c d w' h1 h2 h3 h4 h5 h6 => ihN (d - c) h5 w0 M w' S c d L2 h1 h2 h3 h4 (Nat.le_refl _) h6 hL'
  clear ihN
  have hle := fun w' => lessI_holds (U.getD (a - 1) 0) pv w'
  by_cases ha : a = 0 ∨ U.getD (a - 1) 0 < pv
  · have w4 : ∀ V m, WP U a b V → Par V a m b → (PQ V a0 b0 a b ∧ Pre V a b) ∧ (∀ W, WP V a m W → Srt W a m → PQ W a0 b0 (m + 1) b ∧ Pre W (m + 1) b) ∧ (∀ W, WP V (m + 1) b W → Srt W (m + 1) b → PQ W a0 b0 a m ∧ Pre W a m) := fun V m hv hpar =>
      ⟨⟨w2.perm hv (by omega), w3.perm hv (by omega)⟩, fun W hW hs => (w2.perm hv (by omega)).left hpar hW hs (by rw [hv.len]; omega), fun W hW hs => (w2.perm hv (by omega)).right (w3.perm hv (by omega)) hpar hW hs (by rw [hv.len]; omega)⟩
    have q1 := gI (S := U) (j := a - 1) (by omega)
    rcases ha with ha | ha
    · skip
      all_goals (refine goR ?_; and_intros <;> (try exact trivial) <;> repeat (first | refine fun (Bk : Nat) => ?_ | intro h))
      repeat' ((first | (apply J.regA (.q 0 <| .q 1 <| .q 2 <| .q 3 <| .q 4 <| .q 5 <| .q 6 <| .q 7 <| .q 8 <| .q 9 <| .q 10 <| .q 11 <| .q 12 <| .q 13 <| .q 14 <| .nil); exact Tryz.mixed; decide +kernel) | (refine G.cP (g := 187) (X := { t : List Int × Nat × Bool // WP U a b t.1 ∧ Par t.1 a t.2.1 b }) (fun t => .tuple #[.int .i64 (t.1.2.1 : Nat), .bool t.1.2.2]) [.blk g 3 (flat isV U) tot] (fun x => [.blk g 3 (flat isV x.1.1) tot]) rfl rfl (by (repeat (first | exact List.Perm.refl _ | (refine pickT (by (repeat (first | exact Pick.head | apply Pick.tail))) ?_)))) ?_ ?_; exact fun w' hw' => (partition_holds _ _ w' g tot n cp U a b p hw' (by omega) (by omega) hl (by omega)).mono fun e w2 ⟨S', m, bo, h1, h2, h3⟩ => ⟨⟨(S', m, bo), h1⟩, h2, h3⟩; rintro ⟨⟨V, m, bo⟩, hv, hpar⟩; have hlv := hv.len; have hpr := hpar.1; obtain ⟨⟨x1, x2⟩, x3, x4⟩ := w4 V m hv hpar; dsimp only at hv hpar hlv hpr x1 x2 x3 x4 ⊢; have hpl : Pre V a m := fun h0 z h1 h2 => x2 h0 z h1 (by omega); have hprr : Pre V (m + 1) b := fun h0 z h1 h2 => by rw [Nat.add_sub_cancel]; exact hpar.2.2 z (by omega) h2) | (refine G.cP (d := 121) (g := 166) (X := { W // WP V a m W ∧ Srt W a m }) (fun _ => .tuple #[]) [.blk g 3 (flat isV V) tot] (fun x => [.blk g 3 (flat isV x.1) tot]) rfl rfl (by (repeat (first | exact List.Perm.refl _ | (refine pickT (by (repeat (first | exact Pick.head | apply Pick.tail))) ?_)))) ?_ ?_; exact fun w' hw' => (hlN V a m w' hw' (by omega) (by omega) (by omega) (by omega) hpl).mono fun e w2 ⟨S', h1, h2, h3⟩ => ⟨⟨S', h2⟩, h1, h3⟩; rintro ⟨W, hW1, hW2⟩; have hlW := hW1.len; obtain ⟨y1, y2⟩ := x3 W hW1 hW2; dsimp only) | (refine G.cP (d := 132) (g := 166) (X := { W // WP V (m + 1) b W ∧ Srt W (m + 1) b }) (fun _ => .tuple #[]) [.blk g 3 (flat isV V) tot] (fun x => [.blk g 3 (flat isV x.1) tot]) rfl rfl (by (repeat (first | exact List.Perm.refl _ | (refine pickT (by (repeat (first | exact Pick.head | apply Pick.tail))) ?_)))) ?_ ?_; exact fun w' hw' => (hlN V (m + 1) b w' hw' (by omega) (by omega) (by omega) (by omega) hprr).mono fun e w2 ⟨S', h1, h2, h3⟩ => ⟨⟨S', h2⟩, h1, h3⟩; rintro ⟨W, hW1, hW2⟩; have hlW := hW1.len; obtain ⟨y1, y2⟩ := x4 W hW1 hW2; dsimp only) | (exact absurd rfl ‹¬ _›) | (apply J.regQ; exact Tryz.mixed; decide +kernel) | (apply J.regL'; exact Tryz.mixed; decide +kernel)) <;> (refine goR ?_; and_intros <;> (try exact trivial) <;> repeat (first | refine fun (Bk : Nat) => ?_ | intro h)))
      all_goals first
        | exact J.fin (ih (m + 1) b _ _ W (w1.trans ((hv.mono hr.1 hr.2.2).trans (hW1.mono (by omega) (by omega)))) y1 y2 (by omega))
        | exact J.fin (ih a m _ _ W (w1.trans ((hv.mono hr.1 hr.2.2).trans (hW1.mono (by omega) (by omega)))) y1 y2 (by omega))
    · by_cases ha0 : a = 0
      · skip
        all_goals (refine goR ?_; and_intros <;> (try exact trivial) <;> repeat (first | refine fun (Bk : Nat) => ?_ | intro h))
        repeat' ((first | (apply J.regA (.q 0 <| .q 1 <| .q 2 <| .q 3 <| .q 4 <| .q 5 <| .q 6 <| .q 7 <| .q 8 <| .q 9 <| .q 10 <| .q 11 <| .q 12 <| .q 13 <| .q 14 <| .nil); exact Tryz.mixed; decide +kernel) | (refine G.cP (g := 187) (X := { t : List Int × Nat × Bool // WP U a b t.1 ∧ Par t.1 a t.2.1 b }) (fun t => .tuple #[.int .i64 (t.1.2.1 : Nat), .bool t.1.2.2]) [.blk g 3 (flat isV U) tot] (fun x => [.blk g 3 (flat isV x.1.1) tot]) rfl rfl (by (repeat (first | exact List.Perm.refl _ | (refine pickT (by (repeat (first | exact Pick.head | apply Pick.tail))) ?_)))) ?_ ?_; exact fun w' hw' => (partition_holds _ _ w' g tot n cp U a b p hw' (by omega) (by omega) hl (by omega)).mono fun e w2 ⟨S', m, bo, h1, h2, h3⟩ => ⟨⟨(S', m, bo), h1⟩, h2, h3⟩; rintro ⟨⟨V, m, bo⟩, hv, hpar⟩; have hlv := hv.len; have hpr := hpar.1; obtain ⟨⟨x1, x2⟩, x3, x4⟩ := w4 V m hv hpar; dsimp only at hv hpar hlv hpr x1 x2 x3 x4 ⊢; have hpl : Pre V a m := fun h0 z h1 h2 => x2 h0 z h1 (by omega); have hprr : Pre V (m + 1) b := fun h0 z h1 h2 => by rw [Nat.add_sub_cancel]; exact hpar.2.2 z (by omega) h2) | (refine G.cP (d := 121) (g := 166) (X := { W // WP V a m W ∧ Srt W a m }) (fun _ => .tuple #[]) [.blk g 3 (flat isV V) tot] (fun x => [.blk g 3 (flat isV x.1) tot]) rfl rfl (by (repeat (first | exact List.Perm.refl _ | (refine pickT (by (repeat (first | exact Pick.head | apply Pick.tail))) ?_)))) ?_ ?_; exact fun w' hw' => (hlN V a m w' hw' (by omega) (by omega) (by omega) (by omega) hpl).mono fun e w2 ⟨S', h1, h2, h3⟩ => ⟨⟨S', h2⟩, h1, h3⟩; rintro ⟨W, hW1, hW2⟩; have hlW := hW1.len; obtain ⟨y1, y2⟩ := x3 W hW1 hW2; dsimp only) | (refine G.cP (d := 132) (g := 166) (X := { W // WP V (m + 1) b W ∧ Srt W (m + 1) b }) (fun _ => .tuple #[]) [.blk g 3 (flat isV V) tot] (fun x => [.blk g 3 (flat isV x.1) tot]) rfl rfl (by (repeat (first | exact List.Perm.refl _ | (refine pickT (by (repeat (first | exact Pick.head | apply Pick.tail))) ?_)))) ?_ ?_; exact fun w' hw' => (hlN V (m + 1) b w' hw' (by omega) (by omega) (by omega) (by omega) hprr).mono fun e w2 ⟨S', h1, h2, h3⟩ => ⟨⟨S', h2⟩, h1, h3⟩; rintro ⟨W, hW1, hW2⟩; have hlW := hW1.len; obtain ⟨y1, y2⟩ := x4 W hW1 hW2; dsimp only) | (exact absurd rfl ‹¬ _›) | (apply J.regQ; exact Tryz.mixed; decide +kernel) | (apply J.regL'; exact Tryz.mixed; decide +kernel)) <;> (refine goR ?_; and_intros <;> (try exact trivial) <;> repeat (first | refine fun (Bk : Nat) => ?_ | intro h)))
        all_goals first
          | exact J.fin (ih (m + 1) b _ _ W (w1.trans ((hv.mono hr.1 hr.2.2).trans (hW1.mono (by omega) (by omega)))) y1 y2 (by omega))
          | exact J.fin (ih a m _ _ W (w1.trans ((hv.mono hr.1 hr.2.2).trans (hW1.mono (by omega) (by omega)))) y1 y2 (by omega))
      · rw [decide_eq_true ha] at hle
        all_goals (refine goR ?_; and_intros <;> (try exact trivial) <;> repeat (first | refine fun (Bk : Nat) => ?_ | intro h))
        repeat' ((first | (apply J.regA (.q 0 <| .q 1 <| .q 2 <| .q 3 <| .q 4 <| .q 5 <| .q 6 <| .q 7 <| .q 8 <| .q 9 <| .q 10 <| .q 11 <| .q 12 <| .q 13 <| .q 14 <| .nil); exact Tryz.mixed; decide +kernel) | (refine G.cP (g := 187) (X := { t : List Int × Nat × Bool // WP U a b t.1 ∧ Par t.1 a t.2.1 b }) (fun t => .tuple #[.int .i64 (t.1.2.1 : Nat), .bool t.1.2.2]) [.blk g 3 (flat isV U) tot] (fun x => [.blk g 3 (flat isV x.1.1) tot]) rfl rfl (by (repeat (first | exact List.Perm.refl _ | (refine pickT (by (repeat (first | exact Pick.head | apply Pick.tail))) ?_)))) ?_ ?_; exact fun w' hw' => (partition_holds _ _ w' g tot n cp U a b p hw' (by omega) (by omega) hl (by omega)).mono fun e w2 ⟨S', m, bo, h1, h2, h3⟩ => ⟨⟨(S', m, bo), h1⟩, h2, h3⟩; rintro ⟨⟨V, m, bo⟩, hv, hpar⟩; have hlv := hv.len; have hpr := hpar.1; obtain ⟨⟨x1, x2⟩, x3, x4⟩ := w4 V m hv hpar; dsimp only at hv hpar hlv hpr x1 x2 x3 x4 ⊢; have hpl : Pre V a m := fun h0 z h1 h2 => x2 h0 z h1 (by omega); have hprr : Pre V (m + 1) b := fun h0 z h1 h2 => by rw [Nat.add_sub_cancel]; exact hpar.2.2 z (by omega) h2) | (refine G.cP (d := 121) (g := 166) (X := { W // WP V a m W ∧ Srt W a m }) (fun _ => .tuple #[]) [.blk g 3 (flat isV V) tot] (fun x => [.blk g 3 (flat isV x.1) tot]) rfl rfl (by (repeat (first | exact List.Perm.refl _ | (refine pickT (by (repeat (first | exact Pick.head | apply Pick.tail))) ?_)))) ?_ ?_; exact fun w' hw' => (hlN V a m w' hw' (by omega) (by omega) (by omega) (by omega) hpl).mono fun e w2 ⟨S', h1, h2, h3⟩ => ⟨⟨S', h2⟩, h1, h3⟩; rintro ⟨W, hW1, hW2⟩; have hlW := hW1.len; obtain ⟨y1, y2⟩ := x3 W hW1 hW2; dsimp only) | (refine G.cP (d := 132) (g := 166) (X := { W // WP V (m + 1) b W ∧ Srt W (m + 1) b }) (fun _ => .tuple #[]) [.blk g 3 (flat isV V) tot] (fun x => [.blk g 3 (flat isV x.1) tot]) rfl rfl (by (repeat (first | exact List.Perm.refl _ | (refine pickT (by (repeat (first | exact Pick.head | apply Pick.tail))) ?_)))) ?_ ?_; exact fun w' hw' => (hlN V (m + 1) b w' hw' (by omega) (by omega) (by omega) (by omega) hprr).mono fun e w2 ⟨S', h1, h2, h3⟩ => ⟨⟨S', h2⟩, h1, h3⟩; rintro ⟨W, hW1, hW2⟩; have hlW := hW1.len; obtain ⟨y1, y2⟩ := x4 W hW1 hW2; dsimp only) | (apply G.ix (i := a - 1); rfl; rfl; omega; omega; rfl) | (apply G.ld; rfl; (apply LdV.one; exact CellV.blk (by exact mm) q1); rfl) | (apply G.ld; rfl; (apply LdV.one; exact CellV.blk (by exact mm) q2); rfl) | (apply G.cV (g := 185); rfl; rfl; exact fun w' _ => hle w') | (apply J.regQ; exact Tryz.mixed; decide +kernel) | (apply J.regL'; exact Tryz.mixed; decide +kernel)) <;> (refine goR ?_; and_intros <;> (try exact trivial) <;> repeat (first | refine fun (Bk : Nat) => ?_ | intro h)))
        all_goals first
          | exact J.fin (ih (m + 1) b _ _ W (w1.trans ((hv.mono hr.1 hr.2.2).trans (hW1.mono (by omega) (by omega)))) y1 y2 (by omega))
          | exact J.fin (ih a m _ _ W (w1.trans ((hv.mono hr.1 hr.2.2).trans (hW1.mono (by omega) (by omega)))) y1 y2 (by omega))
  · have ha0 : a ≠ 0 := fun e => ha (.inl e)
    have hlt : ¬ U.getD (a - 1) 0 < pv := fun e => ha (.inr e)
    have q1 := gI (S := U) (j := a - 1) (by omega)
    rw [decide_eq_false hlt] at hle
    all_goals (refine goR ?_; and_intros <;> (try exact trivial) <;> repeat (first | refine fun (Bk : Nat) => ?_ | intro h))
    repeat' ((first | (apply J.regA (.q 0 <| .q 1 <| .q 2 <| .q 3 <| .q 4 <| .q 5 <| .q 6 <| .q 7 <| .q 8 <| .q 9 <| .q 10 <| .q 11 <| .q 12 <| .q 13 <| .q 14 <| .nil); exact Tryz.mixed; decide +kernel) | (apply G.ix (i := a - 1); rfl; rfl; omega; omega; rfl) | (apply G.ld; rfl; (apply LdV.one; exact CellV.blk (by exact mm) q1); rfl) | (apply G.ld; rfl; (apply LdV.one; exact CellV.blk (by exact mm) q2); rfl) | (apply G.cV (g := 185); rfl; rfl; exact fun w' _ => hle w') | (refine G.cP (g := 186) (X := { t : List Int × Nat // WP U a b t.1 ∧ EIn t.1 a t.2 t.2 b ∧ t.1.getD a 0 = U.getD p 0 }) (fun t => .int .i64 (t.1.2 : Nat)) [.blk g 3 (flat isV U) tot] (fun x => [.blk g 3 (flat isV x.1.1) tot]) rfl rfl (by (repeat (first | exact List.Perm.refl _ | (refine pickT (by (repeat (first | exact Pick.head | apply Pick.tail))) ?_)))) ?_ ?_; exact fun w' hw' => (partEqual_holds _ _ w' g tot n cp U a b p hw' (by omega) (by omega) hl (by omega)).mono fun e w2 ⟨S', m, h1, h2, h3⟩ => ⟨⟨(S', m), h1⟩, h2, h3⟩; rintro ⟨⟨V, m⟩, hv, hE, hV⟩; have hlv := hv.len; have e1 := hE.h1; have e3 := hE.h3; dsimp only at hv hE hV hlv e1 e3 ⊢) | (apply J.regQ; exact Tryz.mixed; decide +kernel) | (apply J.regL'; exact Tryz.mixed; decide +kernel)) <;> (refine goR ?_; and_intros <;> (try exact trivial) <;> repeat (first | refine fun (Bk : Nat) => ?_ | intro h)))
    have hq := (w2.perm hv (by omega)).equal hE fun z h1 h2 => by
      have h3 := (w3.perm hv (by omega)) (by omega) z h1 h2
      rw [hv.out (a - 1) (by omega)] at h3
      rw [hV, hpv]; omega
    exact J.fin (ih m b _ _ V (w1.trans (hv.mono hr.1 hr.2.2)) hq.1 hq.2 (by omega))
end Go.Proofs.YtcdgibkbbcekhaaGreatDoor
/-
  Contracts: slices.Sort of an own slice.
-/
namespace Go.Proofs.YtcdgibkbbcekhaaGreatDoor
open Go.RowKit Go.Sl Go.Num
theorem sort_holds (w0 : World) (M : List Row) (w : World) (au : Option Addr) (n cu : Nat) (S : List Int) (hw : Sat w0 (.own 0 (.slice au n cu) 3 1 n (flat isV S) :: M) w) (hn : n = S.length) (hl : n ≤ 1000000000) :
    Calls Tryz.prog 127 #[.slice au n cu] w fun e w' => ∃ S', e = .returned (.tuple #[]) ∧ (S'.Perm S ∧ S'.Pairwise (· ≤ ·)) ∧ Sat w0 (.own 0 (.slice au n cu) 3 1 n (flat isV S') :: M) w' := by
  rcases Nat.eq_zero_or_pos n with h0 | h0
  · exact sort12_holds w0 M w au n cu S hw hn (by omega)
  have hlen : ∀ w', Below w0.heap.size w0 w' → Calls Tryz.prog 167 #[.int .u64 n] w' fun e w2 => ∃ x : { z : Nat // z ≤ 1000 }, e = .returned (.int .i64 (x.1 : Nat)) ∧ Below w'.heap.size w' w2 := fun w' _ => (len_holds n w' (by omega)).mono fun e w2 ⟨z, h1, h2, h3⟩ => ⟨⟨z.toNat, by omega⟩, h2.trans (by dsimp only; rw [Int.toNat_of_nonneg h1.1]), h3⟩
  refine enterR [(0, .slice au n cu)] hw Tryz.func127 Tryz.ntmps127 ?_
  refine J.ownOpen RAt.head h0 fun g cap h1 h2 h3 => ?_
  cases h3
  all_goals (refine go ?_; and_intros <;> (try exact trivial) <;> repeat (first | refine fun (Bk : Nat) => ?_ | intro h))
  repeat' ((first | (refine G.cX (X := { z : Nat // z ≤ 1000 }) (v := fun z => .int .i64 (z.1 : Nat)) (fun w' hb => hlen w' hb) ?_; rintro ⟨z, hz⟩; dsimp only) | (refine G.cP (X := { S' // WP S 0 n S' ∧ Srt S' 0 n }) (fun _ => .tuple #[]) [.blk g 3 (flat isV S) (cu * 1)] (fun x => [.blk g 3 (flat isV x.1) (cu * 1)]) rfl rfl (List.Perm.refl _) (fun w' hw' => (pdq_holds g (cu * 1) n cu hl n w0 M w' S 0 n z hw' (Nat.le_refl _) hn (Nat.zero_le _) (by omega) (fun h => absurd h (Nat.lt_irrefl _)) hz).mono fun e w2 ⟨S', h1, h2, h3⟩ => ⟨⟨S', h2⟩, h1, h3⟩) ?_; rintro ⟨S', hS', hs⟩)) <;> (refine go ?_; and_intros <;> (try exact trivial) <;> repeat (first | refine fun (Bk : Nat) => ?_ | intro h)))
  have hl := hS'.len
  dsimp only
  refine J.blkCut (g := g) (l' := S') n isV_len RAt.head h1 h2 (by omega) (List.take_of_length_le (by omega)) ?_
  refine end0 Tryz.func127 Tryz.results127 ?_
  exact fun w' hw' => ⟨S', rfl, ⟨hS'.per, srt_pair (by rw [show S'.length = n by omega]; exact hs)⟩, hw'⟩
end Go.Proofs.YtcdgibkbbcekhaaGreatDoor
/-
  Ranges over functions inside a round of another one.
-/
namespace Go.Sl
open Go.RowKit
variable {C : Ctx} {st : List (Nat × Value)} {M : List Row} {k : List Item} {q q' : Md} {all rest : List Oper} {d : Nat} {ty : TypeId} {pos : String} {after : Array Edge} {gd : Option (Nat × Bool)}
theorem enterIn {P : Program} {w : World} {l : Nat} {r : Loop} (h : w.heap[l]? = some (.loop r)) (fn : FuncId) (tmps : Array Value) (ps : Array Tmp) (assign body : Code) :
    (Instr.enterLoop fn tmps ps assign body (some l)).run P w = .ok (w.heap.size, []) (w.alloc (.loop { state := .ready, pending := none, fn, tmps, params := ps, assign, body, defers := r.defers })) := by
  unfold Instr.enterLoop
  simp only [Sem.run_bind, run_getLoop h, run_newObj_alloc, Result.andThen, Sem.run_pure]
theorem Splt.pre (T : List Row) : ∀ K : List Row, Splt T (K ++ T) K
  | [] => .nil
  | _ :: K => .cons (Splt.pre T K)
theorem J.rangeIn {f : FuncId} [hF : Fun C.P f] {cap : Array Value} {g : Operand} {ps : Array Tmp} {assign body : Code} {X : Type} {l0 : Nat} {r0 : Loop} (Mx : X → List Row) (px : X → Option Code) (sx : X → LoopState) (hb : C.b.roundOf = some l0) (hl0 : Row.obj l0 (.loop r0) ∈ M) (hg : evS st g = some (.func (.func f) #[] cap)) (hsx : ∀ x, sx x ≠ .busy)
    (hcall : ∀ tmps L w (r : Loop), r = ⟨.ready, none, C.b.fn, tmps, ps, assign, body, r0.defers⟩ → Fits C.N st { tmps, defers := [] } → Sat C.w0 (.obj L (.loop r) :: M) w →
      Calls C.P f (#[.func (.yield L) #[] #[]] ++ cap) w fun e w' => ∃ v x, e = .returned v ∧ Sat C.w0 (.obj L (.loop { r with state := sx x, pending := px x }) :: Mx x) w')
    (h : ∀ x, J C st (Mx x) (((px x).map Item.code).toList ++ k)) :
    J C st M (.code (.rangeFunc g ps assign body) :: k) := .mk fun a w hf hd hw cs => by
  have he := enterIn (P := C.P) (hw.hold _ hl0) C.b.fn a.tmps ps assign body
  rw [← hb] at he
  have hs1 := hw.newObj (.loop ⟨.ready, none, C.b.fn, a.tmps, ps, assign, body, r0.defers⟩)
  have hev : a.eval g = .func (.func f) #[] cap := hf.eval hg
  have hres : ∀ w1, (resolve a.eval (rangeCall g w.heap.size) 0).run C.P w1 = .ok { target := .fn (.func f) cap, args := #[.func (.yield w.heap.size) #[] #[]] } w1 := by
    intro w1
    have hc : ∀ v : Value, a.eval (.const v) = v := fun _ => rfl
    simp [resolve, rangeCall, hev, Deferred.ofValue, hc]
  have hinv : ∀ w1, (invoke (.fn (.func f) cap) #[.func (.yield w.heap.size) #[] #[]]).run C.P w1 = .ok (.enter f (#[.func (.yield w.heap.size) #[] #[]] ++ cap)) w1 := by
    intro w1
    simp [invoke, hF.h]
  have henter := stepR_rangeFunc (P := C.P) (b := C.b) (a := a) (k := k) (cs := cs) (w := w) he (hres _) (hinv _)
  obtain ⟨e, w3, fr, ⟨v, x, rfl, hs3⟩, hsteps, hfn, hleave⟩ := hcall a.tmps w.heap.size _ _ rfl ⟨hf.size, hf.get⟩ hs1 (C.b.atR { a with defers := [] ++ a.defers } (.inRangeFunc w.heap.size :: k) :: cs)
  have hend := run_endLoop (P := C.P) (hs3.hold _ (.head _)) (hsx x)
  have hs4 := (hs3.putObj (i := 0) rfl (.loop ⟨.exhausted, px x, C.b.fn, a.tmps, ps, assign, body, r0.defers⟩)).forget (M' := Mx x) (List.sublist_cons_self _ _)
  obtain ⟨m, h1, h2⟩ := (h x).go { a with defers := [] ++ a.defers } _ ⟨hf.size, hf.get⟩ hd hs4 cs
  refine ⟨m, .head henter (hsteps.trans (.head ?_ (.head (stepR_endRangeFunc hend) h1))), h2⟩
  rw [← finish_atR_inRangeFunc w.heap.size v]; exact step_leave_returned hleave
/-- The function f with the captures cap calls yield with each of es, until it says false; what it kept in K is lost. -/
def IterE (P : Program) (w0 : World) (K : List Row) (f : FuncId) (cap : Array Value) {E : Type} (enc : E → List Value) (es : List E) : Prop :=
  ∀ {X : Type} (Rs : X → List Row) (Inv : Nat → X → Prop) (Out : X → Prop) (fY : Fn) (cY : Array Value),
    (∀ i x e, Inv i x → es[i]? = some e → ∀ M' w, Sat w0 (Rs x ++ M') w → CallsV P (.func fY #[] cY) (enc e) w fun v w' => ∃ x', Sat w0 (Rs x' ++ M') w' ∧ (v = .bool true ∧ Inv (i + 1) x' ∨ v = .bool false ∧ Out x')) →
    ∀ x0, Inv 0 x0 → ∀ M1 w, Sat w0 (K ++ (Rs x0 ++ M1)) w →
      Calls P f (#[.func fY #[] cY] ++ cap) w fun e w' => e = .returned (.tuple #[]) ∧ ∃ x', Sat w0 (Rs x' ++ M1) w' ∧ (Inv es.length x' ∨ Out x')
/-- The statement inside a round; its own rounds may leave it. -/
theorem J.rangeI1 {f : FuncId} [hF : Fun C.P f] {cap : Array Value} {g : Operand} {p1 : Tmp} {assign body : Code} {E : Type} {e1 : E → Value} {es : List E} {K : List Row} {X : Type} {l0 : Nat} {r0 : Loop} (Rs : X → List Row) (Inv : Nat → X → Prop) (Out : Code → X → Prop) (x0 : X) (M1 : List Row)
    (hIt : IterE C.P C.w0 K f cap (fun e => [e1 e]) es) (hb : C.b.roundOf = some l0) (hl0 : Row.obj l0 (.loop r0) ∈ M) (hg : evS st g = some (.func (.func f) #[] cap)) (hp1 : Nat.blt p1 C.N = true) (hM : M.Perm (K ++ (Rs x0 ++ M1))) (hI : Inv 0 x0)
    (hround : ∀ i x e, Inv i x → es[i]? = some e → ∀ L (r : Loop) M', r.state = .ready → r.pending = none →
      J (rctx C.P L C.b.fn C.N (RoundR C.w0 L r Rs M' (Inv (i + 1)) Out) C.w0) ((p1, e1 e) :: st) (.obj L (.loop r) :: Rs x ++ M') [.code assign, .beginRound, .code body])
    (h1 : ∀ x, Inv es.length x → J C st (Rs x ++ M1) k)
    (h2 : ∀ x c, Out c x → J C st (Rs x ++ M1) (.code c :: k)) :
    J C st M (.code (.rangeFunc g #[p1] assign body) :: k) := by
  refine J.perm hM (J.rangeIn (f := f) (cap := cap) (X := { x : X × Option Code // match x.2 with | none => Inv es.length x.1 | some c => Out c x.1 }) (fun x => Rs x.1.1 ++ M1) (fun x => x.1.2) (fun x => loopSt x.1.2) hb (hM.mem_iff.1 hl0) hg (fun x => by rcases x with ⟨⟨_, _ | _⟩, _⟩ <;> simp [loopSt]) ?_ fun x => ?_)
  · intro tmps L w r hr hfit hw
    have hrs : r.state = .ready := by rw [hr]
    have hrp : r.pending = none := by rw [hr]
    have hperm : ∀ (o : Obj) x, (Row.obj L o :: (K ++ (Rs x ++ M1))).Perm (K ++ ((.obj L o :: Rs x) ++ M1)) := fun o x =>
      perm_cat [[Row.obj L o], K, Rs x, M1] [0, 1, 2, 3] [1, 0, 2, 3] rfl
    have hmain := hIt (X := X × Option Code) (fun x => Row.obj L (.loop (loopAt r x.2)) :: Rs x.1) (fun i x => x.2 = none ∧ Inv i x.1) (fun x => ∃ c, x.2 = some c ∧ Out c x.1) (.yield L) #[] ?_ (x0, none) ⟨rfl, hI⟩ M1 w (hw.perm (hperm _ x0))
    · refine hmain.mono fun e w2 ⟨q1, ⟨x, o⟩, q2, q3⟩ => ?_
      have key : Sat C.w0 (.obj L (.loop { r with state := loopSt o, pending := o }) :: (Rs x ++ M1)) w2 := by
        have h3 := q2
        cases o with
        | none =>
          have hrr : ({ r with state := .ready, pending := none } : Loop) = r := by rw [hr]
          show Sat C.w0 (.obj L (.loop { r with state := .ready, pending := none }) :: _) w2
          rw [hrr]; exact h3
        | some c => exact h3
      rcases q3 with ⟨q4, q5⟩ | ⟨c, q4, q5⟩
      · dsimp only at q4; subst q4
        exact ⟨_, ⟨(x, none), q5⟩, q1, key⟩
      · dsimp only at q4; subst q4
        exact ⟨_, ⟨(x, some c), q5⟩, q1, key⟩
    · rintro i ⟨x, o⟩ e ⟨h3, h4⟩ h5 M' w1 hw1
      dsimp only at h3 h4 hw1; subst h3
      have h6 := hround i x e h4 h5 L r M' hrs hrp
      refine .yield L r rfl (hw1.hold _ (.head _)) (by rw [hr]; rfl) ?_
      have hf6 := hfit.put hp1 (e1 e)
      have e3 : (r.params.zip [e1 e].toArray).foldl (fun tmps (t, a) => tmps.setIfInBounds t a) r.tmps = (({ tmps := tmps, defers := [] } : Act).put (some p1) (e1 e)).tmps := by
        have e0 : ((#[p1] : Array Tmp).zip [e1 e].toArray) = #[(p1, e1 e)] := by simp
        rw [hr]; dsimp only; rw [e0]; simp [Act.put]
      rw [e3, show r.fn = C.b.fn by rw [hr], show r.assign = assign by rw [hr], show r.body = body by rw [hr]]
      have h7 := rounds_of hf6 hw1 h6
      intro c cs
      obtain ⟨v, w', ⟨x', h8⟩, h9⟩ := h7 c cs
      refine ⟨v, w', ?_, h9⟩
      rcases h8 with ⟨g1, g2, g3⟩ | ⟨cc, g1, g2, g3⟩
      · exact ⟨(x', none), g3, .inl ⟨g1, rfl, g2⟩⟩
      · exact ⟨(x', some cc), g3, .inr ⟨g1, cc, rfl, g2⟩⟩
  · rcases x with ⟨⟨x, _ | c⟩, hx⟩
    · exact h1 x hx
    · exact h2 x c hx
/-- The statement, where a round may leave. -/
theorem J.rangeE1 {f : FuncId} [hF : Fun C.P f] {cap : Array Value} {g : Operand} {p1 : Tmp} {assign body : Code} {E : Type} {e1 : E → Value} {es : List E} {K : List Row} {X : Type} (Rs : X → List Row) (Inv : Nat → X → Prop) (Out : Code → X → Prop) (x0 : X) (M1 : List Row)
    (hIt : IterE C.P C.w0 K f cap (fun e => [e1 e]) es) (hb : C.b.roundOf = none) (hg : evS st g = some (.func (.func f) #[] cap)) (hp1 : Nat.blt p1 C.N = true) (hM : M.Perm (K ++ (Rs x0 ++ M1))) (hI : Inv 0 x0)
    (hround : ∀ i x e, Inv i x → es[i]? = some e → ∀ L (r : Loop) M', r.state = .ready → r.pending = none →
      J (rctx C.P L C.b.fn C.N (RoundR C.w0 L r Rs M' (Inv (i + 1)) Out) C.w0) ((p1, e1 e) :: st) (.obj L (.loop r) :: Rs x ++ M') [.code assign, .beginRound, .code body])
    (h1 : ∀ Bd x, Inv es.length x → J { C with D := mark Bd :: C.D } st (.obj Bd (.deferred (some [])) :: (Rs x ++ M1)) k)
    (h2 : ∀ Bd x c, Out c x → J { C with D := mark Bd :: C.D } st (.obj Bd (.deferred (some [])) :: (Rs x ++ M1)) (.code c :: k)) :
    J C st M (.code (.rangeFunc g #[p1] assign body) :: k) := by
  refine J.perm hM (J.range (f := f) (cap := cap) (X := { x : X × Option Code // match x.2 with | none => Inv es.length x.1 | some c => Out c x.1 }) (fun x => Rs x.1.1 ++ M1) (fun x => x.1.2) (fun x => loopSt x.1.2) hb hg (fun x => by rcases x with ⟨⟨_, _ | _⟩, _⟩ <;> simp [loopSt]) ?_ fun Bd x => ?_)
  · intro tmps Bd L w r hr hfit hw
    have hrs : r.state = .ready := by rw [hr]
    have hrp : r.pending = none := by rw [hr]
    have hperm : ∀ (o : Obj) x, (Row.obj L o :: .obj Bd (.deferred (some [])) :: (K ++ (Rs x ++ M1))).Perm (K ++ ((.obj L o :: Rs x) ++ (.obj Bd (.deferred (some [])) :: M1))) := fun o x =>
      perm_cat [[Row.obj L o], [.obj Bd (.deferred (some []))], K, Rs x, M1] [0, 1, 2, 3, 4] [2, 0, 3, 1, 4] rfl
    have hperm2 : ∀ (o : Obj) x, (Row.obj L o :: .obj Bd (.deferred (some [])) :: (Rs x ++ M1)).Perm ((.obj L o :: Rs x) ++ (.obj Bd (.deferred (some [])) :: M1)) := fun o x =>
      perm_cat [[Row.obj L o], [.obj Bd (.deferred (some []))], Rs x, M1] [0, 1, 2, 3] [0, 2, 1, 3] rfl
    have hmain := hIt (X := X × Option Code) (fun x => Row.obj L (.loop (loopAt r x.2)) :: Rs x.1) (fun i x => x.2 = none ∧ Inv i x.1) (fun x => ∃ c, x.2 = some c ∧ Out c x.1) (.yield L) #[] ?_ (x0, none) ⟨rfl, hI⟩ (.obj Bd (.deferred (some [])) :: M1) w (hw.perm (hperm _ x0))
    · refine hmain.mono fun e w2 ⟨q1, ⟨x, o⟩, q2, q3⟩ => ?_
      have key : Sat C.w0 (.obj L (.loop { r with state := loopSt o, pending := o }) :: .obj Bd (.deferred (some [])) :: (Rs x ++ M1)) w2 := by
        have h3 := q2.perm (hperm2 _ x).symm
        cases o with
        | none =>
          have hrr : ({ r with state := .ready, pending := none } : Loop) = r := by rw [hr]
          show Sat C.w0 (.obj L (.loop { r with state := .ready, pending := none }) :: _) w2
          rw [hrr]; exact h3
        | some c => exact h3
      rcases q3 with ⟨q4, q5⟩ | ⟨c, q4, q5⟩
      · dsimp only at q4; subst q4
        exact ⟨_, ⟨(x, none), q5⟩, q1, key⟩
      · dsimp only at q4; subst q4
        exact ⟨_, ⟨(x, some c), q5⟩, q1, key⟩
    · rintro i ⟨x, o⟩ e ⟨h3, h4⟩ h5 M' w1 hw1
      dsimp only at h3 h4 hw1; subst h3
      have h6 := hround i x e h4 h5 L r M' hrs hrp
      refine .yield L r rfl (hw1.hold _ (.head _)) (by rw [hr]; rfl) ?_
      have hf6 := hfit.put hp1 (e1 e)
      have e3 : (r.params.zip [e1 e].toArray).foldl (fun tmps (t, a) => tmps.setIfInBounds t a) r.tmps = (({ tmps := tmps, defers := [] } : Act).put (some p1) (e1 e)).tmps := by
        have e0 : ((#[p1] : Array Tmp).zip [e1 e].toArray) = #[(p1, e1 e)] := by simp
        rw [hr]; dsimp only; rw [e0]; simp [Act.put]
      rw [e3, show r.fn = C.b.fn by rw [hr], show r.assign = assign by rw [hr], show r.body = body by rw [hr]]
      have h7 := rounds_of hf6 hw1 h6
      intro c cs
      obtain ⟨v, w', ⟨x', h8⟩, h9⟩ := h7 c cs
      refine ⟨v, w', ?_, h9⟩
      rcases h8 with ⟨g1, g2, g3⟩ | ⟨cc, g1, g2, g3⟩
      · exact ⟨(x', none), g3, .inl ⟨g1, rfl, g2⟩⟩
      · exact ⟨(x', some cc), g3, .inr ⟨g1, cc, rfl, g2⟩⟩
  · rcases x with ⟨⟨x, _ | c⟩, hx⟩
    · exact h1 Bd x hx
    · exact h2 Bd x c hx
/-- A store of a struct at a place of a block. -/
theorem G.sA {T n : TypeId} {x y : Operand} {vs : List Value} {b j tot : Nat} {e : TypeId} {cs out : List Value} {F : Row → List Row} (hs : wqB all st gd q.res = some q')
    (hx : evS st x = some (.pointer (some ⟨b, j, none⟩))) (hy : evS st y = some (.agg vs.toArray)) (hm : RAt (.blk b e cs tot) M F) [hT : TSize C.P T n] (hn : vs.length = n) (h1 : vs.all (·.oneCell') = true) (hj : j + vs.length ≤ cs.length) (ho : setL cs j vs = out)
    (h : G q' C all st (F (.blk b e out tot)) rest k) :
    G q C all st M ({ dst := none, op := .store T x y, type := ty, pos, after, guard := gd } :: rest) k := by
  obtain ⟨g1, g2⟩ := wqB_ok hs
  obtain ⟨i, h5, h6⟩ := hm.idx
  subst ho
  rw [← h6] at h
  exact G.storeI (vs := vs) g1 g2 hx h5 hy rfl h1 hj hn h
end Go.Sl
/-
  Ranges over functions that hand out a list in whatever order.
-/
namespace Go.Sl
open Go.RowKit
variable {C : Ctx} {st : List (Nat × Value)} {M : List Row} {k : List Item} {q q' : Md} {all rest : List Oper} {d : Nat} {ty : TypeId} {pos : String} {after : Array Edge} {gd : Option (Nat × Bool)}
/-- The function f with the captures cap calls yield once with each of es, in whatever order. -/
def IterP (P : Program) (w0 : World) (K : List Row) (f : FuncId) (cap : Array Value) {E : Type} (enc : E → List Value) (es : List E) : Prop :=
  ∀ {X : Type} (Rs : X → List Row) (Inv : List E → X → Prop) (fY : Fn) (cY : Array Value),
    (∀ R x i (hi : i < R.length), Inv R x → ∀ M' w, Sat w0 (Rs x ++ M') w → CallsV P (.func fY #[] cY) (enc R[i]) w fun v w' => ∃ x', Sat w0 (Rs x' ++ M') w' ∧ v = .bool true ∧ Inv (R.eraseIdx i) x') →
    ∀ x0, Inv es x0 → ∀ M1 w, Sat w0 (K ++ (Rs x0 ++ M1)) w →
      Calls P f (#[.func fY #[] cY] ++ cap) w fun e w' => e = .returned (.tuple #[]) ∧ ∃ x', Sat w0 (Rs x' ++ M1) w' ∧ Inv [] x'
/-- What a round of such a loop leaves behind. -/
def RoundP (w0 : World) (L : Nat) (r : Loop) {X : Type} (Rs : X → List Row) (M' : List Row) (Go : X → Prop) (v : Value) (w' : World) : Prop :=
  ∃ x', v = .bool true ∧ Go x' ∧ Sat w0 (.obj L (.loop r) :: Rs x' ++ M') w'
theorem J.rangeP1 {f : FuncId} [hF : Fun C.P f] {cap : Array Value} {g : Operand} {p1 : Tmp} {assign body : Code} {E : Type} {e1 : E → Value} {es : List E} {K : List Row} {X : Type} (Rs : X → List Row) (Inv : List E → X → Prop) (x0 : X) (M1 : List Row)
    (hIt : IterP C.P C.w0 K f cap (fun e => [e1 e]) es) (hb : C.b.roundOf = none) (hg : evS st g = some (.func (.func f) #[] cap)) (hp1 : Nat.blt p1 C.N = true) (hM : M.Perm (K ++ (Rs x0 ++ M1))) (hI : Inv es x0)
    (hround : ∀ R x i (hi : i < R.length), Inv R x → ∀ L (r : Loop) M', r.state = .ready → r.pending = none →
      J (rctx C.P L C.b.fn C.N (RoundP C.w0 L r Rs M' (Inv (R.eraseIdx i))) C.w0) ((p1, e1 R[i]) :: st) (.obj L (.loop r) :: Rs x ++ M') [.code assign, .beginRound, .code body])
    (h1 : ∀ Bd x, Inv [] x → J { C with D := mark Bd :: C.D } st (.obj Bd (.deferred (some [])) :: (Rs x ++ M1)) k) :
    J C st M (.code (.rangeFunc g #[p1] assign body) :: k) := by
  refine J.perm hM (J.range (f := f) (cap := cap) (X := { x : X // Inv [] x }) (fun x => Rs x.1 ++ M1) (fun _ => none) (fun _ => .ready) hb hg (fun x => by simp) ?_ fun Bd x => h1 Bd x.1 x.2)
  intro tmps Bd L w r hr hfit hw
  have hrs : r.state = .ready := by rw [hr]
  have hrp : r.pending = none := by rw [hr]
  have hperm : ∀ (o : Obj) x, (Row.obj L o :: .obj Bd (.deferred (some [])) :: (K ++ (Rs x ++ M1))).Perm (K ++ ((.obj L o :: Rs x) ++ (.obj Bd (.deferred (some [])) :: M1))) := fun o x =>
    perm_cat [[Row.obj L o], [.obj Bd (.deferred (some []))], K, Rs x, M1] [0, 1, 2, 3, 4] [2, 0, 3, 1, 4] rfl
  have hperm2 : ∀ (o : Obj) x, (Row.obj L o :: .obj Bd (.deferred (some [])) :: (Rs x ++ M1)).Perm ((.obj L o :: Rs x) ++ (.obj Bd (.deferred (some [])) :: M1)) := fun o x =>
    perm_cat [[Row.obj L o], [.obj Bd (.deferred (some []))], Rs x, M1] [0, 1, 2, 3] [0, 2, 1, 3] rfl
  have hmain := hIt (X := X) (fun x => Row.obj L (.loop r) :: Rs x) (fun R x => Inv R x) (.yield L) #[] ?_ x0 hI (.obj Bd (.deferred (some [])) :: M1) w (hw.perm (hperm _ x0))
  · refine hmain.mono fun e w2 ⟨q1, x, q2, q3⟩ => ?_
    have hrr : ({ r with state := .ready, pending := none } : Loop) = r := by rw [hr]
    refine ⟨_, ⟨x, q3⟩, q1, ?_⟩
    show Sat C.w0 (.obj L (.loop { r with state := .ready, pending := none }) :: _) w2
    rw [hrr]; exact q2.perm (hperm2 _ x).symm
  · intro R x i hi h4 M' w1 hw1
    have h6 := hround R x i hi h4 L r M' hrs hrp
    refine .yield L r rfl (hw1.hold _ (.head _)) (by rw [hr]; rfl) ?_
    have hf6 := hfit.put hp1 (e1 R[i])
    have e3 : (r.params.zip [e1 R[i]].toArray).foldl (fun tmps (t, a) => tmps.setIfInBounds t a) r.tmps = (({ tmps := tmps, defers := [] } : Act).put (some p1) (e1 R[i])).tmps := by
      have e0 : ((#[p1] : Array Tmp).zip [e1 R[i]].toArray) = #[(p1, e1 R[i])] := by simp
      rw [hr]; dsimp only; rw [e0]; simp [Act.put]
    rw [e3, show r.fn = C.b.fn by rw [hr], show r.assign = assign by rw [hr], show r.body = body by rw [hr]]
    have h7 := rounds_of hf6 hw1 h6
    intro c cs
    obtain ⟨v, w', ⟨x', h8, h9, h10⟩, h11⟩ := h7 c cs
    exact ⟨v, w', ⟨x', h10, h8, h9⟩, h11⟩
theorem leaveP {P : Program} {l : Nat} {F : FuncId} {N : Nat} {w0 : World} {r : Loop} {X : Type} {Rs : X → List Row} {M' : List Row} {Gt : X → Prop} (h1 : r.state = .ready) (h2 : r.pending = none) (x : X) (hx : Gt x) (hM : M = .obj l (.loop (busy r)) :: Rs x ++ M') : J (rctx P l F N (RoundP w0 l r Rs M' Gt) w0) st M [] := by
  subst hM
  exact leaveR h1 h2 (i := 0) rfl fun w' hw' => ⟨x, rfl, hx, hw'⟩
end Go.Sl
/-
  Families of maps that nobody writes any more.
-/
namespace Go.Sl
open Go.RowKit
variable {C : Ctx} {st : List (Nat × Value)} {M : List Row} {k : List Item} {q q' : Md} {all rest : List Oper} {d : Nat} {opn : Op} {ty : TypeId} {pos : String} {after : Array Edge} {gd : Option (Nat × Bool)}
section
variable {κ : Type} [DecidableEq κ]
def mfAt (kf : κ → Value) (o : List (Nat × List (κ × Value))) (w : World) : Prop := ∀ r ∈ o, ∃ es c, w.heap[r.1]? = some (.map es c) ∧ MapIs kf es c r.2
/-- The maps of a list. -/
def mfRow (kf : κ → Value) (o : List (Nat × List (κ × Value))) : Row :=
  .fact 0 (fun b => ∃ r ∈ o, b = r.1) (mfAt kf o) fun w w' h hw r hr => by
    obtain ⟨es, c, h1, h2⟩ := hw r hr
    exact ⟨es, c, by rw [h r.1 (.inr ⟨r, hr, rfl⟩)]; exact h1, h2⟩
theorem Sat.mf {w0 w : World} {kf : κ → Value} {o : List (Nat × List (κ × Value))} (h : Sat w0 M w) (hm : mfRow kf o ∈ M) : mfAt kf o w := h.hold _ hm
theorem J.mf0 (kf : κ → Value) (h : J C st (mfRow kf [] :: M) k) : J C st M k := .mk fun a w hf hd hw =>
  h.go a w hf hd (hw.addFact (Nat.zero_le _) (fun r hr => by cases hr) fun b hb => by obtain ⟨r, hr, _⟩ := hb; cases hr)
theorem Sat.mfAdd {w0 w : World} {kf : κ → Value} {o : List (Nat × List (κ × Value))} {b : Nat} {es : Array MapEntry} {c : Nat} {L : List (κ × Value)} (hw : Sat w0 (.obj b (.map es c) :: M) w) (hm : mfRow kf o ∈ M) (hI : MapIs kf es c L) : Sat w0 (mfRow kf (o ++ [(b, L)]) :: M) w := by
  have hw2 := hw.forget (List.sublist_cons_self _ M)
  have ho := hw2.old _ hm
  have hb := hw.old _ (List.mem_cons_self ..)
  refine hw2.addFact (Nat.zero_le _) (fun r hr => ?_) fun x hx => ?_
  · rcases List.mem_append.1 hr with h | h
    · exact hw2.mf hm r h
    · rw [List.mem_singleton.1 h]
      exact ⟨es, c, hw.hold _ (List.mem_cons_self ..), hI⟩
  · obtain ⟨r, hr, rfl⟩ := hx
    rcases List.mem_append.1 hr with h | h
    · have h2 : (mfRow kf o).sup r.1 := ⟨r, h, rfl⟩
      exact ⟨(ho.2 _ h2).1, (ho.2 _ h2).2, fun s hs => hw2.noLock hm (fun _ h => h) hs h2⟩
    · rw [List.mem_singleton.1 h]
      have h2 : (Row.obj b (.map es c)).sup b := rfl
      refine ⟨(hb.2 _ h2).1, (hb.2 _ h2).2, fun s hs hl => ?_⟩
      exact ((List.pairwise_cons.1 hw.apart).1 s hs b).1 rfl (Row.lock_sup hl)
theorem J.mfAdd {kf : κ → Value} {o : List (Nat × List (κ × Value))} {b : Nat} {es : Array MapEntry} {c : Nat} {L : List (κ × Value)} {M' : List Row} (hp : Pick (.obj b (.map es c)) M M') (hm : mfRow kf o ∈ M') (hI : MapIs kf es c L) (h : J C st (mfRow kf (o ++ [(b, L)]) :: M') k) : J C st M k :=
  .mk fun a w hf hd hw => h.go a w hf hd ((hw.perm hp.perm).mfAdd hm hI)
end
end Go.Sl
/-
  Plain laws of rights: fair takes are unique, and grow with the water.
-/
namespace Go.Proofs.YtcdgibkbbcekhaaGreatDoor
/-! ### sums -/
/-- The sum of numbers of a list's elements. -/
def qs {α : Type} (L : List α) (f : α → Rat) : Rat := L.foldr (fun x s => f x + s) 0
theorem qs_nil {α : Type} (f : α → Rat) : qs [] f = 0 := rfl
theorem qs_cons {α : Type} (x : α) (L : List α) (f : α → Rat) : qs (x :: L) f = f x + qs L f := rfl
theorem qs_app {α : Type} (f : α → Rat) : ∀ L M : List α, qs (L ++ M) f = qs L f + qs M f
  | [], M => by rw [List.nil_append, qs_nil, Rat.zero_add]
  | x :: L, M => by rw [List.cons_append, qs_cons, qs_cons, qs_app f L M]; grind
theorem qs_map {α β : Type} (h : α → β) (f : β → Rat) : ∀ L : List α, qs (L.map h) f = qs L fun x => f (h x)
  | [] => rfl
  | x :: L => by rw [List.map_cons, qs_cons, qs_cons, qs_map h f L]
theorem qs_congr {α : Type} {f g : α → Rat} : ∀ {L : List α}, (∀ x ∈ L, f x = g x) → qs L f = qs L g
  | [], _ => rfl
  | x :: L, h => by rw [qs_cons, qs_cons, h x (by simp), qs_congr fun y hy => h y (by simp [hy])]
theorem qs_zero {α : Type} : ∀ (L : List α), qs L (fun _ => 0) = 0
  | [] => rfl
  | x :: L => by rw [qs_cons, qs_zero L, Rat.zero_add]
theorem qs_add {α : Type} (f g : α → Rat) : ∀ L : List α, qs L (fun x => f x + g x) = qs L f + qs L g
  | [] => by rw [qs_nil, qs_nil, qs_nil]; grind
  | x :: L => by rw [qs_cons, qs_cons, qs_cons, qs_add f g L]; grind
theorem qs_sub {α : Type} (f g : α → Rat) : ∀ L : List α, qs L (fun x => f x - g x) = qs L f - qs L g
  | [] => by rw [qs_nil, qs_nil, qs_nil]; grind
  | x :: L => by rw [qs_cons, qs_cons, qs_cons, qs_sub f g L]; grind
theorem qs_mul {α : Type} (c : Rat) (f : α → Rat) : ∀ L : List α, qs L (fun x => c * f x) = c * qs L f
  | [] => by rw [qs_nil, qs_nil]; grind
  | x :: L => by rw [qs_cons, qs_cons, qs_mul c f L]; grind
theorem qs_le {α : Type} {f g : α → Rat} : ∀ {L : List α}, (∀ x ∈ L, f x ≤ g x) → qs L f ≤ qs L g
  | [], _ => by rw [qs_nil, qs_nil]; grind
  | x :: L, h => by
    have h1 := h x (by simp)
    have h2 := qs_le (L := L) fun y hy => h y (by simp [hy])
    rw [qs_cons, qs_cons]; grind
theorem qs_nn {α : Type} {f : α → Rat} {L : List α} (h : ∀ x ∈ L, 0 ≤ f x) : 0 ≤ qs L f := by
  have := qs_le (L := L) (f := fun _ => 0) (g := f) h
  rwa [qs_zero] at this
theorem qs_lt {α : Type} {f g : α → Rat} : ∀ {L : List α}, (∀ x ∈ L, f x ≤ g x) → ∀ k, k ∈ L → f k < g k → qs L f < qs L g
  | x :: L, h, k, hk, hl => by
    have h1 := h x (by simp)
    have h2 := qs_le (L := L) fun y hy => h y (by simp [hy])
    rw [qs_cons, qs_cons]
    rcases List.mem_cons.1 hk with rfl | hk
    · grind
    · have := qs_lt (L := L) (fun y hy => h y (by simp [hy])) k hk hl
      grind
theorem qs_mem {α : Type} {f : α → Rat} {L : List α} (h : ∀ x ∈ L, 0 ≤ f x) {k : α} (hk : k ∈ L) : f k ≤ qs L f := by
  induction L with
  | nil => cases hk
  | cons x L ih =>
    have h1 := h x (by simp)
    have h2 := qs_nn (L := L) (f := f) fun y hy => h y (by simp [hy])
    rw [qs_cons]
    rcases List.mem_cons.1 hk with rfl | hk
    · grind
    · have := ih (fun y hy => h y (by simp [hy])) hk
      grind
theorem qs_perm {α : Type} {f : α → Rat} {L M : List α} (h : L.Perm M) : qs L f = qs M f := by
  induction h with
  | nil => rfl
  | cons x _ ih => rw [qs_cons, qs_cons, ih]
  | swap x y l => rw [qs_cons, qs_cons, qs_cons, qs_cons]; grind
  | trans _ _ h1 h2 => rw [h1, h2]
theorem qs_filter {α : Type} {f : α → Rat} {p : α → Bool} : ∀ {L : List α}, qs (L.filter p) f = qs L fun x => if p x then f x else 0
  | [] => rfl
  | x :: L => by
    rw [List.filter_cons, qs_cons]
    cases hp : p x
    · rw [if_neg (by decide), if_neg (by decide), qs_filter]; grind
    · rw [if_pos rfl, if_pos rfl, qs_cons, qs_filter]
/-- Sums in two orders. -/
theorem qs_swap {α β : Type} (f : α → β → Rat) : ∀ (L : List α) (M : List β), (qs L fun x => qs M fun y => f x y) = qs M fun y => qs L fun x => f x y
  | [], M => by rw [qs_nil]; exact (qs_zero M).symm
  | x :: L, M => by
    rw [qs_cons, qs_swap f L M, ← qs_add]
    exact qs_congr fun y _ => (qs_cons x L (fun x => f x y)).symm
/-! ### ways -/
/-- What lies on the way down from what. -/
structure Wy (on : Nat → Nat → Bool) : Prop where
  tr : ∀ {p g h}, on p g = true → on g h = true → on p h = true
  ch : ∀ {p g h}, on p g = true → on p h = true → on g h = true ∨ on h g = true
/-- Places with numbers: what is above one of some gauges is not more than nothing, if each of these has no more than nothing above it. -/
theorem cover {on : Nat → Nat → Bool} (W : Wy on) (I : List (Nat × Rat)) : ∀ (N : Nat) (H : List Nat), H.length ≤ N → (∀ h ∈ H, (qs I fun z => if on z.1 h then z.2 else 0) ≤ 0) → (qs I fun z => if H.any (on z.1) then z.2 else 0) ≤ 0 := by
  intro N
  induction N with
  | zero =>
    intro H hl _
    obtain rfl := List.length_eq_zero_iff.1 (Nat.le_zero.1 hl)
    simp only [List.any_nil, Bool.false_eq_true, if_false]
    rw [qs_zero]; grind
  | succ N ih =>
    intro H hl hH
    cases H with
    | nil =>
      simp only [List.any_nil, Bool.false_eq_true, if_false]
      rw [qs_zero]; grind
    | cons h H =>
      rw [List.length_cons] at hl
      by_cases hc : ∃ h2 ∈ H, on h h2 = true
      · obtain ⟨h2, m2, o2⟩ := hc
        have h3 := ih H (by omega) fun x hx => hH x (by simp [hx])
        rw [qs_congr (g := fun z => if H.any (on z.1) then z.2 else 0)]
        · exact h3
        intro z _
        have h4 : (h :: H).any (on z.1) = H.any (on z.1) := by
          rw [List.any_cons]
          cases hz : on z.1 h with
          | false => rfl
          | true =>
            rw [Bool.true_or]
            exact (List.any_eq_true.2 ⟨h2, m2, W.tr hz o2⟩).symm
        rw [h4]
      · have h3 := ih (H.filter fun x => !on x h) (Nat.le_trans (List.length_filter_le _ _) (by omega)) fun x hx => hH x (by simp [(List.mem_filter.1 hx).1])
        have h4 := hH h (by simp)
        have h5 : (qs I fun z => if (h :: H).any (on z.1) then z.2 else 0) = (qs I fun z => if on z.1 h then z.2 else 0) + qs I fun z => if (H.filter fun x => !on x h).any (on z.1) then z.2 else 0 := by
          rw [← qs_add]
          refine qs_congr fun z _ => ?_
          rw [List.any_cons]
          cases hz : on z.1 h with
          | true =>
            have h6 : (H.filter fun x => !on x h).any (on z.1) = false := by
              rw [List.any_eq_false]
              intro x hx ho
              obtain ⟨h7, h8⟩ := List.mem_filter.1 hx
              rcases W.ch hz ho with h9 | h9
              · exact hc ⟨x, h7, h9⟩
              · rw [h9] at h8; cases h8
            rw [h6]; simp only [Bool.true_or, if_true, Bool.false_eq_true, if_false]; grind
          | false =>
            have h6 : (H.filter fun x => !on x h).any (on z.1) = H.any (on z.1) := by
              rw [Bool.eq_iff_iff, List.any_eq_true, List.any_eq_true]
              constructor
              · rintro ⟨x, hx, ho⟩
                exact ⟨x, (List.mem_filter.1 hx).1, ho⟩
              · rintro ⟨x, hx, ho⟩
                refine ⟨x, List.mem_filter.2 ⟨hx, ?_⟩, ho⟩
                cases hxh : on x h with
                | false => rfl
                | true => rw [W.tr ho hxh] at hz; cases hz
            rw [h6, Bool.false_or]; simp only [Bool.false_eq_true, if_false]; grind
        rw [h5]; grind
/-! ### fair takes -/
/-- A claim. -/
structure Cm where
  pl : Nat
  rk : Nat
  am : Rat
/-- What claims take at a gauge, and what comes there. -/
def used (on : Nat → Nat → Bool) (zs : List (Cm × Rat)) (g : Nat) : Rat := qs zs fun z => if on z.1.pl g then z.2 else 0
def sup (on : Nat → Nat → Bool) (n : Nat) (gn : Nat → Rat) (g : Nat) : Rat := qs (List.range n) fun p => if on p g then gn p else 0
/-- A gauge bounds a claim. -/
structure Bnd (on : Nat → Nat → Bool) (n : Nat) (gn : Nat → Rat) (zs : List (Cm × Rat)) (z : Cm × Rat) (g : Nat) : Prop where
  lt : g < n
  wy : on z.1.pl g = true
  dry : used on zs g = sup on n gn g
  jun : ∀ y ∈ zs, on y.1.pl g = true → z.1.rk < y.1.rk → y.2 = 0
  sam : ∀ y ∈ zs, on y.1.pl g = true → y.1.rk = z.1.rk → y.2 * z.1.am ≤ z.2 * y.1.am
structure Fair (on : Nat → Nat → Bool) (n : Nat) (gn : Nat → Rat) (zs : List (Cm × Rat)) : Prop where
  nn : ∀ z ∈ zs, 0 ≤ z.2 ∧ z.2 ≤ z.1.am
  ok : ∀ g, g < n → used on zs g ≤ sup on n gn g
  bd : ∀ z ∈ zs, z.2 ≠ z.1.am → ∃ g, Bnd on n gn zs z g
theorem used_perm {on : Nat → Nat → Bool} {zs ws : List (Cm × Rat)} (h : zs.Perm ws) (g : Nat) : used on zs g = used on ws g := qs_perm h
theorem Fair.perm {on : Nat → Nat → Bool} {n : Nat} {gn : Nat → Rat} {zs ws : List (Cm × Rat)} (h : Fair on n gn zs) (hp : zs.Perm ws) : Fair on n gn ws :=
  ⟨fun z hz => h.nn z (hp.mem_iff.2 hz), fun g hg => by rw [← used_perm hp]; exact h.ok g hg, fun z hz he => by
    obtain ⟨g, h1, h2, h3, h4, h5⟩ := h.bd z (hp.mem_iff.2 hz) he
    exact ⟨g, h1, h2, by rw [← used_perm hp]; exact h3, fun y hy => h4 y (hp.mem_iff.2 hy), fun y hy => h5 y (hp.mem_iff.2 hy)⟩⟩
/-- With more water, and fewer claims, no claim gets less. -/
theorem mono {on : Nat → Nat → Bool} (W : Wy on) {n : Nat} {gn gn' : Nat → Rat} (xs : List (Cm × Rat × Rat)) (ex : List (Cm × Rat))
    (h : Fair on n gn (xs.map (fun x => (x.1, x.2.1)) ++ ex)) (h' : Fair on n gn' (xs.map fun x => (x.1, x.2.2))) (hg : ∀ p, p < n → gn p ≤ gn' p) : ∀ x ∈ xs, x.2.1 ≤ x.2.2 := by
  intro k hk
  apply Decidable.byContradiction
  intro hlt
  have hlt : k.2.2 < k.2.1 := by grind
  have hzk := h.nn (k.1, k.2.1) (List.mem_append_left _ (List.mem_map.2 ⟨k, hk, rfl⟩))
  have hzk' := h'.nn (k.1, k.2.2) (List.mem_map.2 ⟨k, hk, rfl⟩)
  dsimp only at hzk hzk'
  obtain ⟨g, b1, b2, b3, b4, b5⟩ := h'.bd (k.1, k.2.2) (List.mem_map.2 ⟨k, hk, rfl⟩) (by dsimp only; grind)
  dsimp only at b2 b4 b5
  have b4 : ∀ y ∈ xs, on y.1.pl g = true → k.1.rk < y.1.rk → y.2.2 = 0 := fun y hy => b4 (y.1, y.2.2) (List.mem_map.2 ⟨y, hy, rfl⟩)
  have b5 : ∀ y ∈ xs, on y.1.pl g = true → y.1.rk = k.1.rk → y.2.2 * k.1.am ≤ k.2.2 * y.1.am := fun y hy => b5 (y.1, y.2.2) (List.mem_map.2 ⟨y, hy, rfl⟩)
  -- the difference at a gauge
  let I : List (Nat × Rat) := (xs.map fun x => (x.1.pl, x.2.2 - x.2.1)) ++ ((ex.map fun x => (x.1.pl, - x.2)) ++ (List.range n).map fun p => (p, gn p - gn' p))
  have hD : ∀ q, (qs I fun z => if on z.1 q then z.2 else 0) = (used on (xs.map fun x => (x.1, x.2.2)) q - sup on n gn' q) + (sup on n gn q - used on (xs.map (fun x => (x.1, x.2.1)) ++ ex) q) := by
    intro q
    have e1 : (qs xs fun x => if on x.1.pl q then x.2.2 - x.2.1 else 0) = (qs xs fun x => if on x.1.pl q then x.2.2 else 0) - qs xs fun x => if on x.1.pl q then x.2.1 else 0 := by
      rw [← qs_sub]; refine qs_congr fun x _ => ?_
      split <;> grind
    have e2 : (qs ex fun x => if on x.1.pl q then - x.2 else 0) = 0 - qs ex fun x => if on x.1.pl q then x.2 else 0 := by
      have e : (qs ex fun x => if on x.1.pl q then - x.2 else 0) = (qs ex fun _ => 0) - qs ex fun x => if on x.1.pl q then x.2 else 0 := by
        rw [← qs_sub]; refine qs_congr fun x _ => ?_
        split <;> grind
      rw [e, qs_zero]
    have e3 : (qs (List.range n) fun p => if on p q then gn p - gn' p else 0) = sup on n gn q - sup on n gn' q := by
      rw [sup, sup, ← qs_sub]; refine qs_congr fun x _ => ?_
      split <;> grind
    show qs (_ ++ (_ ++ _)) _ = _
    rw [qs_app, qs_app, qs_map, qs_map, qs_map, e1, e2, e3, used, used, qs_app, qs_map, qs_map]
    grind
  let H : List Nat := (List.range n).filter fun q => on q g && !on k.1.pl q && decide ((qs I fun z => if on z.1 q then z.2 else 0) ≤ 0)
  have hH : ∀ q, q ∈ H ↔ q < n ∧ on q g = true ∧ on k.1.pl q = false ∧ (qs I fun z => if on z.1 q then z.2 else 0) ≤ 0 := by
    intro q
    show q ∈ List.filter _ _ ↔ _
    rw [List.mem_filter, List.mem_range, Bool.and_eq_true, Bool.and_eq_true, decide_eq_true_eq, Bool.not_eq_true', and_assoc]
  have hc := cover W I H.length H (Nat.le_refl _) fun q hq => ((hH q).1 hq).2.2.2
  -- who gains is covered
  have gain : ∀ x ∈ xs, on x.1.pl g = true → x.2.1 < x.2.2 → H.any (on x.1.pl) = true := by
    intro x hx ho hlx
    have hz := h.nn (x.1, x.2.1) (List.mem_append_left _ (List.mem_map.2 ⟨x, hx, rfl⟩))
    have hz' := h'.nn (x.1, x.2.2) (List.mem_map.2 ⟨x, hx, rfl⟩)
    dsimp only at hz hz'
    obtain ⟨q, c1, c2, c3, c4, c5⟩ := h.bd (x.1, x.2.1) (List.mem_append_left _ (List.mem_map.2 ⟨x, hx, rfl⟩)) (by dsimp only; grind)
    dsimp only at c2 c4 c5
    have hkq : on k.1.pl q = false := by
      cases hkq : on k.1.pl q with
      | false => rfl
      | true =>
        have d4 := c4 (k.1, k.2.1) (List.mem_append_left _ (List.mem_map.2 ⟨k, hk, rfl⟩)) hkq
        have d5 := c5 (k.1, k.2.1) (List.mem_append_left _ (List.mem_map.2 ⟨k, hk, rfl⟩)) hkq
        dsimp only at d4 d5
        have e4 := b4 x hx ho
        have e5 := b5 x hx ho
        rcases Nat.lt_trichotomy x.1.rk k.1.rk with hr | hr | hr
        · have := d4 hr; grind
        · have d5 := d5 hr.symm
          have e5 := e5 hr
          have f1 : 0 < x.1.am := by grind
          have f2 : 0 < k.1.am := by grind
          have g1 := Rat.mul_lt_mul_of_pos_right hlt f1
          have g2 := Rat.mul_lt_mul_of_pos_right hlx f2
          grind
        · have := e4 hr; grind
    refine List.any_eq_true.2 ⟨q, (hH q).2 ⟨c1, ?_, hkq, ?_⟩, c2⟩
    · rcases W.ch ho c2 with h1 | h1
      · rw [W.tr b2 h1] at hkq; cases hkq
      · exact h1
    · rw [hD]
      have := h'.ok q c1
      grind
  have hcov : ∀ p, H.any (on p) = true → on p g = true := by
    intro p hp
    obtain ⟨q, hq, ho⟩ := List.any_eq_true.1 hp
    exact W.tr ho ((hH q).1 hq).2.1
  have hkc : H.any (on k.1.pl) = false := by
    rw [List.any_eq_false]
    intro q hq ho
    rw [((hH q).1 hq).2.2.1] at ho; cases ho
  have hlow : (qs I fun z => if on z.1 g then z.2 else 0) < qs I fun z => if H.any (on z.1) then z.2 else 0 := by
    refine qs_lt (k := (k.1.pl, k.2.2 - k.2.1)) ?_ ?_ ?_
    · intro z hz
      cases hcz : H.any (on z.1) with
      | true => rw [hcov z.1 hcz]; grind
      | false =>
        rw [if_neg (by decide : ¬ (false = true))]
        cases hzg : on z.1 g with
        | false => rw [if_neg (by decide)]; grind
        | true =>
          rw [if_pos rfl]
          rcases List.mem_append.1 hz with h1 | h1
          · obtain ⟨x, hx, rfl⟩ := List.mem_map.1 h1
            dsimp only at hcz hzg ⊢
            have : ¬ x.2.1 < x.2.2 := fun hl => by rw [gain x hx hzg hl] at hcz; cases hcz
            grind
          · rcases List.mem_append.1 h1 with h1 | h1
            · obtain ⟨x, hx, rfl⟩ := List.mem_map.1 h1
              have := h.nn x (List.mem_append_right _ hx)
              dsimp only; grind
            · obtain ⟨p, hp, rfl⟩ := List.mem_map.1 h1
              have := hg p (List.mem_range.1 hp)
              dsimp only; grind
    · exact List.mem_append_left _ (List.mem_map.2 ⟨k, hk, rfl⟩)
    · dsimp only
      rw [hkc, b2, if_pos rfl, if_neg (by decide)]; grind
  have hup := hD g
  have := h.ok g b1
  rw [b3] at hup
  grind
end Go.Proofs.YtcdgibkbbcekhaaGreatDoor
/-
  Plain laws of rights: the allotting of water is fair.
-/
namespace Go.Proofs.YtcdgibkbbcekhaaGreatDoor
/-! ### allotting -/
abbrev Zs := List (Cm × Rat × Bool)
def tks (zs : Zs) : List (Cm × Rat) := zs.map fun z => (z.1, z.2.1)
def unitZ (on : Nat → Nat → Bool) (zs : Zs) (g : Nat) : Rat := qs zs fun z => if (on z.1.pl g && z.2.2) = true then z.1.am else 0
def restZ (on : Nat → Nat → Bool) (n : Nat) (gn : Nat → Rat) (zs : Zs) (g : Nat) : Rat := sup on n gn g - used on (tks zs) g
def qmin (a b : Rat) : Rat := if b < a then b else a
theorem qmin_l (a b : Rat) : qmin a b ≤ a := by unfold qmin; grind
theorem qmin_r (a b : Rat) : qmin a b ≤ b := by unfold qmin; grind
theorem qmin_or (a b : Rat) : qmin a b = a ∨ qmin a b = b := by unfold qmin; grind
theorem div_nn {a b : Rat} (ha : 0 ≤ a) (hb : 0 ≤ b) : 0 ≤ a / b := by
  rw [Rat.div_def]
  by_cases h : b = 0
  · rw [h, Rat.inv_zero, Rat.mul_zero]; exact Rat.le_refl
  · have := Rat.inv_pos.2 (show 0 < b by grind)
    exact Rat.mul_nonneg ha (by grind)
def capF (u e : Nat → Rat) (p : Rat) : List Nat → Rat → Rat
  | [], b => b
  | g :: L, b => capF u e p L (if u g = 0 then b else qmin b (p + e g / u g))
theorem capF_le {u e : Nat → Rat} {p : Rat} : ∀ {L : List Nat} {b : Rat}, capF u e p L b ≤ b ∧ ∀ g ∈ L, u g ≠ 0 → capF u e p L b ≤ p + e g / u g
  | [], b => ⟨Rat.le_refl, fun g h => by cases h⟩
  | g :: L, b => by
    rw [capF]
    have ih := capF_le (u := u) (e := e) (p := p) (L := L) (b := if u g = 0 then b else qmin b (p + e g / u g))
    have h1 := qmin_l b (p + e g / u g)
    have h2 := qmin_r b (p + e g / u g)
    refine ⟨?_, fun x hx hu => ?_⟩
    · have := ih.1
      split at this <;> grind
    · rcases List.mem_cons.1 hx with rfl | hx
      · have := ih.1
        rw [if_neg hu] at this ⊢
        grind
      · exact ih.2 x hx hu
theorem capF_or {u e : Nat → Rat} {p : Rat} : ∀ {L : List Nat} {b : Rat}, capF u e p L b = b ∨ ∃ g ∈ L, u g ≠ 0 ∧ capF u e p L b = p + e g / u g
  | [], b => .inl rfl
  | g :: L, b => by
    rw [capF]
    by_cases hu : u g = 0
    · rw [if_pos hu]
      rcases capF_or (u := u) (e := e) (p := p) (L := L) (b := b) with h | ⟨x, h1, h2⟩
      · exact .inl h
      · exact .inr ⟨x, by simp [h1], h2⟩
    · rw [if_neg hu]
      rcases capF_or (u := u) (e := e) (p := p) (L := L) (b := qmin b (p + e g / u g)) with h | ⟨x, h1, h2⟩
      · rcases qmin_or b (p + e g / u g) with h3 | h3
        · exact .inl (by rw [h, h3])
        · exact .inr ⟨g, by simp, hu, by rw [h, h3]⟩
      · exact .inr ⟨x, by simp [h1], h2⟩
/-- How far all open claims can grow. -/
def capZ (on : Nat → Nat → Bool) (n : Nat) (gn : Nat → Rat) (zs : Zs) (p : Rat) : Rat := capF (unitZ on zs) (restZ on n gn zs) p (List.range n) 1
def midZ (zs : Zs) (p : Rat) : Zs := zs.map fun z => (z.1, if z.2.2 = true then z.1.am * p else z.2.1, z.2.2)
def dryZ (on : Nat → Nat → Bool) (n : Nat) (e : Nat → Rat) (pl : Nat) : Bool := (List.range n).any fun g => on pl g && decide (e g = 0)
def stepZ (on : Nat → Nat → Bool) (n : Nat) (gn : Nat → Rat) (zs : Zs) (p : Rat) : Zs := (midZ zs p).map fun z => (z.1, z.2.1, z.2.2 && (decide (p ≠ 1) && !dryZ on n (restZ on n gn (midZ zs p)) z.1.pl))
structure Inv (on : Nat → Nat → Bool) (n : Nat) (gn : Nat → Rat) (r : Nat) (zs : Zs) (p : Rat) : Prop where
  p0 : 0 ≤ p
  p1 : p ≤ 1
  nn : ∀ z ∈ zs, 0 ≤ z.2.1 ∧ z.2.1 ≤ z.1.am
  ok : ∀ g, g < n → used on (tks zs) g ≤ sup on n gn g
  hi : ∀ z ∈ zs, r < z.1.rk → z.2.1 = 0 ∧ z.2.2 = false
  op : ∀ z ∈ zs, z.2.2 = true → z.1.rk = r ∧ z.1.am ≠ 0 ∧ z.2.1 = z.1.am * p
  cl : ∀ z ∈ zs, z.1.rk = r → z.2.1 ≤ z.1.am * p
  bd : ∀ z ∈ zs, z.1.rk ≤ r → z.2.2 = false → z.2.1 ≠ z.1.am → ∃ g, Bnd on n gn (tks zs) (z.1, z.2.1) g
theorem tks_step (on : Nat → Nat → Bool) (n : Nat) (gn : Nat → Rat) (zs : Zs) (p : Rat) : tks (stepZ on n gn zs p) = tks (midZ zs p) := by rw [tks, stepZ, List.map_map, tks]; rfl
theorem unit_nn {on : Nat → Nat → Bool} {zs : Zs} (h : ∀ z ∈ zs, 0 ≤ z.2.1 ∧ z.2.1 ≤ z.1.am) (g : Nat) : 0 ≤ unitZ on zs g := qs_nn fun z hz => by
  have := h z hz
  split <;> grind
theorem used_mid {on : Nat → Nat → Bool} {zs : Zs} {p p' : Rat} (h : ∀ z ∈ zs, z.2.2 = true → z.2.1 = z.1.am * p) (g : Nat) : used on (tks (midZ zs p')) g = used on (tks zs) g + (p' - p) * unitZ on zs g := by
  rw [used, used, unitZ, tks, tks, midZ, qs_map, qs_map, qs_map, ← qs_mul, ← qs_add]
  refine qs_congr fun z hz => ?_
  have h1 := h z hz
  dsimp only
  cases ho : on z.1.pl g <;> cases hp : z.2.2
  · simp; grind
  · simp; grind
  · simp; grind
  · simp only [Bool.and_self, if_true]; have := h1 hp; grind
theorem Inv.unit {on : Nat → Nat → Bool} {n : Nat} {gn : Nat → Rat} {r : Nat} {zs : Zs} {p : Rat} (h : Inv on n gn r zs p) {y : Cm × Rat × Bool} (hy : y ∈ zs) {g : Nat} (ho : on y.1.pl g = true) (hp : y.2.2 = true) : 0 < unitZ on zs g := by
  have h1 := qs_mem (f := fun z : Cm × Rat × Bool => if (on z.1.pl g && z.2.2) = true then z.1.am else 0) (L := zs) (fun z hz => by
    have := h.nn z hz
    split <;> grind) hy
  rw [ho, hp, if_pos (by decide)] at h1
  have h2 := (h.op y hy hp).2.1
  have h3 := h.nn y hy
  unfold unitZ; grind
theorem Inv.cap {on : Nat → Nat → Bool} {n : Nat} {gn : Nat → Rat} {r : Nat} {zs : Zs} {p : Rat} (h : Inv on n gn r zs p) :
    p ≤ capZ on n gn zs p ∧ capZ on n gn zs p ≤ 1 ∧ ∀ g, g < n → (capZ on n gn zs p - p) * unitZ on zs g ≤ restZ on n gn zs g := by
  have h1 := capF_le (u := unitZ on zs) (e := restZ on n gn zs) (p := p) (L := List.range n) (b := 1)
  have hr : ∀ g, g < n → 0 ≤ restZ on n gn zs g := fun g hg => by have := h.ok g hg; unfold restZ; grind
  refine ⟨?_, h1.1, fun g hg => ?_⟩
  · rcases capF_or (u := unitZ on zs) (e := restZ on n gn zs) (p := p) (L := List.range n) (b := 1) with h2 | ⟨g, h2, h3, h4⟩
    · rw [capZ, h2]; exact h.p1
    · rw [capZ, h4]
      have h5 := hr g (List.mem_range.1 h2)
      have h6 := unit_nn (on := on) h.nn g
      have h7 : 0 ≤ restZ on n gn zs g / unitZ on zs g := by exact div_nn h5 h6
      grind
  · by_cases hu : unitZ on zs g = 0
    · rw [hu, Rat.mul_zero]; exact hr g hg
    · have h2 := h1.2 g (List.mem_range.2 hg) hu
      have h6 := unit_nn (on := on) h.nn g
      have h3 : restZ on n gn zs g / unitZ on zs g * unitZ on zs g = restZ on n gn zs g := Rat.div_mul_cancel hu
      have h4 : (capZ on n gn zs p - p) ≤ restZ on n gn zs g / unitZ on zs g := by unfold capZ; grind
      have := Rat.mul_le_mul_of_nonneg_right h4 h6
      grind
theorem Inv.step {on : Nat → Nat → Bool} {n : Nat} {gn : Nat → Rat} {r : Nat} {zs : Zs} {p : Rat} (h : Inv on n gn r zs p) : Inv on n gn r (stepZ on n gn zs (capZ on n gn zs p)) (capZ on n gn zs p) := by
  obtain ⟨c1, c2, c3⟩ := h.cap
  generalize hq : capZ on n gn zs p = q at *
  have hp0 := h.p0
  have hu := fun g => used_mid (on := on) (p' := q) (fun z hz hp => (h.op z hz hp).2.2) g
  have mem : ∀ {z}, z ∈ stepZ on n gn zs q → ∃ y ∈ zs, z = (y.1, if y.2.2 = true then y.1.am * q else y.2.1, y.2.2 && (decide (q ≠ 1) && !dryZ on n (restZ on n gn (midZ zs q)) y.1.pl)) := by
    intro z hz
    obtain ⟨x, hx, rfl⟩ := List.mem_map.1 hz
    obtain ⟨y, hy, rfl⟩ := List.mem_map.1 hx
    exact ⟨y, hy, rfl⟩
  have memT : ∀ {z}, z ∈ tks (stepZ on n gn zs q) → ∃ y ∈ zs, z = (y.1, if y.2.2 = true then y.1.am * q else y.2.1) := by
    intro z hz
    obtain ⟨x, hx, rfl⟩ := List.mem_map.1 hz
    obtain ⟨y, hy, rfl⟩ := mem hx
    exact ⟨y, hy, rfl⟩
  have cl' : ∀ y ∈ zs, y.1.rk = r → (if y.2.2 = true then y.1.am * q else y.2.1) ≤ y.1.am * q := by
    intro y hy hr
    have h1 := h.cl y hy hr
    have h2 := h.nn y hy
    have h3 := Rat.mul_le_mul_of_nonneg_left c1 (c := y.1.am) (by grind)
    split <;> grind
  refine ⟨by grind, c2, fun z hz => ?_, fun g hg => ?_, fun z hz hr => ?_, fun z hz hp => ?_, fun z hz hr => ?_, fun z hz hr hp he => ?_⟩
  · obtain ⟨y, hy, rfl⟩ := mem hz
    have h2 := h.nn y hy
    have h3 := Rat.mul_le_mul_of_nonneg_left c2 (c := y.1.am) (by grind)
    have h4 := Rat.mul_nonneg (a := y.1.am) (b := q) (by grind) (by grind)
    dsimp only
    split <;> grind
  · rw [tks_step, hu]
    have := c3 g hg
    unfold restZ at this; grind
  · obtain ⟨y, hy, rfl⟩ := mem hz
    obtain ⟨h1, h2⟩ := h.hi y hy hr
    dsimp only
    rw [h2]; exact ⟨h1, rfl⟩
  · obtain ⟨y, hy, rfl⟩ := mem hz
    have hp : y.2.2 = true := by dsimp only at hp; rw [Bool.and_eq_true] at hp; exact hp.1
    obtain ⟨h1, h2, h3⟩ := h.op y hy hp
    exact ⟨h1, h2, by dsimp only; rw [hp, if_pos rfl]⟩
  · obtain ⟨y, hy, rfl⟩ := mem hz
    exact cl' y hy hr
  · obtain ⟨y, hy, rfl⟩ := mem hz
    dsimp only at hr hp he ⊢
    cases hyo : y.2.2 with
    | false =>
      rw [hyo, if_neg (by decide)] at he
      obtain ⟨g, b1, b2, b3, b4, b5⟩ := h.bd y hy hr hyo he
      dsimp only at b2 b4 b5
      have same : ∀ x ∈ zs, on x.1.pl g = true → (if x.2.2 = true then x.1.am * q else x.2.1) = x.2.1 := by
        intro x hx ho
        cases hxo : x.2.2 with
        | false => rw [if_neg (by decide)]
        | true =>
          rw [if_pos rfl]
          have h1 := h.unit hx ho hxo
          have h2 := c3 g b1
          have h3 : restZ on n gn zs g = 0 := by unfold restZ; rw [b3]; grind
          rw [h3] at h2
          have h4 : q = p := by
            apply Decidable.byContradiction
            intro hne
            have h5 : 0 < (q - p) * unitZ on zs g := Rat.mul_pos (by grind) h1
            grind
          rw [h4, (h.op x hx hxo).2.2]
      refine ⟨g, b1, b2, ?_, fun x hx => ?_, fun x hx => ?_⟩
      · rw [← b3, tks_step, used, used, tks, tks, midZ, qs_map, qs_map, qs_map]
        refine qs_congr fun x hx => ?_
        dsimp only
        split
        · exact same x hx (by assumption)
        · rfl
      · obtain ⟨x', hx', rfl⟩ := memT hx
        intro h1 h2
        dsimp only at h1 h2 ⊢
        rw [same x' hx' h1]
        exact b4 (x'.1, x'.2.1) (List.mem_map.2 ⟨x', hx', rfl⟩) h1 h2
      · obtain ⟨x', hx', rfl⟩ := memT hx
        intro h1 h2
        dsimp only at h1 h2 ⊢
        rw [same x' hx' h1, if_neg (by decide)]
        exact b5 (x'.1, x'.2.1) (List.mem_map.2 ⟨x', hx', rfl⟩) h1 h2
    | true =>
      rw [hyo, if_pos rfl] at he
      rw [hyo, Bool.true_and, Bool.and_eq_false_iff] at hp
      obtain ⟨hrk, ham, ht⟩ := h.op y hy hyo
      rw [if_pos rfl]
      rcases hp with hp | hp
      · have : q = 1 := by simpa using hp
        rw [this] at he; grind
      · rw [Bool.not_eq_false', dryZ, List.any_eq_true] at hp
        obtain ⟨g, hg, hd⟩ := hp
        rw [Bool.and_eq_true, decide_eq_true_eq] at hd
        refine ⟨g, List.mem_range.1 hg, hd.1, ?_, fun x hx => ?_, fun x hx => ?_⟩
        · rw [tks_step]; have := hd.2; unfold restZ at this; grind
        · obtain ⟨x', hx', rfl⟩ := memT hx
          intro h1 h2
          dsimp only at h1 h2 ⊢
          obtain ⟨h3, h4⟩ := h.hi x' hx' (by omega)
          rw [h4, if_neg (by decide), h3]
        · obtain ⟨x', hx', rfl⟩ := memT hx
          intro h1 h2
          dsimp only at h1 h2 ⊢
          have h3 := cl' x' hx' (by omega)
          have h4 := h.nn y hy
          have := Rat.mul_le_mul_of_nonneg_right h3 (c := y.1.am) (by grind)
          grind
/-! ### rounds end -/
def cntO : Zs → Nat
  | [] => 0
  | z :: r => (if z.2.2 = true then 1 else 0) + cntO r
theorem cntO_le : ∀ zs : Zs, cntO zs ≤ zs.length
  | [] => Nat.le_refl _
  | z :: r => by
    have := cntO_le r
    rw [cntO, List.length_cons]; split <;> omega
theorem cntO_map_le {h : Cm × Rat × Bool → Cm × Rat × Bool} : ∀ {zs : Zs}, (∀ z ∈ zs, (h z).2.2 = true → z.2.2 = true) → cntO (zs.map h) ≤ cntO zs
  | [], _ => Nat.le_refl _
  | z :: r, hh => by
    have h1 := hh z (by simp)
    have h2 := cntO_map_le (zs := r) fun y hy => hh y (by simp [hy])
    rw [List.map_cons, cntO, cntO]
    by_cases h3 : (h z).2.2 = true
    · rw [if_pos h3, if_pos (h1 h3)]; omega
    · rw [if_neg h3]; omega
theorem cntO_map_lt {h : Cm × Rat × Bool → Cm × Rat × Bool} : ∀ {zs : Zs}, (∀ z ∈ zs, (h z).2.2 = true → z.2.2 = true) → ∀ y, y ∈ zs → y.2.2 = true → (h y).2.2 = false → cntO (zs.map h) < cntO zs
  | z :: r, hh, y, hy, h4, h5 => by
    have h1 := hh z (by simp)
    have h2 := cntO_map_le (zs := r) fun y hy => hh y (by simp [hy])
    rw [List.map_cons, cntO, cntO]
    rcases List.mem_cons.1 hy with rfl | hy
    · rw [h5, if_neg (by decide), if_pos h4]; omega
    · have := cntO_map_lt (zs := r) (fun y hy => hh y (by simp [hy])) y hy h4 h5
      by_cases h3 : (h z).2.2 = true
      · rw [if_pos h3, if_pos (h1 h3)]; omega
      · rw [if_neg h3]; omega
theorem cntO_none : ∀ {zs : Zs}, (zs.any fun z => z.2.2) = false ↔ cntO zs = 0
  | [] => by simp [cntO]
  | z :: r => by
    rw [List.any_cons, Bool.or_eq_false_iff, cntO_none, cntO]
    cases z.2.2 <;> simp
theorem Inv.less {on : Nat → Nat → Bool} {n : Nat} {gn : Nat → Rat} {r : Nat} {zs : Zs} {p : Rat} (h : Inv on n gn r zs p) (ho : (zs.any fun z => z.2.2) = true) : cntO (stepZ on n gn zs (capZ on n gn zs p)) < cntO zs := by
  rw [stepZ]
  generalize hmz : restZ on n gn (midZ zs (capZ on n gn zs p)) = em at *
  rw [midZ, List.map_map]
  obtain ⟨z0, hz0, hz1⟩ := List.any_eq_true.1 ho
  have hsub : ∀ z ∈ zs, (((fun z : Cm × Rat × Bool => (z.1, z.2.1, z.2.2 && (decide (capZ on n gn zs p ≠ 1) && !dryZ on n em z.1.pl))) ∘ fun z => (z.1, if z.2.2 = true then z.1.am * capZ on n gn zs p else z.2.1, z.2.2)) z).2.2 = true → z.2.2 = true := by
    intro z hz h1
    dsimp only [Function.comp] at h1
    rw [Bool.and_eq_true] at h1
    exact h1.1
  rcases capF_or (u := unitZ on zs) (e := restZ on n gn zs) (p := p) (L := List.range n) (b := 1) with h2 | ⟨g, h2, h3, h4⟩
  · refine cntO_map_lt hsub z0 hz0 hz1 ?_
    dsimp only [Function.comp]
    rw [show capZ on n gn zs p = 1 from h2]; simp
  · have h4 : capZ on n gn zs p = p + restZ on n gn zs g / unitZ on zs g := h4
    have h5 : ∃ y ∈ zs, on y.1.pl g = true ∧ y.2.2 = true := by
      apply Decidable.byContradiction
      intro hn
      refine h3 ?_
      refine (qs_congr (g := fun _ => 0) fun z hz => if_neg fun hc => hn ⟨z, hz, ?_⟩).trans (qs_zero zs)
      rwa [Bool.and_eq_true] at hc
    obtain ⟨y, hy, hy1, hy2⟩ := h5
    refine cntO_map_lt hsub y hy hy2 ?_
    dsimp only [Function.comp]
    have h6 : dryZ on n em y.1.pl = true := by
      rw [dryZ, List.any_eq_true]
      refine ⟨g, h2, ?_⟩
      rw [hy1, Bool.true_and, decide_eq_true_eq, ← hmz, restZ, used_mid (fun z hz hp => (h.op z hz hp).2.2), h4]
      have h7 : restZ on n gn zs g / unitZ on zs g * unitZ on zs g = restZ on n gn zs g := Rat.div_mul_cancel h3
      unfold restZ at h7 ⊢; grind
    rw [h6]; simp
def lpZ (on : Nat → Nat → Bool) (n : Nat) (gn : Nat → Rat) : Nat → Zs → Rat → Zs
  | 0, zs, _ => zs
  | f + 1, zs, p => if (zs.any fun z => z.2.2) = true then lpZ on n gn f (stepZ on n gn zs (capZ on n gn zs p)) (capZ on n gn zs p) else zs
theorem lpZ_fuel {on : Nat → Nat → Bool} {n : Nat} {gn : Nat → Rat} {r : Nat} : ∀ {f : Nat} {zs : Zs} {p : Rat}, Inv on n gn r zs p → cntO zs ≤ f → lpZ on n gn f zs p = lpZ on n gn (cntO zs) zs p
  | 0, zs, p, h, hf => by rw [Nat.le_zero.1 hf]
  | f + 1, zs, p, h, hf => by
    cases ho : (zs.any fun z => z.2.2) with
    | false => rw [cntO_none.1 ho, lpZ, lpZ, ho, if_neg (by decide)]
    | true =>
      have h1 := h.less ho
      obtain ⟨c, hc⟩ : ∃ c, cntO zs = c + 1 := ⟨cntO zs - 1, by omega⟩
      rw [hc, lpZ, lpZ, ho, if_pos rfl, if_pos rfl, lpZ_fuel h.step (by omega)]
      exact (lpZ_fuel h.step (by omega)).symm
/-- One round. -/
theorem lpZ_step {on : Nat → Nat → Bool} {n : Nat} {gn : Nat → Rat} {r : Nat} {zs : Zs} {p : Rat} (h : Inv on n gn r zs p) (ho : (zs.any fun z => z.2.2) = true) :
    lpZ on n gn (cntO zs) zs p = lpZ on n gn (cntO (stepZ on n gn zs (capZ on n gn zs p))) (stepZ on n gn zs (capZ on n gn zs p)) (capZ on n gn zs p) := by
  have h1 := h.less ho
  obtain ⟨c, hc⟩ : ∃ c, cntO zs = c + 1 := ⟨cntO zs - 1, by omega⟩
  rw [hc, lpZ, ho, if_pos rfl, lpZ_fuel h.step (by omega)]
theorem lpZ_end {on : Nat → Nat → Bool} {n : Nat} {gn : Nat → Rat} {zs : Zs} {p : Rat} (ho : (zs.any fun z => z.2.2) = false) (f : Nat) : lpZ on n gn f zs p = zs := by
  cases f with
  | zero => rfl
  | succ f => rw [lpZ, ho, if_neg (by decide)]
theorem lpZ_inv {on : Nat → Nat → Bool} {n : Nat} {gn : Nat → Rat} {r : Nat} : ∀ {f : Nat} {zs : Zs} {p : Rat}, Inv on n gn r zs p → cntO zs ≤ f → (∃ q, Inv on n gn r (lpZ on n gn f zs p) q) ∧ ((lpZ on n gn f zs p).any fun z => z.2.2) = false
  | 0, zs, p, h, hf => ⟨⟨p, h⟩, cntO_none.2 (Nat.le_zero.1 hf)⟩
  | f + 1, zs, p, h, hf => by
    rw [lpZ]
    cases ho : (zs.any fun z => z.2.2) with
    | false => rw [if_neg (by decide)]; exact ⟨⟨p, h⟩, ho⟩
    | true =>
      rw [if_pos rfl]
      have h1 := h.less ho
      exact lpZ_inv h.step (by omega)
/-! ### ranks -/
def startZ (r : Nat) (ts : List (Cm × Rat)) : Zs := ts.map fun z => (z.1, z.2, decide (z.1.rk = r) && decide (z.1.am ≠ 0))
def rankZ (on : Nat → Nat → Bool) (n : Nat) (gn : Nat → Rat) (r : Nat) (ts : List (Cm × Rat)) : List (Cm × Rat) := tks (lpZ on n gn (cntO (startZ r ts)) (startZ r ts) 0)
structure Done (on : Nat → Nat → Bool) (n : Nat) (gn : Nat → Rat) (r : Nat) (ts : List (Cm × Rat)) : Prop where
  nn : ∀ z ∈ ts, 0 ≤ z.2 ∧ z.2 ≤ z.1.am
  ok : ∀ g, g < n → used on ts g ≤ sup on n gn g
  hi : ∀ z ∈ ts, r ≤ z.1.rk → z.2 = 0
  bd : ∀ z ∈ ts, z.1.rk < r → z.2 ≠ z.1.am → ∃ g, Bnd on n gn ts z g
theorem tks_start (r : Nat) (ts : List (Cm × Rat)) : tks (startZ r ts) = ts := by
  rw [tks, startZ, List.map_map]
  exact (List.map_congr_left (fun z _ => rfl)).trans (List.map_id _)
theorem Done.start {on : Nat → Nat → Bool} {n : Nat} {gn : Nat → Rat} {r : Nat} {ts : List (Cm × Rat)} (h : Done on n gn r ts) : Inv on n gn r (startZ r ts) 0 := by
  have mem : ∀ {z}, z ∈ startZ r ts → ∃ y ∈ ts, z = (y.1, y.2, decide (y.1.rk = r) && decide (y.1.am ≠ 0)) := by
    intro z hz
    obtain ⟨y, hy, rfl⟩ := List.mem_map.1 hz
    exact ⟨y, hy, rfl⟩
  refine ⟨Rat.le_refl, by decide, fun z hz => ?_, fun g hg => ?_, fun z hz hr => ?_, fun z hz hp => ?_, fun z hz hr => ?_, fun z hz hr hp he => ?_⟩
  · obtain ⟨y, hy, rfl⟩ := mem hz
    exact h.nn y hy
  · rw [tks_start]; exact h.ok g hg
  · obtain ⟨y, hy, rfl⟩ := mem hz
    dsimp only at hr ⊢
    refine ⟨h.hi y hy (by omega), ?_⟩
    rw [decide_eq_false (by omega), Bool.false_and]
  · obtain ⟨y, hy, rfl⟩ := mem hz
    dsimp only at hp ⊢
    rw [Bool.and_eq_true, decide_eq_true_eq, decide_eq_true_eq] at hp
    exact ⟨hp.1, hp.2, by rw [h.hi y hy (by omega), Rat.mul_zero]⟩
  · obtain ⟨y, hy, rfl⟩ := mem hz
    dsimp only at hr ⊢
    rw [h.hi y hy (by omega), Rat.mul_zero]; exact Rat.le_refl
  · obtain ⟨y, hy, rfl⟩ := mem hz
    dsimp only at hr hp he ⊢
    rw [tks_start]
    rcases Nat.lt_or_ge y.1.rk r with h1 | h1
    · exact h.bd y hy h1 he
    · have h2 : y.1.rk = r := by omega
      rw [decide_eq_true h2, Bool.true_and, decide_eq_false_iff_not, Decidable.not_not] at hp
      exact absurd (by rw [h.hi y hy h1, hp]) he
theorem Done.rank {on : Nat → Nat → Bool} {n : Nat} {gn : Nat → Rat} {r : Nat} {ts : List (Cm × Rat)} (h : Done on n gn r ts) : Done on n gn (r + 1) (rankZ on n gn r ts) := by
  obtain ⟨⟨q, h1⟩, h2⟩ := lpZ_inv h.start (Nat.le_refl _)
  rw [rankZ]
  generalize lpZ on n gn _ _ 0 = zs at *
  have mem : ∀ {z}, z ∈ tks zs → ∃ b, (z.1, z.2, b) ∈ zs ∧ b = false := by
    intro z hz
    obtain ⟨y, hy, rfl⟩ := List.mem_map.1 hz
    refine ⟨y.2.2, hy, ?_⟩
    cases hb : y.2.2 with
    | false => rfl
    | true => rw [List.any_eq_true.2 ⟨y, hy, hb⟩] at h2; cases h2
  refine ⟨fun z hz => ?_, h1.ok, fun z hz hr => ?_, fun z hz hr he => ?_⟩
  · obtain ⟨b, hb, _⟩ := mem hz
    exact h1.nn _ hb
  · obtain ⟨b, hb, _⟩ := mem hz
    exact (h1.hi _ hb hr).1
  · obtain ⟨b, hb, hf⟩ := mem hz
    exact h1.bd _ hb (by dsimp only; omega) hf he
theorem Done.fair {on : Nat → Nat → Bool} {n : Nat} {gn : Nat → Rat} {r : Nat} {ts : List (Cm × Rat)} (h : Done on n gn r ts) (hr : ∀ z ∈ ts, z.1.rk < r) : Fair on n gn ts := ⟨h.nn, h.ok, fun z hz => h.bd z hz (hr z hz)⟩
theorem lpZ_fst (on : Nat → Nat → Bool) (n : Nat) (gn : Nat → Rat) : ∀ (f : Nat) (zs : Zs) (p : Rat), (lpZ on n gn f zs p).map (·.1) = zs.map (·.1)
  | 0, zs, p => rfl
  | f + 1, zs, p => by
    rw [lpZ]
    split
    · rw [lpZ_fst on n gn f, stepZ, midZ, List.map_map, List.map_map]; rfl
    · rfl
theorem rankZ_fst (on : Nat → Nat → Bool) (n : Nat) (gn : Nat → Rat) (r : Nat) (ts : List (Cm × Rat)) : (rankZ on n gn r ts).map (·.1) = ts.map (·.1) := by
  rw [rankZ, tks, List.map_map]
  refine Eq.trans (lpZ_fst on n gn _ _ 0) ?_
  rw [startZ, List.map_map]; rfl
theorem rankZ_none {on : Nat → Nat → Bool} {n : Nat} {gn : Nat → Rat} {r : Nat} {ts : List (Cm × Rat)} (h : ∀ z ∈ ts, z.1.rk ≠ r) : rankZ on n gn r ts = ts := by
  rw [rankZ, lpZ_end, tks_start]
  rw [List.any_eq_false]
  intro z hz
  obtain ⟨y, hy, rfl⟩ := List.mem_map.1 hz
  dsimp only
  rw [decide_eq_false (h y hy)]; simp
end Go.Proofs.YtcdgibkbbcekhaaGreatDoor
/-
  Plain laws of rights: how great the numbers of allotting are.
-/
namespace Go.Proofs.YtcdgibkbbcekhaaGreatDoor
/-! ### how great the numbers are -/
def Iq (x : Rat) : Prop := ∃ N : Int, x = (N : Rat)
theorem Iq.add {x y : Rat} (h : Iq x) (h' : Iq y) : Iq (x + y) := by
  obtain ⟨N, rfl⟩ := h
  obtain ⟨M, rfl⟩ := h'
  exact ⟨N + M, (Rat.intCast_add N M).symm⟩
theorem Iq.mul {x y : Rat} (h : Iq x) (h' : Iq y) : Iq (x * y) := by
  obtain ⟨N, rfl⟩ := h
  obtain ⟨M, rfl⟩ := h'
  exact ⟨N * M, (Rat.intCast_mul N M).symm⟩
theorem Iq.int (N : Int) : Iq (N : Rat) := ⟨N, rfl⟩
theorem Iq.zero : Iq 0 := ⟨0, rfl⟩
theorem Iq.neg {x : Rat} (h : Iq x) : Iq (-x) := by
  have := (Iq.int (-1)).mul h
  rw [show -x = ((-1 : Int) : Rat) * x by rw [Rat.intCast_neg]; have : ((1 : Int) : Rat) = 1 := rfl; rw [this]; grind]
  exact this
theorem Iq.sub {x y : Rat} (h : Iq x) (h' : Iq y) : Iq (x - y) := by rw [Rat.sub_eq_add_neg]; exact h.add h'.neg
theorem Iq.qs {α : Type} {f : α → Rat} : ∀ {L : List α}, (∀ x ∈ L, Iq (f x)) → Iq (Go.Proofs.YtcdgibkbbcekhaaGreatDoor.qs L f)
  | [], _ => Iq.zero
  | x :: L, h => by rw [qs_cons]; exact (h x (by simp)).add (Iq.qs fun y hy => h y (by simp [hy]))
theorem qs_mulr {α : Type} (c : Rat) (f : α → Rat) (L : List α) : qs L f * c = qs L fun x => f x * c := by
  rw [Rat.mul_comm, ← qs_mul]; exact qs_congr fun x _ => Rat.mul_comm _ _
def Sz (D B j : Nat) (zs : Zs) (p : Rat) : Prop := ∃ E : Nat, 0 < E ∧ E ≤ B ^ j ∧ Iq (p * ((E : Int) : Rat)) ∧ ∀ z ∈ zs, Iq (z.2.1 * ((D : Int) : Rat) * ((E : Int) : Rat))
theorem int_nn {N : Int} (h : (0 : Rat) ≤ (N : Rat)) : 0 ≤ N := Rat.intCast_nonneg.1 h
theorem Sz.step {on : Nat → Nat → Bool} {n : Nat} {gn : Nat → Rat} {r : Nat} {zs : Zs} {p : Rat} (h : Inv on n gn r zs p) {D B j : Nat} (hs : Sz D B j zs p) (hB : 0 < B)
    (ha : ∀ z ∈ zs, Iq (z.1.am * ((D : Int) : Rat))) (hg : ∀ g, Iq (gn g * ((D : Int) : Rat))) (hu : ∀ g, unitZ on zs g * ((D : Int) : Rat) ≤ ((B : Int) : Rat)) (hD : 0 < D) :
    Sz D B (j + 1) (stepZ on n gn zs (capZ on n gn zs p)) (capZ on n gn zs p) := by
  obtain ⟨E, e0, e1, e2, e3⟩ := hs
  have hD' : ((D : Int) : Rat) ≠ 0 := fun e => by have := Rat.intCast_inj.1 (show ((D : Int) : Rat) = ((0 : Int) : Rat) from e); omega
  have hE' : ((E : Int) : Rat) ≠ 0 := fun e => by have := Rat.intCast_inj.1 (show ((E : Int) : Rat) = ((0 : Int) : Rat) from e); omega
  -- the new part with its denominator
  have key : ∃ U : Nat, 0 < U ∧ U ≤ B ∧ Iq (capZ on n gn zs p * (((E * U : Nat) : Int) : Rat)) := by
    rcases capF_or (u := unitZ on zs) (e := restZ on n gn zs) (p := p) (L := List.range n) (b := 1) with h2 | ⟨g, h2, h3, h4⟩
    · refine ⟨1, by decide, hB, ?_⟩
      rw [show capZ on n gn zs p = 1 from h2, Rat.one_mul]; exact Iq.int _
    · have h4 : capZ on n gn zs p = p + restZ on n gn zs g / unitZ on zs g := h4
      obtain ⟨U, hU⟩ : Iq (unitZ on zs g * ((D : Int) : Rat)) := by
        rw [unitZ, qs_mulr]
        refine Iq.qs fun z hz => ?_
        split
        · exact ha z hz
        · rw [Rat.zero_mul]; exact Iq.zero
      have hun := unit_nn (on := on) h.nn g
      have hU0 : 0 ≤ U := int_nn (by rw [← hU]; exact Rat.mul_nonneg hun (Rat.intCast_nonneg.2 (by omega)))
      have hUne : U ≠ 0 := by
        rintro rfl
        have : unitZ on zs g * ((D : Int) : Rat) = 0 := hU
        rcases Rat.mul_eq_zero.1 this with h5 | h5
        · exact h3 h5
        · exact hD' h5
      obtain ⟨u, rfl⟩ : ∃ u : Nat, U = u := ⟨U.toNat, by omega⟩
      refine ⟨u, by omega, ?_, ?_⟩
      · have := hu g
        rw [hU] at this
        have := Rat.intCast_le_intCast.1 this
        omega
      · have hr : Iq (restZ on n gn zs g * ((D : Int) : Rat) * ((E : Int) : Rat)) := by
          rw [restZ, show (sup on n gn g - used on (tks zs) g) * ((D : Int) : Rat) * ((E : Int) : Rat) = sup on n gn g * ((D : Int) : Rat) * ((E : Int) : Rat) - used on (tks zs) g * (((D : Int) : Rat) * ((E : Int) : Rat)) by grind]
          refine Iq.sub (Iq.mul ?_ (Iq.int _)) ?_
          · rw [sup, qs_mulr]
            refine Iq.qs fun z _ => ?_
            split
            · exact hg z
            · rw [Rat.zero_mul]; exact Iq.zero
          · rw [used, qs_mulr, tks, qs_map]
            refine Iq.qs fun z hz => ?_
            dsimp only
            split
            · rw [← Rat.mul_assoc]; exact e3 z hz
            · rw [Rat.zero_mul]; exact Iq.zero
        have hx : restZ on n gn zs g / unitZ on zs g * unitZ on zs g = restZ on n gn zs g := Rat.div_mul_cancel h3
        rw [h4, Int.natCast_mul, Rat.intCast_mul, show (p + restZ on n gn zs g / unitZ on zs g) * (((E : Int) : Rat) * (((u : Nat) : Int) : Rat)) = p * ((E : Int) : Rat) * (((u : Nat) : Int) : Rat) + restZ on n gn zs g * ((D : Int) : Rat) * ((E : Int) : Rat) by rw [← hU, ← hx]; grind]
        exact (e2.mul (Iq.int _)).add hr
  obtain ⟨U, u0, u1, u2⟩ := key
  refine ⟨E * U, Nat.mul_pos e0 u0, ?_, u2, fun z hz => ?_⟩
  · rw [Nat.pow_succ]; exact Nat.mul_le_mul e1 u1
  · obtain ⟨x, hx, rfl⟩ := List.mem_map.1 hz
    obtain ⟨y, hy, rfl⟩ := List.mem_map.1 hx
    dsimp only
    split
    · rw [show y.1.am * capZ on n gn zs p * ((D : Int) : Rat) * (((E * U : Nat) : Int) : Rat) = y.1.am * ((D : Int) : Rat) * (capZ on n gn zs p * (((E * U : Nat) : Int) : Rat)) by grind]
      exact (ha y hy).mul u2
    · rw [Int.natCast_mul, Rat.intCast_mul, ← Rat.mul_assoc]
      exact (e3 y hy).mul (Iq.int _)
/-- A number with a denominator and a bound. -/
theorem fr_of {x : Rat} {K V : Nat} (h : Iq (x * ((K : Int) : Rat))) (h0 : 0 ≤ x) (h1 : x ≤ ((V : Int) : Rat)) : ∃ N : Int, x * ((K : Int) : Rat) = (N : Rat) ∧ N.natAbs ≤ V * K := by
  obtain ⟨N, hN⟩ := h
  refine ⟨N, hN, ?_⟩
  have hk : (0 : Rat) ≤ ((K : Int) : Rat) := Rat.intCast_nonneg.2 (by omega)
  have h2 : 0 ≤ N := int_nn (by rw [← hN]; exact Rat.mul_nonneg h0 hk)
  have h3 := Rat.mul_le_mul_of_nonneg_right h1 hk
  rw [hN, ← Rat.intCast_mul] at h3
  have h4 := Rat.intCast_le_intCast.1 h3
  have : ((V * K : Nat) : Int) = (V : Int) * K := Int.natCast_mul V K
  omega
end Go.Proofs.YtcdgibkbbcekhaaGreatDoor
/-
  Plain laws of rights: ways down a river; nothing is lost.
-/
namespace Go.Proofs.YtcdgibkbbcekhaaGreatDoor
/-! ### ways down a river -/
/-- A gauge is another one, or below it. -/
def onR (R : List Rch) (p g : Nat) : Bool := (List.range (R.length + 1)).any fun k => decide (itr R k (p : Int) = (g : Int))
theorem itr_stay {R : List Rch} {k j : Nat} {g : Int} (h : itr R k g < 0) (hkj : k ≤ j) : itr R j g < 0 := by
  obtain ⟨d, rfl⟩ : ∃ d, j = k + d := ⟨j - k, by omega⟩
  rw [itr_add]; exact itr_neg h
theorem dnOf_ge {R : List Rch} {g : Nat} (h : R.length ≤ g) : dnOf R (g : Int) = -1 := by
  rw [dnOf, if_neg (by omega), Int.toNat_natCast, List.getElem?_eq_none h]
theorem itr_few {R : List Rch} (h : Riv R) {k p : Nat} (hk : 0 ≤ itr R k (p : Int)) : k ≤ R.length := by
  apply Nat.le_of_not_lt
  intro hlt
  rcases Nat.lt_or_ge p R.length with h1 | h1
  · have := itr_stay (h.fin p h1) (Nat.le_of_lt hlt); omega
  · obtain ⟨j, rfl⟩ : ∃ j, k = j + 1 := ⟨k - 1, by omega⟩
    rw [itr, dnOf_ge h1] at hk
    have := itr_neg (l := R) (k := j) (g := -1) (by decide)
    omega
theorem onR_iff {R : List Rch} (h : Riv R) {p g : Nat} : onR R p g = true ↔ ∃ k, itr R k (p : Int) = (g : Int) := by
  rw [onR, List.any_eq_true]
  constructor
  · rintro ⟨k, _, h2⟩; exact ⟨k, of_decide_eq_true h2⟩
  · rintro ⟨k, h2⟩
    have := itr_few h (p := p) (k := k) (by omega)
    exact ⟨k, List.mem_range.2 (by omega), decide_eq_true h2⟩
theorem wyR {R : List Rch} (h : Riv R) : Wy (onR R) := by
  constructor
  · intro p g q h1 h2
    obtain ⟨j, h3⟩ := (onR_iff h).1 h1
    obtain ⟨k, h4⟩ := (onR_iff h).1 h2
    exact (onR_iff h).2 ⟨j + k, by rw [itr_add, h3, h4]⟩
  · intro p g q h1 h2
    obtain ⟨j, h3⟩ := (onR_iff h).1 h1
    obtain ⟨k, h4⟩ := (onR_iff h).1 h2
    rcases Nat.le_total j k with h5 | h5
    · obtain ⟨d, rfl⟩ : ∃ d, k = j + d := ⟨k - j, by omega⟩
      rw [itr_add, h3] at h4
      exact .inl ((onR_iff h).2 ⟨d, h4⟩)
    · obtain ⟨d, rfl⟩ : ∃ d, j = k + d := ⟨j - k, by omega⟩
      rw [itr_add, h4] at h3
      exact .inr ((onR_iff h).2 ⟨d, h3⟩)
/-- A way has no gauge twice. -/
theorem itr_inj {R : List Rch} (h : Riv R) {p : Nat} {i j : Nat} (hij : i < j) (hi : 0 ≤ itr R i (p : Int)) : itr R i (p : Int) ≠ itr R j (p : Int) := by
  intro e
  obtain ⟨d, rfl⟩ : ∃ d, j = i + d := ⟨j - i, by omega⟩
  rw [itr_add] at e
  have h1 : ∀ m : Nat, itr R (m * d) (itr R i (p : Int)) = itr R i (p : Int) := by
    intro m
    induction m with
    | zero => rw [Nat.zero_mul]; rfl
    | succ m ih => rw [Nat.succ_mul, itr_add, ih, ← e]
  have h2 := h1 (R.length + 1)
  rw [← itr_add] at h2
  have h3 := itr_few h (p := p) (k := i + (R.length + 1) * d) (by rw [h2]; exact hi)
  have h4 : (R.length + 1) * 1 ≤ (R.length + 1) * d := Nat.mul_le_mul_left _ (by omega)
  omega
/-- Which of the first K gauges from one on down one is. -/
def onK (R : List Rch) (p : Nat) (K g : Nat) : Bool := (List.range K).any fun k => decide (itr R k (p : Int) = (g : Int))
theorem onK_zero (R : List Rch) (p g : Nat) : onK R p 0 g = false := rfl
theorem onK_succ (R : List Rch) (p K g : Nat) : onK R p (K + 1) g = (onK R p K g || decide (itr R K (p : Int) = (g : Int))) := by
  rw [onK, List.range_succ, List.any_append, onK, List.any_cons, List.any_nil, Bool.or_false]
theorem onK_end {R : List Rch} (h : Riv R) {p K : Nat} (hK : itr R K (p : Int) < 0) (g : Nat) : onK R p K g = onR R p g := by
  rw [Bool.eq_iff_iff, onR_iff h, onK, List.any_eq_true]
  constructor
  · rintro ⟨k, _, h2⟩; exact ⟨k, of_decide_eq_true h2⟩
  · rintro ⟨k, h2⟩
    refine ⟨k, List.mem_range.2 ?_, decide_eq_true h2⟩
    apply Nat.lt_of_not_le
    intro h3
    have := itr_stay hK h3
    omega
theorem onK_new {R : List Rch} (h : Riv R) {p K g : Nat} (hg : itr R K (p : Int) = (g : Int)) : onK R p K g = false := by
  rw [onK, List.any_eq_false]
  intro k hk h2
  have h3 := of_decide_eq_true h2
  exact itr_inj h (p := p) (List.mem_range.1 hk) (by omega) (by rw [h3, hg])
/-- The outlet of each gauge. -/
theorem outlet {R : List Rch} (h : Riv R) {p : Nat} (hp : p < R.length) : ∃ o, o < R.length ∧ onR R p o = true ∧ dnOf R (o : Int) < 0 ∧ ∀ q, q < R.length → onR R p q = true → dnOf R (q : Int) < 0 → q = o := by
  obtain ⟨d1, d2, d3⟩ := h.dep (g := (p : Int)) (by omega)
  have hpos : 0 < dpt R p := by
    rcases Nat.eq_zero_or_pos (dpt R p) with h5 | h5
    · rw [h5, itr] at d1; omega
    · exact h5
  obtain ⟨k, hk⟩ : ∃ k, dpt R p = k + 1 := ⟨dpt R p - 1, by omega⟩
  have e1 := d3 k (by omega)
  have e2 := (h.in_ k (g := (p : Int)) (by omega) (by omega)).2
  rw [hk, itr_succ] at d1
  refine ⟨(itr R k p).toNat, by omega, (onR_iff h (p := p)).2 ⟨k, (Int.toNat_of_nonneg e1).symm⟩, by rw [Int.toNat_of_nonneg e1]; exact d1, fun q hq ho hd => ?_⟩
  obtain ⟨j, hj⟩ := (onR_iff h).1 ho
  have hjd : ¬ k < j := fun hlt => by
    have := itr_stay (R := R) (k := k + 1) (j := j) (g := (p : Int)) (by rw [itr_succ]; exact d1) hlt
    omega
  have hjk : j = k := by
    rcases Nat.lt_or_ge j k with h1 | h1
    · have h2 := itr_stay (R := R) (k := j + 1) (j := k) (g := (p : Int)) (by rw [itr_succ, hj]; exact hd) h1
      omega
    · omega
  subst hjk
  rw [hj]; rfl
/-- All water is taken, or left at an outlet. -/
theorem conserve {R : List Rch} (h : Riv R) (gn : Nat → Rat) (zs : List (Cm × Rat)) (hz : ∀ z ∈ zs, z.1.pl < R.length) :
    (qs zs fun z => z.2) + (qs (List.range R.length) fun g => if dnOf R (g : Int) < 0 then sup (onR R) R.length gn g - used (onR R) zs g else 0) = qs (List.range R.length) gn := by
  have one : ∀ (p : Nat) (x : Rat), p < R.length → (qs (List.range R.length) fun g => if dnOf R (g : Int) < 0 then (if onR R p g = true then x else 0) else 0) = x := by
    intro p x hp
    obtain ⟨o, o1, o2, o3, o4⟩ := outlet h hp
    have e : ∀ g ∈ List.range R.length, (if dnOf R (g : Int) < 0 then (if onR R p g = true then x else 0) else 0) = if g = o then x else 0 := by
      intro g hg
      by_cases hd : dnOf R (g : Int) < 0
      · rw [if_pos hd]
        cases hon : onR R p g with
        | true => rw [o4 g (List.mem_range.1 hg) hon hd, if_pos rfl, if_pos rfl]
        | false =>
          rw [if_neg (by decide), if_neg]
          rintro rfl
          rw [o2] at hon; cases hon
      · rw [if_neg hd, if_neg]
        rintro rfl
        exact hd o3
    rw [qs_congr e]
    have : ∀ m, o < m → (qs (List.range m) fun g => if g = o then x else 0) = x := by
      intro m
      induction m with
      | zero => intro h; omega
      | succ m ih =>
        intro hm
        rw [List.range_succ, qs_app, qs_cons, qs_nil]
        by_cases hmo : m = o
        · subst hmo
          rw [if_pos rfl, qs_congr (g := fun _ => 0) (fun g hg => if_neg (by have := List.mem_range.1 hg; omega)), qs_zero]; grind
        · rw [if_neg hmo, ih (by omega)]; grind
    exact this _ o1
  have e1 : (qs (List.range R.length) fun g => if dnOf R (g : Int) < 0 then sup (onR R) R.length gn g else 0) = qs (List.range R.length) gn := by
    have : ∀ g ∈ List.range R.length, (if dnOf R (g : Int) < 0 then sup (onR R) R.length gn g else 0) = qs (List.range R.length) fun p => if dnOf R (g : Int) < 0 then (if onR R p g = true then gn p else 0) else 0 := by
      intro g _
      by_cases hd : dnOf R (g : Int) < 0
      · rw [if_pos hd, sup]; exact qs_congr fun p _ => (if_pos hd).symm
      · rw [if_neg hd]; exact ((qs_congr fun p _ => if_neg hd).trans (qs_zero _)).symm
    rw [qs_congr this, qs_swap (fun g p => if dnOf R ((g : Nat) : Int) < 0 then (if onR R p g = true then gn p else 0) else 0)]
    exact qs_congr fun p hp => one p (gn p) (List.mem_range.1 hp)
  have e2 : (qs (List.range R.length) fun g => if dnOf R (g : Int) < 0 then used (onR R) zs g else 0) = qs zs fun z => z.2 := by
    have : ∀ g ∈ List.range R.length, (if dnOf R (g : Int) < 0 then used (onR R) zs g else 0) = qs zs fun z => if dnOf R (g : Int) < 0 then (if onR R z.1.pl g = true then z.2 else 0) else 0 := by
      intro g _
      by_cases hd : dnOf R (g : Int) < 0
      · rw [if_pos hd, used]; exact qs_congr fun p _ => (if_pos hd).symm
      · rw [if_neg hd]; exact ((qs_congr fun p _ => if_neg hd).trans (qs_zero _)).symm
    rw [qs_congr this, qs_swap (fun (g : Nat) (z : Cm × Rat) => if dnOf R ((g : Nat) : Int) < 0 then (if onR R z.1.pl g = true then z.2 else 0) else 0)]
    exact qs_congr fun z hz' => one z.1.pl z.2 (hz z hz')
  rw [show (fun g : Nat => if dnOf R (g : Int) < 0 then sup (onR R) R.length gn g - used (onR R) zs g else 0) = fun g : Nat => (if dnOf R (g : Int) < 0 then sup (onR R) R.length gn g else 0) - (if dnOf R (g : Int) < 0 then used (onR R) zs g else 0) from funext fun g => by split <;> grind]
  rw [qs_sub, e1, e2]; grind
end Go.Proofs.YtcdgibkbbcekhaaGreatDoor
/-
  Plain laws of rights: what bounds a claim.
-/
namespace Go.Proofs.YtcdgibkbbcekhaaGreatDoor
/-! ### what bounds a claim -/
def wayN (R : List Rch) (p : Nat) : List Nat := (List.range (dpt R (p : Int))).map fun i => (itr R i (p : Int)).toNat
theorem mem_wayN {R : List Rch} (h : Riv R) {p : Nat} (hp : p < R.length) {g : Nat} : g ∈ wayN R p ↔ onR R p g = true := by
  obtain ⟨d1, d2, d3⟩ := h.dep (g := (p : Int)) (by omega)
  rw [wayN, List.mem_map, onR_iff h]
  constructor
  · rintro ⟨i, hi, rfl⟩
    have := d3 i (List.mem_range.1 hi)
    exact ⟨i, by omega⟩
  · rintro ⟨k, hk⟩
    refine ⟨k, List.mem_range.2 (Nat.lt_of_not_le fun hl => ?_), by omega⟩
    have := itr_stay d1 hl
    omega
theorem onR_lt {R : List Rch} (h : Riv R) {p g : Nat} (hp : p < R.length) (ho : onR R p g = true) : g < R.length := by
  obtain ⟨k, hk⟩ := (onR_iff h).1 ho
  have := (h.in_ k (g := (p : Int)) (by omega) (by omega)).2
  omega
/-- What speaks against a gauge as the bound of a claim. -/
def badB (on : Nat → Nat → Bool) (z : Cm × Rat) (g : Nat) (y : Cm × Rat) : Bool :=
  on y.1.pl g && (decide (y.1.am ≠ 0) && (decide (z.1.rk < y.1.rk ∧ y.2 ≠ 0) || decide (y.1.rk = z.1.rk ∧ z.2 * y.1.am < y.2 * z.1.am)))
def bndB (on : Nat → Nat → Bool) (n : Nat) (gn : Nat → Rat) (zs : List (Cm × Rat)) (z : Cm × Rat) (g : Nat) : Bool := !(zs.any (badB on z g)) && decide (sup on n gn g - used on zs g = 0)
def atZ (R : List Rch) (gn : Nat → Rat) (zs : List (Cm × Rat)) (z : Cm × Rat) : Option Int := if z.2 = z.1.am then some (-1) else Option.map (fun g : Nat => (g : Int)) ((wayN R z.1.pl).find? (bndB (onR R) R.length gn zs z))
def allO : List (Option Int) → Option (List Int)
  | [] => some []
  | none :: _ => none
  | some x :: r => (allO r).map (x :: ·)
def fairZ (R : List Rch) (gn : Nat → Rat) (zs : List (Cm × Rat)) : Option (List Int) := allO (zs.map (atZ R gn zs))
theorem allO_none : ∀ {l : List (Option Int)}, allO l = none ↔ none ∈ l
  | [] => by simp [allO]
  | none :: _ => by simp [allO]
  | some x :: r => by
    rw [allO, Option.map_eq_none_iff, allO_none]; simp
theorem allO_some : ∀ {l : List (Option Int)} {L : List Int}, allO l = some L ↔ l = L.map some
  | [], L => by
    rw [allO]
    cases L <;> simp
  | none :: _, L => by
    rw [allO]
    cases L <;> simp
  | some x :: r, L => by
    rw [allO, Option.map_eq_some_iff]
    constructor
    · rintro ⟨M, h1, rfl⟩
      rw [allO_some.1 h1]; rfl
    · intro h
      cases L with
      | nil => cases h
      | cons y L =>
        rw [List.map_cons, List.cons.injEq, Option.some.injEq] at h
        exact ⟨L, allO_some.2 h.2, by rw [h.1]⟩
/-- Takes are possible. -/
structure Poss (on : Nat → Nat → Bool) (n : Nat) (gn : Nat → Rat) (zs : List (Cm × Rat)) : Prop where
  nn : ∀ z ∈ zs, 0 ≤ z.2 ∧ z.2 ≤ z.1.am
  ok : ∀ g, g < n → used on zs g ≤ sup on n gn g
theorem atZ_neg {R : List Rch} {gn : Nat → Rat} {zs : List (Cm × Rat)} {z : Cm × Rat} : atZ R gn zs z = some (-1) ↔ z.2 = z.1.am := by
  rw [atZ]
  split
  · simp [*]
  · rename_i h
    rw [Option.map_eq_some_iff]
    constructor
    · rintro ⟨x, _, h2⟩; omega
    · intro e; exact absurd e h
end Go.Proofs.YtcdgibkbbcekhaaGreatDoor
