/-
  Contracts of kernels: Arrive of the specification.
-/
import Derived.Test.YtceaamdomkjmlaaGreatDoorNA17
import Derived.ProofKit
set_option linter.unusedVariables false
set_option linter.unusedSimpArgs false
set_option linter.unusedSectionVars false
namespace Go.Proofs.YtceaamdomkjmlaaGreatDoor
open Go.RowKit Go.Sl Go.Num
theorem flat_last_part {A : Type} {f : A → List Value} {sz : Nat} (hf : ∀ x, (f x).length = sz) (o : List A) (p : A) (j m : Nat) : ((flat f (o ++ [p])).drop (0 + o.length * sz + j)).take m = ((f p).drop j).take m := by
  have : (flat f (o ++ [p])).drop (0 + o.length * sz + j) = (f p).drop j := by
    rw [flat_append, List.drop_append, flat_len hf, List.drop_of_length_le (by rw [flat_len hf]; omega), show 0 + o.length * sz + j - o.length * sz = j by omega, flat_cons, show flat f [] = [] from rfl, List.append_nil, List.nil_append]
  rw [this]
theorem wIn_step {k : List Int} {i : Nat} (h : i < k.length) (fr to t : Int) : wIn (k.drop i) fr to t = (if fr ≤ t ∧ t < to then k[i] else 0) + wIn (k.drop (i + 1)) fr to (t + 1) := by
  rw [List.drop_eq_getElem_cons h, wIn]
theorem rQ_div {a b n : Int} (hn : 0 < n) : rQ ((a : Rat) / (n : Rat)) = rQ ((b : Rat) / (n : Rat)) ↔ a = b := by
  constructor
  · intro h
    have h2 := rQ_inj h
    have hne := rat_ne hn
    have h3 : (a : Rat) = (b : Rat) := by
      have e := congrArg (fun x : Rat => x * (n : Rat)) h2
      rw [Rat.div_mul_cancel hne, Rat.div_mul_cancel hne] at e
      exact e
    exact Rat.intCast_inj.1 h3
  · intro h; rw [h]
theorem rArrive_holds (a : Option Addr) (k : List Int) (c : Nat) (fr to : Int) (w : World) (hA : SlAt w a 1 (k.map isV)) :
    Calls Tryz.prog 61 #[.agg #[.slice a k.length c], .agg #[.int .i64 fr, .int .i64 to]] w (RetW (fun v => .agg #[v, .int .i64 (arrE k fr to).2]) (sumL k) w (arrE k fr to).1) := by
  have hc := fun w' (hb : Below w.heap.size w w') => rkCheck_holds a k c w' (hA.below hb)
  rw [arrE]
  by_cases h0 : kerErr k = 0
  case neg =>
    rw [if_pos h0]
    dsimp only
    generalize kerErr k = E at *
    refine enterA [(0, .agg #[.slice a k.length c]), (1, .agg #[.int .i64 fr, .int .i64 to])] Tryz.func61 Tryz.ntmps61 ?_
    all_goals (refine go ?_; and_intros <;> (try exact trivial) <;> repeat (first | refine fun (Bk : Nat) => ?_ | intro h))
    repeat' ((first | (refine G.cvb hc ?_)) <;> (refine go ?_; and_intros <;> (try exact trivial) <;> repeat (first | refine fun (Bk : Nat) => ?_ | intro h)))
    (refine ret1 Tryz.func61 Tryz.results61 ?_; intro w' hw)
    exact retW_nil (fun v => .agg #[v, .int .i64 E]) _ hw.below
  have hk := ker_of h0
  rw [if_neg (fun h => h h0)]
  rw [h0] at hc
  by_cases h1 : fr < 0 ∨ to < fr ∨ 1402560 < to
  · rw [if_pos h1]
    dsimp only
    refine enterA [(0, .agg #[.slice a k.length c]), (1, .agg #[.int .i64 fr, .int .i64 to])] Tryz.func61 Tryz.ntmps61 ?_
    all_goals (refine go ?_; and_intros <;> (try exact trivial) <;> repeat (first | refine fun (Bk : Nat) => ?_ | intro h))
    repeat' ((first | (refine G.cvb hc ?_)) <;> (refine go ?_; and_intros <;> (try exact trivial) <;> repeat (first | refine fun (Bk : Nat) => ?_ | intro h)))
    all_goals
      (refine ret1 Tryz.func61 Tryz.results61 ?_; intro w' hw)
      exact retW_nil (fun v => .agg #[v, .int .i64 3]) _ hw.below
  rw [if_neg h1]
  dsimp only
  have hsum := hk.sum
  have hkl := hk.len
  have hkn := hk.nn
  have htt := fun w' (hb : Below w.heap.size w w') => sum_holds a k c w' (hA.below hb) hk.wOk
  have hT : arrF (wIn k fr to) (to - max 0 (fr - 400)).toNat (max 0 (fr - 400)) [] = arrL k fr to := arrL_from (by rw [t0Of]; omega) (by omega)
  have hwn := fun t => wIn_nn (fr := fr) (to := to) k t (fun w hw => (hk.nn w hw).1)
  have hpt := fun t w' (_ : Below w.heap.size w w') => rPart_holds (wIn k fr to t) (sumL k) w' (by have := hwn t; omega) (by have := hwn t; omega) (by omega) (by omega) (by omega)
  obtain ⟨ba, oa, rfl, hra⟩ := SlAt.all hA (by omega)
  have ht0 : 0 ≤ max 0 (fr - 400) ∧ max 0 (fr - 400) ≤ to := by omega
  refine enterA [(0, .agg #[.slice (some ⟨ba, oa, none⟩) k.length c]), (1, .agg #[.int .i64 fr, .int .i64 to])] Tryz.func61 Tryz.ntmps61 ?_
  all_goals (refine go ?_; and_intros <;> (try exact trivial) <;> repeat (first | refine fun (Bk : Nat) => ?_ | intro h))
  repeat' ((first | (refine G.cvb hc ?_)) <;> (refine go ?_; and_intros <;> (try exact trivial) <;> repeat (first | refine fun (Bk : Nat) => ?_ | intro h)))
  generalize max 0 (fr - 400) = t0 at *
  generalize arrL k fr to = T at *
  generalize hq : sumL k = tot at *
  apply J.nilOwn (E := 83) (size := 5)
  rename_i B2 B3 _ _ _
  revert Bk; intro B4
  rw [show (Value.int .i64 t0) = .int .i64 (t0 + (0 : Nat)) from by rw [Int.natCast_zero, Int.add_zero]]
  refine J.loop (c := _) ((0, [], (none, 0, 0)) : Nat × List Prt × (Option Addr × Nat × Nat)) (fun s => (to - t0).toNat - s.1) (fun s => [(2, .pointer (some ⟨B2, 0, none⟩)), (3, .pointer (some ⟨B3, 0, none⟩)), (4, .pointer (some ⟨B4, 0, none⟩)), (6, .slice s.2.2.1 s.2.2.2.1 s.2.2.2.2), (7, .int .i64 (t0 + s.1))]) (fun s => [.own 0 (.slice s.2.2.1 s.2.2.2.1 s.2.2.2.2) 83 5 s.2.2.2.1 (flat (wV tot) s.2.1), .blk B4 115 [.slice none 0 0, .int .i64 0] 2, .blk B3 25 [.int .i64 fr, .int .i64 to] 2, .blk B2 41 [.slice (some ⟨ba, oa, none⟩) k.length c] 1]) (fun s => s.1 ≤ (to - t0).toNat ∧ s.2.1 = arrF (wIn k fr to) s.1 t0 [] ∧ s.2.2.2.1 = s.2.1.length) ?_ sbT sbL ?_
  · exact ⟨Nat.zero_le _, rfl, rfl⟩
  clear hc
  intro ⟨i, L, ⟨au, n, cu⟩⟩ ⟨i1, i2, i3⟩ ih
  dsimp only at i1 i2 i3 ⊢
  by_cases hi : i < (to - t0).toNat
  · have hLl := arrF_len (W := wIn k fr to) t0 i
    rw [← i2] at hLl
    have hsu := arrF_succ (W := wIn k fr to) i t0 []
    rw [← i2] at hsu
    have hpt := hpt (t0 + i)
    have hwb := hwn (t0 + i)
    have hap : flat (wV tot) L ++ wV tot (t0 + i, t0 + i + 1, wIn k fr to (t0 + i)) = flat (wV tot) (L ++ [(t0 + i, t0 + i + 1, wIn k fr to (t0 + i))]) := flat1 _ _ _
    have ihN := fun L2 x2 (h : L2 = addP L (t0 + i) (wIn k fr to (t0 + i))) h2 => ih (i + 1, L2, x2) ⟨hi, h.trans hsu.symm, h2⟩ (by dsimp only; omega)
    have e9 : t0 + ((i + 1 : Nat) : Int) = t0 + i + 1 := by omega
    dsimp only at ihN
    simp only [e9] at ihN
    clear hT hwn ih e9
    all_goals (refine go ?_; and_intros <;> (try exact trivial) <;> repeat (first | refine fun (Bk : Nat) => ?_ | intro h))
    refine J.loop (c := _) ((0, 0) : Nat × Int) (fun s => k.length - s.1) (fun s => [(2, .pointer (some ⟨B2, 0, none⟩)), (3, .pointer (some ⟨B3, 0, none⟩)), (4, .pointer (some ⟨B4, 0, none⟩)), (6, .slice au n cu), (7, .int .i64 (t0 + i)), (8, .int .i64 s.2), (9, .int .i64 s.1)]) (fun s => [.own 0 (.slice au n cu) 83 5 n (flat (wV tot) L), .blk B4 115 [.slice none 0 0, .int .i64 0] 2, .blk B3 25 [.int .i64 fr, .int .i64 to] 2, .blk B2 41 [.slice (some ⟨ba, oa, none⟩) k.length c] 1]) (fun s => s.1 ≤ k.length ∧ s.2 + wIn (k.drop s.1) fr to (t0 + i + s.1) = wIn k fr to (t0 + i) ∧ 0 ≤ s.2 ∧ s.2 ≤ 999999999999999 * s.1) ?_ sbT sbL ?_
    · refine ⟨Nat.zero_le _, ?_, Int.le_refl _, by dsimp only; omega⟩
      dsimp only
      rw [Int.natCast_zero, Int.add_zero, Int.zero_add, List.drop_zero]
    intro ⟨m, sm⟩ ⟨m1, m2, m3, m4⟩ ih2
    dsimp only at m1 m2 m3 m4 ⊢
    by_cases hm : m < k.length
    · have hrm := hra m hm
      have hkm := hkn _ (List.getElem_mem hm)
      rw [wIn_step hm, show t0 + (i : Int) + (m : Int) + 1 = t0 + i + ((m + 1 : Nat) : Int) by omega, ← Int.add_assoc] at m2
      clear ihN hap hpt htt hra
      by_cases hin : fr ≤ t0 + i + m ∧ t0 + i + m < to
      · rw [if_pos hin] at m2
        have ih2 := ih2 (m + 1, sm + k[m]) ⟨hm, m2, by dsimp only; omega, by dsimp only; omega⟩ (by dsimp only; omega)
        generalize k[m] = y at *
        dsimp only [isV] at hrm
        all_goals (refine go ?_; and_intros <;> (try exact trivial) <;> repeat (first | refine fun (Bk : Nat) => ?_ | intro h))
        exact J.fin ih2
      · rw [if_neg hin, Int.add_zero] at m2
        have ih2 := ih2 (m + 1, sm) ⟨hm, m2, by dsimp only; omega, by dsimp only; omega⟩ (by dsimp only; omega)
        generalize k[m] = y at *
        all_goals (refine go ?_; and_intros <;> (try exact trivial) <;> repeat (first | refine fun (Bk : Nat) => ?_ | intro h))
        all_goals exact J.fin ih2
    · obtain rfl : m = k.length := by omega
      rw [List.drop_length, wIn, Int.add_zero] at m2
      rw [← m2] at ihN hpt hwb hap hsu
      clear ih2 hra
      all_goals (refine goR ?_; and_intros <;> (try exact trivial) <;> repeat (first | refine fun (Bk : Nat) => ?_ | intro h))
      repeat' ((first | (refine G.cvb htt ?_) | (refine G.cvb hpt ?_)) <;> (refine goR ?_; and_intros <;> (try exact trivial) <;> repeat (first | refine fun (Bk : Nat) => ?_ | intro h)))
      by_cases hw0 : sm = 0
      · have ih := ihN L (au, n, cu) (by rw [addP, if_pos hw0]) i3
        clear hap hsu
        all_goals (refine go ?_; and_intros <;> (try exact trivial) <;> repeat (first | refine fun (Bk : Nat) => ?_ | intro h))
        repeat' ((first | fail) <;> (refine go ?_; and_intros <;> (try exact trivial) <;> repeat (first | refine fun (Bk : Nat) => ?_ | intro h)))
        all_goals exact J.finS ih
      · rcases nil_or_snoc L with rfl | ⟨o, p, rfl⟩
        · rw [addP_nil hw0] at ihN
          obtain rfl : n = 0 := i3
          have ih := fun a2 c2 => ihN _ (a2, 1, c2) rfl rfl
          clear hsu
          all_goals (refine go ?_; and_intros <;> (try exact trivial) <;> repeat (first | refine fun (Bk : Nat) => ?_ | intro h))
          repeat' ((first | (apply G.sliceL; rfl; rfl; rfl; rfl; rfl; rfl; rfl; rfl; intro Bs) | (apply G.apV; rfl; rfl; rfl; (repeat (first | exact RAt.head | apply RAt.tail)); exact SrcV.blk (by exact mm) rfl rfl; exact hap; omega; omega; intro a2 c2)) <;> (refine go ?_; and_intros <;> (try exact trivial) <;> repeat (first | refine fun (Bk : Nat) => ?_ | intro h)))
          exact J.finS (ih a2 c2)
        · rw [addP_snoc o p hw0] at ihN
          obtain rfl : n = o.length + 1 := by rw [i3, List.length_append]; rfl
          have hg1 : (flat (wV tot) (o ++ [p]))[0 + o.length * 5 + 1]? = some (.int .i64 p.2.1) := flat_last_get (wV_len tot) o p 1
          have hg2 : ((flat (wV tot) (o ++ [p])).drop (0 + o.length * 5 + 2)).take 3 = qV (rQ ((p.2.2 : Rat) / (tot : Rat))) := flat_last_part (wV_len tot) o p 2 3
          have hqe := rQ_div (a := p.2.2) (b := sm) (n := tot) (by omega)
          rw [List.length_append] at hLl
          refine J.ownOpen (by (repeat (first | exact RAt.head | apply RAt.tail))) (Nat.succ_pos _) fun g cap q1 q2 q3 => ?_
          cases q3
          by_cases hm : p.2.1 = t0 + i ∧ p.2.2 = sm
          · rw [if_pos hm] at ihN
            have hq1 := hqe.2 hm.2
            have r1 : setL (flat (wV tot) (o ++ [p])) (0 + o.length * 5 + 1) [.int .i64 (t0 + i + 1)] = flat (wV tot) (o ++ [(p.1, t0 + i + 1, p.2.2)]) := flat_last_set (wV_len tot) o p (p.1, t0 + i + 1, p.2.2) 1 _ rfl
            have l1 : 0 + o.length * 5 + 1 < (flat (wV tot) (o ++ [p])).length := by rw [flat_len (wV_len tot), List.length_append]; show _ < (o.length + 1) * 5; omega
            have hm1 := hm.1
            have ih := ihN _ (some ⟨g, 0, none⟩, o.length + 1, cu) rfl (by rw [List.length_append]; rfl)
            rw [← hm.2] at ih
            all_goals (refine go ?_; and_intros <;> (try exact trivial) <;> repeat (first | refine fun (Bk : Nat) => ?_ | intro h))
            repeat' ((first | (apply G.ld; rfl; (apply LdV.one; exact CellV.blk (by exact mm) hg1); rfl) | (apply G.ld; rfl; (apply LdV.part; exact mm; exact hg2; rfl); rfl) | (apply G.ix (i := o.length); rfl; rfl; omega; omega; rfl) | (apply G.eqR (rQ ((p.2.2 : Rat) / (tot : Rat))) (rQ ((sm : Rat) / (tot : Rat))); rfl; rfl; rfl; all_goals intro h; all_goals try (exact absurd hq1 h)) | (apply G.s1; rfl; rfl; rfl; (repeat (first | exact RAt.head | apply RAt.tail)); exact ⟨rfl, rfl⟩; exact l1; exact r1)) <;> (refine go ?_; and_intros <;> (try exact trivial) <;> repeat (first | refine fun (Bk : Nat) => ?_ | intro h)))
            refine J.blkCut (g := g) (f := wV tot) (l' := o ++ [(p.1, t0 + i + 1, p.2.2)]) (o.length + 1) (wV_len tot) (by (repeat (first | exact RAt.head | apply RAt.tail))) q1 q2 (by rw [List.length_append]; exact Nat.le_refl _) (List.take_of_length_le (by rw [List.length_append]; exact Nat.le_refl _)) ?_
            exact J.finS ih
          · rw [if_neg hm] at ihN
            have ih := fun a2 c2 => ihN _ (a2, o.length + 1 + 1, c2) rfl (by rw [List.length_append, List.length_append]; rfl)
            have hno : p.2.1 = t0 + i → rQ ((p.2.2 : Rat) / (tot : Rat)) ≠ rQ ((sm : Rat) / (tot : Rat)) := fun h1 h2 => hm ⟨h1, hqe.1 h2⟩
            clear hsu
            all_goals (refine go ?_; and_intros <;> (try exact trivial) <;> repeat (first | refine fun (Bk : Nat) => ?_ | intro h))
            repeat' ((first | (apply G.ld; rfl; (apply LdV.one; exact CellV.blk (by exact mm) hg1); rfl) | (apply G.ld; rfl; (apply LdV.part; exact mm; exact hg2; rfl); rfl) | (apply G.ix (i := o.length); rfl; rfl; omega; omega; rfl) | (apply G.eqR (rQ ((p.2.2 : Rat) / (tot : Rat))) (rQ ((sm : Rat) / (tot : Rat))); rfl; rfl; rfl; all_goals intro h; all_goals try (exact absurd h (hno (by assumption)))) | (apply G.sliceL; rfl; rfl; rfl; rfl; rfl; rfl; rfl; rfl; intro Bs) | (refine G.blkCut (g := g) (f := wV tot) (l' := o ++ [p]) (o.length + 1) (wV_len tot) (by (repeat (first | exact RAt.head | apply RAt.tail))) q1 q2 (by rw [List.length_append]; exact Nat.le_refl _) (List.take_of_length_le (by rw [List.length_append]; exact Nat.le_refl _)) ?_; (apply G.apV; rfl; rfl; rfl; (repeat (first | exact RAt.head | apply RAt.tail)); exact SrcV.blk (by exact mm) rfl rfl; exact hap; omega; omega; intro a2 c2))) <;> (refine go ?_; and_intros <;> (try exact trivial) <;> repeat (first | refine fun (Bk : Nat) => ?_ | intro h)))
            all_goals exact J.finS (ih a2 c2)
  · obtain rfl : i = (to - t0).toNat := by omega
    rw [hT] at i2
    subst i2
    clear ih
    rw [show t0 + (((to - t0).toNat : Nat) : Int) = to by omega]
    all_goals (refine go ?_; and_intros <;> (try exact trivial) <;> repeat (first | refine fun (Bk : Nat) => ?_ | intro h))
    (refine ret1 Tryz.func61 Tryz.results61 ?_; intro w' hw)
    exact satW hw (i := 0) rfl i3.symm fun v => .agg #[v, .int .i64 0]
end Go.Proofs.YtceaamdomkjmlaaGreatDoor
/-
  Contracts of rivers: Parts of both; equal parts.
-/
namespace Go.Sl
open Go.RowKit
variable {C : Ctx} {st : List (Nat × Value)} {M : List Row} {k : List Item} {q q' : Md} {all rest : List Oper} {d : Nat} {ty : TypeId} {pos : String} {after : Array Edge} {gd : Option (Nat × Bool)}
/-- A struct is not unlike itself. -/
theorem G.neE {T : TypeId} {x y : Operand} {yt : TypeId} {cs : Array Value} (hx : evS st x = some (.agg cs)) (hy : evS st y = some (.agg cs)) (hE : ∀ w, (Op.equal T (.agg cs) (.agg cs)).run C.P w = .ok true w) (hG : C.P.eqGuardType C.P.depth T = false) (hs : sideB all st gd d C.N q.calm = some q') (h : G q' C all ((d, .bool false) :: st) M rest k) :
    G q C all st M ({ dst := some d, op := .binOp .neq T x y yt, type := ty, pos, after, guard := gd } :: rest) k := by
  obtain ⟨g1, g2, g3⟩ := sideB_ok hs
  refine G.op (OpV.of fun ac w hf _ dst pos after guard => ?_) g1 rfl g2 g3 h
  have hg : (eqGuard .neq T x y (.agg cs) (.agg cs)).run C.P w = .ok () w := run_eqGuard_agg w .neq T x y _ _ hG
  have e : (binOp .neq T (.agg cs) (.agg cs)).run C.P w = .ok (.bool false) w := by
    show ((Op.equal T _ _).bind fun b => Sem.pure (Value.bool (!b))).run C.P w = _
    rw [Sem.run_bind', hE]; rfl
  simp only [execOp, hf.eval hx, hf.eval hy, Sem.run_bind, hg, e, Result.andThen_ok]; rfl
end Go.Sl
namespace Go.Proofs.YtceaamdomkjmlaaGreatDoor
open Go.RowKit Go.Sl Go.Num
theorem eqWt (s t : Int) (a : Bool) (x u : ByteArray) (w : World) : (Op.equal 83 (.agg #[.int .i64 s, .int .i64 t, .bool a, .string x, .string u]) (.agg #[.int .i64 s, .int .i64 t, .bool a, .string x, .string u])).run Tryz.prog w = .ok true w := by simp [go_sem, Op.equal, Op.maxDepth]
theorem eqgWt : Tryz.prog.eqGuardType Tryz.prog.depth 83 = false := by kernel_rfl
theorem sameParts_holds (a b : Option Addr) (tot : Int) (l : List Prt) (c d : Nat) (w : World) (hA : SlAt w a 5 (l.map (wV tot))) (hB : SlAt w b 5 (l.map (wV tot))) (hl : l.length ≤ 1000000000) :
    Calls Tryz.prog 29 #[.slice a l.length c, .slice b l.length d] w fun e w' => e = .returned (.bool true) ∧ Below w.heap.size w w' := by
  refine enterA [(0, .slice a l.length c), (1, .slice b l.length d)] Tryz.func29 Tryz.ntmps29 ?_
  all_goals (refine go ?_; and_intros <;> (try exact trivial) <;> repeat (first | refine fun (Bk : Nat) => ?_ | intro h))
  refine J.loop (c := _) (0 : Nat) (fun s => l.length - s) (fun s => [(0, .slice a l.length c), (1, .slice b l.length d), (5, .int .i64 s)]) (fun s => []) (fun s => s ≤ l.length) ?_ sbT sbL ?_
  · exact Nat.zero_le _
  intro i h1 ih
  by_cases hi : i < l.length
  · obtain ⟨ba, oa, rfl, hra⟩ := SlAt.all hA (by omega)
    obtain ⟨bb, ob, rfl, hrb⟩ := SlAt.all hB (by omega)
    have hr1 := hra i hi
    have hr2 := hrb i hi
    have ih := ih (i + 1) hi (by omega)
    clear hra hrb
    generalize l[i] = p at *
    obtain ⟨f, t, x⟩ := p
    dsimp only [wV] at hr1 hr2
    generalize rQ ((x : Rat) / (tot : Rat)) = Q at *
    obtain ⟨ng, nu, de⟩ := Q
    dsimp only [qV, List.cons_append, List.nil_append] at hr1 hr2
    all_goals (refine go ?_; and_intros <;> (try exact trivial) <;> repeat (first | refine fun (Bk : Nat) => ?_ | intro h))
    repeat' ((first | (apply G.neE; rfl; rfl; exact fun w => eqWt _ _ _ _ _ w; exact eqgWt; rfl)) <;> (refine go ?_; and_intros <;> (try exact trivial) <;> repeat (first | refine fun (Bk : Nat) => ?_ | intro h)))
    exact J.fin ih
  · skip
    all_goals (refine go ?_; and_intros <;> (try exact trivial) <;> repeat (first | refine fun (Bk : Nat) => ?_ | intro h))
    all_goals refine ret1b Tryz.func29 Tryz.results29 ?_
    all_goals rfl
/-- The parts of what passes a gauge that arrive at another one, or the error. -/
def partsE (l : List Rch) (fr to f t : Int) : List Prt × Int := if (alongE l fr to).2 ≠ 0 then ([], (alongE l fr to).2) else arrE (alongE l fr to).1 f t
theorem vParts_holds (a : Option Addr) (l : List Rch) (c : Nat) (fr to f t : Int) (w : World) (hA : SlAt w a 2 (l.map rcV)) (hK : KerAt w l) :
    Calls Tryz.prog 21 #[.slice a l.length c, .int .i64 fr, .int .i64 to, .agg #[.int .i64 f, .int .i64 t]] w (RetW (fun v => .tuple #[v, .int .i64 (partsE l fr to f t).2]) (sumL (alongE l fr to).1) w (partsE l fr to f t).1) := by
  have ha := fun w' (hb : Below w.heap.size w w') => vAlong_holds a l c fr to w' (hA.below hb) (hK.below hb)
  rw [partsE]
  generalize (alongE l fr to).1 = K at *
  generalize (alongE l fr to).2 = E at *
  by_cases h0 : E = 0
  · subst h0
    rw [if_neg (fun h => h rfl)]
    have hr := fun w' ka kc hk => vArrive_holds ka K kc f t w' hk
    generalize sumL K = tot at *
    generalize (arrE K f t).1 = L at *
    generalize (arrE K f t).2 = E2 at *
    refine enterA [(0, .slice a l.length c), (1, .int .i64 fr), (2, .int .i64 to), (3, .agg #[.int .i64 f, .int .i64 t])] Tryz.func21 Tryz.ntmps21 ?_
    all_goals (refine go ?_; and_intros <;> (try exact trivial) <;> repeat (first | refine fun (Bk : Nat) => ?_ | intro h))
    repeat' ((first | (apply G.cN (g := 19) (fun a' c' => .tuple #[.agg #[.slice a' K.length c'], .int .i64 0]) (K.map isV); rfl; rfl; exact fun w' hw' => ha w' hw'.below; intro a1 c1 hp1 hq1) | (apply G.cN (g := 60) (fun a' c' => .tuple #[.slice a' L.length c', .int .i64 E2]) (L.map (wV tot)); rfl; rfl; exact fun w' hw' => hr w' a1 c1 (hw'.sl (by exact mm)); intro a2 c2 hp2 hq2)) <;> (refine go ?_; and_intros <;> (try exact trivial) <;> repeat (first | refine fun (Bk : Nat) => ?_ | intro h)))
    (refine ret2 Tryz.func21 Tryz.results21 ?_; intro w' hw)
    exact ⟨a2, c2, rfl, hw.sl (by exact mm), hq2, hw.below⟩
  · rw [if_pos h0]
    dsimp only
    refine enterA [(0, .slice a l.length c), (1, .int .i64 fr), (2, .int .i64 to), (3, .agg #[.int .i64 f, .int .i64 t])] Tryz.func21 Tryz.ntmps21 ?_
    all_goals (refine go ?_; and_intros <;> (try exact trivial) <;> repeat (first | refine fun (Bk : Nat) => ?_ | intro h))
    repeat' ((first | (apply G.cN (g := 19) (fun a' c' => .tuple #[.agg #[.slice a' K.length c'], .int .i64 E]) (K.map isV); rfl; rfl; exact fun w' hw' => ha w' hw'.below; intro a1 c1 hp1 hq1)) <;> (refine go ?_; and_intros <;> (try exact trivial) <;> repeat (first | refine fun (Bk : Nat) => ?_ | intro h)))
    (refine ret2 Tryz.func21 Tryz.results21 ?_; intro w' hw)
    exact retW_nil (fun v => .tuple #[v, .int .i64 E]) _ hw.below
theorem rParts_holds (a : Option Addr) (l : List Rch) (c : Nat) (fr to f t : Int) (w : World) (hA : SlAt w a 2 (l.map rcV)) (hK : KerAt w l) :
    Calls Tryz.prog 22 #[.slice a l.length c, .int .i64 fr, .int .i64 to, .agg #[.int .i64 f, .int .i64 t]] w (RetW (fun v => .agg #[v, .int .i64 (partsE l fr to f t).2]) (sumL (alongE l fr to).1) w (partsE l fr to f t).1) := by
  have ha := fun w' (hb : Below w.heap.size w w') => rAlong_holds a l c fr to w' (hA.below hb) (hK.below hb)
  rw [partsE]
  generalize (alongE l fr to).1 = K at *
  generalize (alongE l fr to).2 = E at *
  by_cases h0 : E = 0
  · subst h0
    rw [if_neg (fun h => h rfl)]
    have hr := fun w' ka kc hk => rArrive_holds ka K kc f t w' hk
    generalize sumL K = tot at *
    generalize (arrE K f t).1 = L at *
    generalize (arrE K f t).2 = E2 at *
    refine enterA [(0, .slice a l.length c), (1, .int .i64 fr), (2, .int .i64 to), (3, .agg #[.int .i64 f, .int .i64 t])] Tryz.func22 Tryz.ntmps22 ?_
    all_goals (refine go ?_; and_intros <;> (try exact trivial) <;> repeat (first | refine fun (Bk : Nat) => ?_ | intro h))
    repeat' ((first | (apply G.cN (g := 20) (fun a' c' => .agg #[.slice a' K.length c', .int .i64 0]) (K.map isV); rfl; rfl; exact fun w' hw' => ha w' hw'.below; intro a1 c1 hp1 hq1) | (apply G.cN (g := 61) (fun a' c' => .agg #[.slice a' L.length c', .int .i64 E2]) (L.map (wV tot)); rfl; rfl; exact fun w' hw' => hr w' a1 c1 (hw'.sl (by exact mm)); intro a2 c2 hp2 hq2)) <;> (refine go ?_; and_intros <;> (try exact trivial) <;> repeat (first | refine fun (Bk : Nat) => ?_ | intro h)))
    (refine ret1 Tryz.func22 Tryz.results22 ?_; intro w' hw)
    exact ⟨a2, c2, rfl, hw.sl (by exact mm), hq2, hw.below⟩
  · rw [if_pos h0]
    dsimp only
    refine enterA [(0, .slice a l.length c), (1, .int .i64 fr), (2, .int .i64 to), (3, .agg #[.int .i64 f, .int .i64 t])] Tryz.func22 Tryz.ntmps22 ?_
    all_goals (refine go ?_; and_intros <;> (try exact trivial) <;> repeat (first | refine fun (Bk : Nat) => ?_ | intro h))
    repeat' ((first | (apply G.cN (g := 20) (fun a' c' => .agg #[.slice a' K.length c', .int .i64 E]) (K.map isV); rfl; rfl; exact fun w' hw' => ha w' hw'.below; intro a1 c1 hp1 hq1)) <;> (refine go ?_; and_intros <;> (try exact trivial) <;> repeat (first | refine fun (Bk : Nat) => ?_ | intro h)))
    (refine ret1 Tryz.func22 Tryz.results22 ?_; intro w' hw)
    exact retW_nil (fun v => .agg #[v, .int .i64 E]) _ hw.below
end Go.Proofs.YtceaamdomkjmlaaGreatDoor
/-
  Contracts of rivers: Inflow of both; equal inflows.
-/
namespace Go.Proofs.YtceaamdomkjmlaaGreatDoor
open Go.RowKit Go.Sl Go.Num
/-- What flows in from a gauge, in memory. -/
structure Ifl where
  g : Int
  L : List Prt
  tot : Int
  adr : Option Addr
  cap : Nat
def ifV (r : Ifl) : List Value := [.int .i64 r.g, .slice r.adr r.L.length r.cap]
theorem ifV_len (r : Ifl) : (ifV r).length = 2 := rfl
def ifL (r : Ifl) : List (List Value) := r.L.map (wV r.tot)
def coreI (r : Ifl) : Int × List Prt × Int := (r.g, r.L, r.tot)
/-- The inflows of some gauges, or the first error. -/
def infF (l : List Rch) (g f t : Int) : List (Int × List Prt × Int) → List Int → List (Int × List Prt × Int) × Int
  | out, [] => (out, 0)
  | out, u :: r => if (partsE l u g f t).2 ≠ 0 then ([], (partsE l u g f t).2) else infF l g f t (out ++ [(u, (partsE l u g f t).1, sumL (alongE l u g).1)]) r
def inflowE (l : List Rch) (g f t : Int) : List (Int × List Prt × Int) × Int := if errG l g ≠ 0 then ([], errG l g) else infF l g f t [] (aboveL l g)
abbrev RetF (G : List (Int × List Prt × Int)) (F : Value → Value) := RetN ifV 2 Ifl.adr 5 ifL (fun R => R.map coreI = G) (fun R a c => F (.slice a R.length c))
theorem retF_nil {w w' : World} (F : Value → Value) (hb : Below w.heap.size w w') : RetF [] F w (.returned (F (.slice none 0 0))) w' :=
  ⟨[], none, 0, rfl, rfl, ⟨SlAt.nil, fun r hr => by cases hr⟩, (fun p hp => by cases hp), (fun r hr => by cases hr), hb⟩
theorem retF_sat {w0 w : World} {M : List Row} {i j E base N : Nat} {a : Option Addr} {n c : Nat} {R : List Ifl} (hw : Sat w0 M w) (hm : M[i]? = some (.own base (.slice a n c) E 2 n (flat ifV R))) (hf : M[j]? = some (famRow N Ifl.adr 5 ifL R)) (hn : R.length = n) (hq : ∀ r ∈ R, ∀ p, r.adr = some p → w0.heap.size ≤ p.block) (F : Value → Value) : RetF (R.map coreI) F w0 (.returned (F (.slice a n c))) w := by
  have hmem := List.mem_of_getElem? hm
  exact ⟨R, a, c, rfl, by show _ = Ending.returned (F (.slice a R.length c)); rw [hn], ⟨SlAt.ofOwn ifV_len (hw.hold _ hmem) hn, hw.fam (List.mem_of_getElem? hf)⟩, fun p hp => ((hw.old _ hmem).2 p.block (by subst hp; rfl)).1, hq, hw.below⟩
theorem vInflow_holds (a : Option Addr) (l : List Rch) (c : Nat) (g f t : Int) (w : World) (hA : SlAt w a 2 (l.map rcV)) (hK : KerAt w l) :
    Calls Tryz.prog 23 #[.slice a l.length c, .int .i64 g, .agg #[.int .i64 f, .int .i64 t]] w (RetF (inflowE l g f t).1 (fun v => .tuple #[v, .int .i64 (inflowE l g f t).2]) w) := by
  have ha := fun w' (hb : Below w.heap.size w w') => vAbove_holds a l c g w' (hA.below hb) (hK.below hb)
  rw [inflowE]
  rw [aboveE] at ha
  by_cases h0 : errG l g = 0
  case neg =>
    rw [if_pos h0] at ha ⊢
    dsimp only at ha ⊢
    generalize errG l g = E at *
    refine enterA [(0, .slice a l.length c), (1, .int .i64 g), (2, .agg #[.int .i64 f, .int .i64 t])] Tryz.func23 Tryz.ntmps23 ?_
    all_goals (refine go ?_; and_intros <;> (try exact trivial) <;> repeat (first | refine fun (Bk : Nat) => ?_ | intro h))
    repeat' ((first | (apply G.cN (g := 13) (fun a' c' => .tuple #[.slice a' 0 c', .int .i64 E]) (([] : List Int).map isV); rfl; rfl; exact fun w' hw' => ha w' hw'.below; intro a1 c1 hp1 hq1)) <;> (refine go ?_; and_intros <;> (try exact trivial) <;> repeat (first | refine fun (Bk : Nat) => ?_ | intro h)))
    (refine ret2 Tryz.func23 Tryz.results23 ?_; intro w' hw)
    exact retF_nil (fun v => .tuple #[v, .int .i64 E]) hw.below
  rw [if_neg (fun h => h h0)] at ha ⊢
  have hul : (aboveL l g).length ≤ 40 := by
    have := abU_len l l.length g
    have := (riv_of (errG_ok h0).1).len
    rw [show aboveL l g = abU l l.length g from rfl]; omega
  dsimp only at ha
  generalize aboveL l g = U at *
  generalize hT : infF l g f t [] U = T
  obtain ⟨T1, T2⟩ := T
  dsimp only
  refine enterA [(0, .slice a l.length c), (1, .int .i64 g), (2, .agg #[.int .i64 f, .int .i64 t])] Tryz.func23 Tryz.ntmps23 ?_
  all_goals (refine go ?_; and_intros <;> (try exact trivial) <;> repeat (first | refine fun (Bk : Nat) => ?_ | intro h))
  repeat' ((first | (apply G.cN (g := 13) (fun a' c' => .tuple #[.slice a' U.length c', .int .i64 0]) (U.map isV); rfl; rfl; exact fun w' hw' => ha w' hw'.below; intro a1 c1 hp1 hq1)) <;> (refine go ?_; and_intros <;> (try exact trivial) <;> repeat (first | refine fun (Bk : Nat) => ?_ | intro h)))
  apply J.nilOwn (E := 99) (size := 2)
  apply J.fam0 Ifl.adr 5 ifL
  refine J.loop (c := _) ((0, [], (none, 0, 0)) : Nat × List Ifl × (Option Addr × Nat × Nat)) (fun s => U.length - s.1) (fun s => [(0, .slice a l.length c), (1, .int .i64 g), (5, .pointer (some ⟨_, 0, none⟩)), (10, .slice s.2.2.1 s.2.2.2.1 s.2.2.2.2), (24, .slice a1 U.length c1), (25, .int .i64 U.length), (26, .int .i64 s.1)]) (fun s => [famRow w.heap.size Ifl.adr 5 ifL s.2.1, .own 0 (.slice s.2.2.1 s.2.2.2.1 s.2.2.2.2) 99 2 s.2.2.2.1 (flat ifV s.2.1), slRow w.heap.size a1 1 (U.map isV), .blk _ 25 [.int .i64 f, .int .i64 t] 2]) (fun s => s.1 ≤ U.length ∧ s.2.2.2.1 = s.2.1.length ∧ infF l g f t (s.2.1.map coreI) (U.drop s.1) = (T1, T2) ∧ s.2.1.length = s.1 ∧ ∀ r ∈ s.2.1, ∀ p, r.adr = some p → w.heap.size ≤ p.block) ?_ sbT sbL ?_
  · exact ⟨Nat.zero_le _, rfl, hT, rfl, fun r hr => by cases hr⟩
  clear hT ha
  intro ⟨i, R, ⟨au, n, cu⟩⟩ ⟨i1, i2, i3, i4, i5⟩ ih
  dsimp only at i1 i2 i3 i4 i5 ⊢
  by_cases hi : i < U.length
  · obtain ⟨b1, o1, rfl⟩ := hp1 (by rw [List.length_map]; omega)
    have hgt := fun {C M} (hm : slRow w.heap.size (some ⟨b1, o1, none⟩) 1 (U.map isV) ∈ M) => CellV.sl0 (C := C) (M := M) (f := isV) (l := U) hm hi rfl
    rw [List.drop_eq_getElem_cons hi, infF] at i3
    have hp := fun w' (hb : Below w.heap.size w w') => vParts_holds a l c U[i] g f t w' (hA.below hb) (hK.below hb)
    have hap : ∀ (P : List Prt) (tot : Int) (a2 : Option Addr) (c2 : Nat), flat ifV R ++ ifV ⟨U[i], P, tot, a2, c2⟩ = flat ifV (R ++ [⟨U[i], P, tot, a2, c2⟩]) := fun P tot a2 c2 => flat1 ifV R ⟨U[i], P, tot, a2, c2⟩
    have ih := fun (P : List Prt) (tot : Int) (a2 : Option Addr) (c2 : Nat) (h : infF l g f t (R.map coreI ++ [(U[i], P, tot)]) (U.drop (i + 1)) = (T1, T2)) (hq : ∀ p, a2 = some p → w.heap.size ≤ p.block) (x3 : Option Addr × Nat × Nat) (hx : x3.2.1 = n + 1) => ih (i + 1, R ++ [⟨U[i], P, tot, a2, c2⟩], x3) ⟨hi, by dsimp only; rw [hx, List.length_append, i2]; rfl, by dsimp only; rw [List.map_append]; exact h, by dsimp only; rw [List.length_append, i4]; rfl, fun r hr p hp => by
      rcases List.mem_append.1 hr with hr | hr
      · exact i5 r hr p hp
      · rw [List.mem_singleton.1 hr] at hp; exact hq p hp⟩ (by dsimp only; omega)
    generalize U[i] = u at *
    generalize sumL (alongE l u g).1 = tot at *
    have hap := hap (partsE l u g f t).1 tot
    have ih := ih (partsE l u g f t).1 tot
    generalize (partsE l u g f t).1 = P at *
    generalize (partsE l u g f t).2 = E at *
    by_cases he : E = 0
    · rw [if_neg (fun h => h he)] at i3
      have ih := fun a2 c2 => ih a2 c2 i3
      dsimp only [ifV] at hap
      all_goals (refine go ?_; and_intros <;> (try exact trivial) <;> repeat (first | refine fun (Bk : Nat) => ?_ | intro h))
      repeat' ((first | (apply G.ld; rfl; (apply LdV.one; exact hgt (by exact mm)); rfl) | (apply G.cN (g := 21) (fun a' c' => .tuple #[.slice a' P.length c', .int .i64 E]) (P.map (wV tot)); rfl; rfl; exact fun w' hw' => hp w' hw'.below; intro a2 c2 hp2 hq2) | (apply G.sliceL; rfl; rfl; rfl; rfl; rfl; rfl; rfl; rfl; intro Bs) | (apply G.apV; rfl; rfl; rfl; (repeat (first | exact RAt.head | apply RAt.tail)); exact SrcV.blk (by exact mm) rfl rfl; exact hap _ _; omega; omega; intro a3 c3)) <;> (refine go ?_; and_intros <;> (try exact trivial) <;> repeat (first | refine fun (Bk : Nat) => ?_ | intro h)))
      refine J.famAdd (r := (⟨u, P, tot, a2, c2⟩ : Ifl)) (o := R) mm mm ?_
      exact J.finS (ih a2 c2 hq2 (a3, n + 1, c3) rfl)
    · rw [if_pos he] at i3
      have e1 : [] = T1 := (Prod.mk.inj i3).1
      have e2 : E = T2 := (Prod.mk.inj i3).2
      subst e1 e2
      clear ih i3
      all_goals (refine go ?_; and_intros <;> (try exact trivial) <;> repeat (first | refine fun (Bk : Nat) => ?_ | intro h))
      repeat' ((first | (apply G.ld; rfl; (apply LdV.one; exact hgt (by exact mm)); rfl) | (apply G.cN (g := 21) (fun a' c' => .tuple #[.slice a' P.length c', .int .i64 E]) (P.map (wV tot)); rfl; rfl; exact fun w' hw' => hp w' hw'.below; intro a2 c2 hp2 hq2)) <;> (refine go ?_; and_intros <;> (try exact trivial) <;> repeat (first | refine fun (Bk : Nat) => ?_ | intro h)))
      (refine ret2 Tryz.func23 Tryz.results23 ?_; intro w' hw)
      exact retF_nil (fun v => .tuple #[v, .int .i64 E]) hw.below
  · rw [show U.drop i = [] from List.drop_eq_nil_of_le (by omega), infF] at i3
    cases i3
    clear ih
    all_goals (refine go ?_; and_intros <;> (try exact trivial) <;> repeat (first | refine fun (Bk : Nat) => ?_ | intro h))
    (refine ret2 Tryz.func23 Tryz.results23 ?_; intro w' hw)
    exact retF_sat hw (i := 1) (j := 0) rfl rfl i2.symm i5 fun v => .tuple #[v, .int .i64 0]
theorem rInflow_holds (a : Option Addr) (l : List Rch) (c : Nat) (g f t : Int) (w : World) (hA : SlAt w a 2 (l.map rcV)) (hK : KerAt w l) :
    Calls Tryz.prog 24 #[.slice a l.length c, .int .i64 g, .agg #[.int .i64 f, .int .i64 t]] w (RetF (inflowE l g f t).1 (fun v => .agg #[v, .int .i64 (inflowE l g f t).2]) w) := by
  have ha := fun w' (hb : Below w.heap.size w w') => rAbove_holds a l c g w' (hA.below hb) (hK.below hb)
  rw [inflowE]
  rw [aboveE] at ha
  by_cases h0 : errG l g = 0
  case neg =>
    rw [if_pos h0] at ha ⊢
    dsimp only at ha ⊢
    generalize errG l g = E at *
    refine enterA [(0, .slice a l.length c), (1, .int .i64 g), (2, .agg #[.int .i64 f, .int .i64 t])] Tryz.func24 Tryz.ntmps24 ?_
    all_goals (refine go ?_; and_intros <;> (try exact trivial) <;> repeat (first | refine fun (Bk : Nat) => ?_ | intro h))
    repeat' ((first | (apply G.cN (g := 14) (fun a' c' => .agg #[.slice a' 0 c', .int .i64 E]) (([] : List Int).map isV); rfl; rfl; exact fun w' hw' => ha w' hw'.below; intro a1 c1 hp1 hq1)) <;> (refine go ?_; and_intros <;> (try exact trivial) <;> repeat (first | refine fun (Bk : Nat) => ?_ | intro h)))
    (refine ret1 Tryz.func24 Tryz.results24 ?_; intro w' hw)
    exact retF_nil (fun v => .agg #[v, .int .i64 E]) hw.below
  rw [if_neg (fun h => h h0)] at ha ⊢
  have hul : (aboveL l g).length ≤ 40 := by
    have := abU_len l l.length g
    have := (riv_of (errG_ok h0).1).len
    rw [show aboveL l g = abU l l.length g from rfl]; omega
  dsimp only at ha
  generalize aboveL l g = U at *
  generalize hT : infF l g f t [] U = T
  obtain ⟨T1, T2⟩ := T
  dsimp only
  refine enterA [(0, .slice a l.length c), (1, .int .i64 g), (2, .agg #[.int .i64 f, .int .i64 t])] Tryz.func24 Tryz.ntmps24 ?_
  all_goals (refine go ?_; and_intros <;> (try exact trivial) <;> repeat (first | refine fun (Bk : Nat) => ?_ | intro h))
  repeat' ((first | (apply G.cN (g := 14) (fun a' c' => .agg #[.slice a' U.length c', .int .i64 0]) (U.map isV); rfl; rfl; exact fun w' hw' => ha w' hw'.below; intro a1 c1 hp1 hq1)) <;> (refine go ?_; and_intros <;> (try exact trivial) <;> repeat (first | refine fun (Bk : Nat) => ?_ | intro h)))
  apply J.nilOwn (E := 99) (size := 2)
  apply J.fam0 Ifl.adr 5 ifL
  refine J.loop (c := _) ((0, [], (none, 0, 0)) : Nat × List Ifl × (Option Addr × Nat × Nat)) (fun s => U.length - s.1) (fun s => [(0, .slice a l.length c), (1, .int .i64 g), (5, .pointer (some ⟨_, 0, none⟩)), (6, .pointer (some ⟨_, 0, none⟩)), (7, .pointer (some ⟨_, 0, none⟩)), (8, .slice s.2.2.1 s.2.2.2.1 s.2.2.2.2), (9, .int .i64 s.1)]) (fun s => [famRow w.heap.size Ifl.adr 5 ifL s.2.1, .own 0 (.slice s.2.2.1 s.2.2.2.1 s.2.2.2.2) 99 2 s.2.2.2.1 (flat ifV s.2.1), .blk _ 34 [.slice a1 U.length c1, .int .i64 0] 2, slRow w.heap.size a1 1 (U.map isV), .blk _ 57 [.slice none 0 0, .int .i64 0] 2, .blk _ 25 [.int .i64 f, .int .i64 t] 2]) (fun s => s.1 ≤ U.length ∧ s.2.2.2.1 = s.2.1.length ∧ infF l g f t (s.2.1.map coreI) (U.drop s.1) = (T1, T2) ∧ s.2.1.length = s.1 ∧ ∀ r ∈ s.2.1, ∀ p, r.adr = some p → w.heap.size ≤ p.block) ?_ sbT sbL ?_
  · exact ⟨Nat.zero_le _, rfl, hT, rfl, fun r hr => by cases hr⟩
  clear hT ha
  intro ⟨i, R, ⟨au, n, cu⟩⟩ ⟨i1, i2, i3, i4, i5⟩ ih
  dsimp only at i1 i2 i3 i4 i5 ⊢
  by_cases hi : i < U.length
  · obtain ⟨b1, o1, rfl⟩ := hp1 (by rw [List.length_map]; omega)
    have hgt := fun {C M} (hm : slRow w.heap.size (some ⟨b1, o1, none⟩) 1 (U.map isV) ∈ M) => CellV.sl0 (C := C) (M := M) (f := isV) (l := U) hm hi rfl
    rw [List.drop_eq_getElem_cons hi, infF] at i3
    have hp := fun w' (hb : Below w.heap.size w w') => rParts_holds a l c U[i] g f t w' (hA.below hb) (hK.below hb)
    have hap : ∀ (P : List Prt) (tot : Int) (a2 : Option Addr) (c2 : Nat), flat ifV R ++ ifV ⟨U[i], P, tot, a2, c2⟩ = flat ifV (R ++ [⟨U[i], P, tot, a2, c2⟩]) := fun P tot a2 c2 => flat1 ifV R ⟨U[i], P, tot, a2, c2⟩
    have ih := fun (P : List Prt) (tot : Int) (a2 : Option Addr) (c2 : Nat) (h : infF l g f t (R.map coreI ++ [(U[i], P, tot)]) (U.drop (i + 1)) = (T1, T2)) (hq : ∀ p, a2 = some p → w.heap.size ≤ p.block) (x3 : Option Addr × Nat × Nat) (hx : x3.2.1 = n + 1) => ih (i + 1, R ++ [⟨U[i], P, tot, a2, c2⟩], x3) ⟨hi, by dsimp only; rw [hx, List.length_append, i2]; rfl, by dsimp only; rw [List.map_append]; exact h, by dsimp only; rw [List.length_append, i4]; rfl, fun r hr p hp => by
      rcases List.mem_append.1 hr with hr | hr
      · exact i5 r hr p hp
      · rw [List.mem_singleton.1 hr] at hp; exact hq p hp⟩ (by dsimp only; omega)
    generalize U[i] = u at *
    generalize sumL (alongE l u g).1 = tot at *
    have hap := hap (partsE l u g f t).1 tot
    have ih := ih (partsE l u g f t).1 tot
    generalize (partsE l u g f t).1 = P at *
    generalize (partsE l u g f t).2 = E at *
    by_cases he : E = 0
    · rw [if_neg (fun h => h he)] at i3
      have ih := fun a2 c2 => ih a2 c2 i3
      dsimp only [ifV] at hap
      all_goals (refine goR ?_; and_intros <;> (try exact trivial) <;> repeat (first | refine fun (Bk : Nat) => ?_ | intro h))
      repeat' ((first | (apply G.ld; rfl; (apply LdV.one; exact hgt (by exact mm)); rfl) | (apply J.regA (.q 0 <| .q 1 <| .q 2 <| .q 3 <| .q 4 <| .q 5 <| .q 6 <| .q 7 <| .f 8 (.e 9 <| .r 10 <| .nil) 9 (.e 8 <| .r 10 <| .nil)); exact Tryz.mixed; decide +kernel) | (apply G.fork) | (apply J.regA (.q 0 <| .q 1 <| .q 2 <| .q 3 <| .q 4 <| .q 5 <| .q 6 <| .q 7 <| .q 8 <| .r 9 <| .r 10 <| .q 11 <| .nil); exact Tryz.mixed; decide +kernel) | (apply G.cN (g := 22) (fun a' c' => .agg #[.slice a' P.length c', .int .i64 E]) (P.map (wV tot)); rfl; rfl; exact fun w' hw' => hp w' hw'.below; intro a2 c2 hp2 hq2) | (apply G.sliceL; rfl; rfl; rfl; rfl; rfl; rfl; rfl; rfl; intro Bs) | (apply G.apV; rfl; rfl; rfl; (repeat (first | exact RAt.head | apply RAt.tail)); exact SrcV.blk (by exact mm) rfl rfl; exact hap _ _; omega; omega; intro a3 c3) | (apply J.regQ; exact Tryz.mixed; decide +kernel) | (apply J.regL'; exact Tryz.mixed; decide +kernel)) <;> (refine goR ?_; and_intros <;> (try exact trivial) <;> repeat (first | refine fun (Bk : Nat) => ?_ | intro h)))
      all_goals
        refine J.famAdd (r := (⟨u, P, tot, a2, c2⟩ : Ifl)) (o := R) mm mm ?_
        exact J.finS (ih a2 c2 hq2 (a3, n + 1, c3) rfl)
    · rw [if_pos he] at i3
      have e1 : [] = T1 := (Prod.mk.inj i3).1
      have e2 : E = T2 := (Prod.mk.inj i3).2
      subst e1 e2
      clear ih i3
      all_goals (refine goR ?_; and_intros <;> (try exact trivial) <;> repeat (first | refine fun (Bk : Nat) => ?_ | intro h))
      repeat' ((first | (apply G.ld; rfl; (apply LdV.one; exact hgt (by exact mm)); rfl) | (apply J.regA (.q 0 <| .q 1 <| .q 2 <| .q 3 <| .q 4 <| .q 5 <| .q 6 <| .q 7 <| .f 8 (.e 9 <| .r 10 <| .nil) 9 (.e 8 <| .r 10 <| .nil)); exact Tryz.mixed; decide +kernel) | (apply G.fork) | (apply J.regA (.q 0 <| .q 1 <| .q 2 <| .q 3 <| .q 4 <| .q 5 <| .q 6 <| .q 7 <| .q 8 <| .r 9 <| .r 10 <| .q 11 <| .nil); exact Tryz.mixed; decide +kernel) | (apply G.cN (g := 22) (fun a' c' => .agg #[.slice a' P.length c', .int .i64 E]) (P.map (wV tot)); rfl; rfl; exact fun w' hw' => hp w' hw'.below; intro a2 c2 hp2 hq2) | (apply J.regQ; exact Tryz.mixed; decide +kernel) | (apply J.regL'; exact Tryz.mixed; decide +kernel)) <;> (refine goR ?_; and_intros <;> (try exact trivial) <;> repeat (first | refine fun (Bk : Nat) => ?_ | intro h)))
      all_goals
        (refine ret1 Tryz.func24 Tryz.results24 ?_; intro w' hw)
        exact retF_nil (fun v => .agg #[v, .int .i64 E]) hw.below
  · rw [show U.drop i = [] from List.drop_eq_nil_of_le (by omega), infF] at i3
    cases i3
    clear ih
    all_goals (refine go ?_; and_intros <;> (try exact trivial) <;> repeat (first | refine fun (Bk : Nat) => ?_ | intro h))
    (refine ret1 Tryz.func24 Tryz.results24 ?_; intro w' hw)
    exact retF_sat hw (i := 1) (j := 0) rfl rfl i2.symm i5 fun v => .agg #[v, .int .i64 0]
theorem sameFlows_holds (a b : Option Addr) (R S : List Ifl) (c d : Nat) (w : World) (hA : NstAt ifV 2 Ifl.adr 5 ifL w a R) (hB : NstAt ifV 2 Ifl.adr 5 ifL w b S) (hs : R.map coreI = S.map coreI) (hl : R.length ≤ 1000000 ∧ ∀ r ∈ R, r.L.length ≤ 1000000000) :
    Calls Tryz.prog 30 #[.slice a R.length c, .slice b S.length d] w fun e w' => e = .returned (.bool true) ∧ Below w.heap.size w w' := by
  have hlen : S.length = R.length := by
    have := congrArg List.length hs
    simpa using this.symm
  refine enterA [(0, .slice a R.length c), (1, .slice b S.length d)] Tryz.func30 Tryz.ntmps30 ?_
  all_goals (refine go ?_; and_intros <;> (try exact trivial) <;> repeat (first | refine fun (Bk : Nat) => ?_ | intro h))
  refine J.loop (c := _) (0 : Nat) (fun s => R.length - s) (fun s => [(0, .slice a R.length c), (1, .slice b S.length d), (5, .int .i64 s)]) (fun s => []) (fun s => s ≤ R.length) ?_ sbT sbL ?_
  · exact Nat.zero_le _
  intro i h1 ih
  by_cases hi : i < R.length
  · have hi2 : i < S.length := by omega
    obtain ⟨ba, oa, rfl, hra⟩ := SlAt.all hA.out (by omega)
    obtain ⟨bb, ob, rfl, hrb⟩ := SlAt.all hB.out (by omega)
    have hr1 := hra i hi
    have hr2 := hrb i hi2
    have ih := ih (i + 1) hi (by omega)
    have hc : coreI R[i] = coreI S[i] := by
      have := congrArg (·[i]?) hs
      simpa [hi, hi2] using this
    have k1 := hA.inn _ (List.getElem_mem hi)
    have k2 := hB.inn _ (List.getElem_mem hi2)
    have k3 := hl.2 _ (List.getElem_mem hi)
    clear hra hrb
    generalize R[i] = r at *
    generalize S[i] = s at *
    obtain ⟨g1, L1, t1, a1, c1⟩ := r
    obtain ⟨g2, L2, t2, a2, c2⟩ := s
    dsimp only [coreI] at hc
    obtain ⟨e1, hc2⟩ := Prod.mk.inj hc
    obtain ⟨e2, e3⟩ := Prod.mk.inj hc2
    subst e1 e2 e3
    clear hc hc2
    dsimp only [ifV, ifL] at hr1 hr2 k1 k2 k3
    have hsp := fun w' (hb : Below w.heap.size w w') => sameParts_holds a1 a2 t1 L1 c1 c2 w' (k1.below hb) (k2.below hb) k3
    all_goals (refine go ?_; and_intros <;> (try exact trivial) <;> repeat (first | refine fun (Bk : Nat) => ?_ | intro h))
    repeat' ((first | (apply G.cV (g := 29); rfl; rfl; exact fun w' hw' => hsp w' hw'.below)) <;> (refine go ?_; and_intros <;> (try exact trivial) <;> repeat (first | refine fun (Bk : Nat) => ?_ | intro h)))
    exact J.fin ih
  · skip
    all_goals (refine go ?_; and_intros <;> (try exact trivial) <;> repeat (first | refine fun (Bk : Nat) => ?_ | intro h))
    all_goals refine ret1b Tryz.func30 Tryz.results30 ?_
    all_goals rfl
end Go.Proofs.YtceaamdomkjmlaaGreatDoor
/-
  Contracts: equality and search in lists of numbers; what the law's examples are made of.
-/
namespace Go.Proofs.YtceaamdomkjmlaaGreatDoor
open Go.RowKit Go.Sl Go.Num
theorem equalI_holds (a b : Option Addr) (l m : List Int) (c d : Nat) (w : World) (hA : SlAt w a 1 (l.map isV)) (hB : SlAt w b 1 (m.map isV)) (hn : l.length ≤ 1000000000) :
    Calls Tryz.prog 35 #[.slice a l.length c, .slice b m.length d] w fun e w' => e = .returned (.bool (decide (l = m))) ∧ Below w.heap.size w w' := by
  refine enterA [(0, .slice a l.length c), (1, .slice b m.length d)] Tryz.func35 Tryz.ntmps35 ?_
  by_cases hl : l.length = m.length
  case neg =>
    rw [decide_eq_false (fun e => hl (by rw [e]))]
    all_goals (refine go ?_; and_intros <;> (try exact trivial) <;> repeat (first | refine fun (Bk : Nat) => ?_ | intro h))
    all_goals refine ret1b Tryz.func35 Tryz.results35 ?_
    all_goals rfl
  all_goals (refine go ?_; and_intros <;> (try exact trivial) <;> repeat (first | refine fun (Bk : Nat) => ?_ | intro h))
  refine J.loop (c := _) (0 : Nat) (fun s => l.length - s) (fun s => [(0, .slice a l.length c), (1, .slice b m.length d), (12, .int .i64 l.length), (13, .int .i64 s)]) (fun s => []) (fun s => s ≤ l.length ∧ ∀ i (h : i < l.length) (h2 : i < m.length), i < s → l[i] = m[i]) ?_ sbT sbL ?_
  · exact ⟨Nat.zero_le _, fun i _ _ h => absurd h (Nat.not_lt_zero _)⟩
  intro i ⟨h1, h2⟩ ih
  by_cases hi : i < l.length
  · have hj : i < m.length := by omega
    obtain ⟨ba, oa, rfl, hra⟩ := SlAt.all hA (by omega)
    obtain ⟨bb, ob, rfl, hrb⟩ := SlAt.all hB (by omega)
    have hri := hra i hi
    have hrj := hrb i hj
    by_cases he : l[i] = m[i]
    · have ih := ih (i + 1) ⟨hi, fun j q1 q2 q3 => by
        rcases Nat.lt_or_ge j i with h | h
        · exact h2 j q1 q2 h
        · obtain rfl : j = i := by omega
          exact he⟩ (by omega)
      clear hra hrb h2
      generalize l[i] = y at *
      generalize m[i] = z at *
      dsimp only [isV] at hri hrj
      all_goals (refine go ?_; and_intros <;> (try exact trivial) <;> repeat (first | refine fun (Bk : Nat) => ?_ | intro h))
      exact J.fin ih
    · rw [decide_eq_false (fun e => he (by subst e; rfl))]
      clear hra hrb h2 ih
      generalize l[i] = y at *
      generalize m[i] = z at *
      dsimp only [isV] at hri hrj
      all_goals (refine go ?_; and_intros <;> (try exact trivial) <;> repeat (first | refine fun (Bk : Nat) => ?_ | intro h))
      all_goals refine ret1b Tryz.func35 Tryz.results35 ?_
      all_goals rfl
  · obtain rfl : i = l.length := by omega
    rw [decide_eq_true (eq_all hl h2)]
    clear ih
    all_goals (refine go ?_; and_intros <;> (try exact trivial) <;> repeat (first | refine fun (Bk : Nat) => ?_ | intro h))
    all_goals refine ret1b Tryz.func35 Tryz.results35 ?_
    all_goals rfl
/-- An interval that is allowed, of more than 300 ticks. -/
def longT (f t : Int) : Prop := 0 ≤ f ∧ f ≤ t ∧ t ≤ 1402560 ∧ 300 < t - f
instance (f t : Int) : Decidable (longT f t) := by unfold longT; exact inferInstance
theorem long_holds (f t : Int) (w : World) : Calls Tryz.prog 9 #[.agg #[.int .i64 f, .int .i64 t]] w fun e w' => e = .returned (.bool (decide (longT f t))) ∧ Below w.heap.size w w' := by
  refine enterA [(0, .agg #[.int .i64 f, .int .i64 t])] Tryz.func9 Tryz.ntmps9 ?_
  by_cases h : longT f t
  · rw [decide_eq_true h]
    obtain ⟨h1, h2, h3, h4⟩ := h
    all_goals (refine go ?_; and_intros <;> (try exact trivial) <;> repeat (first | refine fun (Bk : Nat) => ?_ | intro h))
    all_goals refine ret1b Tryz.func9 Tryz.results9 ?_
    all_goals rfl
  · rw [decide_eq_false h]
    unfold longT at h
    by_cases h1 : 0 ≤ f ∧ f ≤ t ∧ t ≤ 1402560
    · obtain ⟨h1, h2, h3⟩ := h1
      have h4 : ¬ 300 < t - f := fun h4 => h ⟨h1, h2, h3, h4⟩
      clear h
      all_goals (refine go ?_; and_intros <;> (try exact trivial) <;> repeat (first | refine fun (Bk : Nat) => ?_ | intro h))
      all_goals refine ret1b Tryz.func9 Tryz.results9 ?_
      all_goals rfl
    · clear h
      all_goals (refine go ?_; and_intros <;> (try exact trivial) <;> repeat (first | refine fun (Bk : Nat) => ?_ | intro h))
      all_goals refine ret1b Tryz.func9 Tryz.results9 ?_
      all_goals rfl
theorem weights_holds (v : Value) (w : World) (hv : ∃ a n c, v = .slice a n c) : Calls Tryz.prog 46 #[v] w fun e w' => e = .returned (.agg #[v]) ∧ Below w.heap.size w w' := by
  obtain ⟨a, n, c, rfl⟩ := hv
  refine enterA [(0, .slice a n c)] Tryz.func46 Tryz.ntmps46 ?_
  all_goals (refine go ?_; and_intros <;> (try exact trivial) <;> repeat (first | refine fun (Bk : Nat) => ?_ | intro h))
  all_goals refine ret1b Tryz.func46 Tryz.results46 ?_
  all_goals rfl
theorem part_holds (f t den : Int) (w : World) (h1 : 0 < den) (h2 : den ≤ 999999999999999) : Calls Tryz.prog 48 #[.int .i64 f, .int .i64 t, .int .i64 den] w fun e w' => e = .returned (.agg (wV den (f, t, 1)).toArray) ∧ Below w.heap.size w w' := by
  have hm := fun w' (_ : Below w.heap.size w w') => make_holds 1 den w' (by decide) (by decide) (by omega) h2 (by omega)
  unfold wV
  dsimp only
  generalize rQ (((1 : Int) : Rat) / (den : Rat)) = Q at *
  refine enterA [(0, .int .i64 f), (1, .int .i64 t), (2, .int .i64 den)] Tryz.func48 Tryz.ntmps48 ?_
  all_goals (refine go ?_; and_intros <;> (try exact trivial) <;> repeat (first | refine fun (Bk : Nat) => ?_ | intro h))
  repeat' ((first | (refine G.cvb hm ?_)) <;> (refine go ?_; and_intros <;> (try exact trivial) <;> repeat (first | refine fun (Bk : Nat) => ?_ | intro h)))
  all_goals refine ret1b Tryz.func48 Tryz.results48 ?_
  all_goals rfl
/-- A list without an error that is the expected one. -/
theorem is_holds (a b : Option Addr) (l : List Int) (c d : Nat) (w : World) (hA : SlAt w a 1 (l.map isV)) (hB : SlAt w b 1 (l.map isV)) (hn : l.length ≤ 1000000000) :
    Calls Tryz.prog 47 #[.slice a l.length c, .int .i64 0, .slice b l.length d] w fun e w' => e = .returned (.bool true) ∧ Below w.heap.size w w' := by
  have he := fun w' (hb : Below w.heap.size w w') => equalI_holds a b l l c d w' (hA.below hb) (hB.below hb) hn
  rw [decide_eq_true rfl] at he
  refine enterA [(0, .slice a l.length c), (1, .int .i64 0), (2, .slice b l.length d)] Tryz.func47 Tryz.ntmps47 ?_
  all_goals (refine go ?_; and_intros <;> (try exact trivial) <;> repeat (first | refine fun (Bk : Nat) => ?_ | intro h))
  repeat' ((first | (refine G.cvb he ?_)) <;> (refine go ?_; and_intros <;> (try exact trivial) <;> repeat (first | refine fun (Bk : Nat) => ?_ | intro h)))
  all_goals refine ret1b Tryz.func47 Tryz.results47 ?_
  all_goals rfl
end Go.Proofs.YtceaamdomkjmlaaGreatDoor
/-
  The law's example rivers, and what is reckoned of them.
-/
namespace Go.Proofs.YtceaamdomkjmlaaGreatDoor
open Go.RowKit Go.Sl Go.Num
/-- The river of the documentation. -/
def exL (a0 a1 a2 a3 : Option Addr) (c0 c1 c2 c3 : Nat) : List Rch := [⟨2, [1, 1], a0, c0⟩, ⟨2, [0, 1], a1, c1⟩, ⟨4, [1, 0, 1], a2, c2⟩, ⟨4, [1], a3, c3⟩, ⟨-1, [], none, 0⟩]
def exL2 (a0 a2 : Option Addr) (c0 c2 : Nat) : List Rch := [⟨2, [1], a0, c0⟩, ⟨-1, [], none, 0⟩, ⟨1, [1], a2, c2⟩]
section
variable (a0 a1 a2 a3 : Option Addr) (c0 c1 c2 c3 : Nat)
theorem ex_riv : rivErr (exL a0 a1 a2 a3 c0 c1 c2 c3) = 0 := by kernel_rfl
theorem ex_p1 : pathE (exL a0 a1 a2 a3 c0 c1 c2 c3) 0 4 = ([0, 2, 4], 0) := by kernel_rfl
theorem ex_p2 : pathE (exL a0 a1 a2 a3 c0 c1 c2 c3) 2 2 = ([2], 0) := by kernel_rfl
theorem ex_p3 : pathE (exL a0 a1 a2 a3 c0 c1 c2 c3) 3 2 = ([], 8) := by kernel_rfl
theorem ex_ab : aboveE (exL a0 a1 a2 a3 c0 c1 c2 c3) 4 = ([2, 3], 0) := by kernel_rfl
theorem ex_ba : basinE (exL a0 a1 a2 a3 c0 c1 c2 c3) 4 = ([0, 1, 2, 3], 0) := by kernel_rfl
theorem ex_or : ordE (exL a0 a1 a2 a3 c0 c1 c2 c3) = ([0, 1, 2, 3, 4], 0) := by kernel_rfl
theorem ex_or2 : ordE (exL2 a0 a2 c0 c2) = ([0, 2, 1], 0) := by kernel_rfl
theorem ex_a1 : alongE (exL a0 a1 a2 a3 c0 c1 c2 c3) 0 4 = ([1, 1, 1, 1], 0) := by kernel_rfl
theorem ex_a2 : alongE (exL a0 a1 a2 a3 c0 c1 c2 c3) 1 4 = ([0, 1, 0, 1], 0) := by kernel_rfl
theorem ex_a3 : alongE (exL a0 a1 a2 a3 c0 c1 c2 c3) 3 3 = ([1], 0) := by kernel_rfl
theorem ex_pa : partsE (exL a0 a1 a2 a3 c0 c1 c2 c3) 0 4 10 12 = ([(7, 8, 1), (8, 11, 2), (11, 12, 1)], 0) := by kernel_rfl
theorem ex_in : inflowE (exL a0 a1 a2 a3 c0 c1 c2 c3) 2 10 11 = ([(0, [(9, 11, 1)], 2), (1, [(9, 10, 1)], 1)], 0) := by kernel_rfl
end
def krL (r : Rch) : List (List Value) := r.ws.map isV
abbrev RetR (P : List Rch → Prop) (F : Value → Value) := RetN rcV 2 Rch.adr 1 krL P (fun R a c => F (.slice a R.length c))
theorem example_holds (w : World) : Calls Tryz.prog 45 #[] w (RetR (fun L => ∃ a0 a1 a2 a3 c0 c1 c2 c3, L = exL a0 a1 a2 a3 c0 c1 c2 c3) (fun v => v) w) := by
  refine enterA [] Tryz.func45 Tryz.ntmps45 ?_
  all_goals (refine go ?_; and_intros <;> (try exact trivial) <;> repeat (first | refine fun (Bk : Nat) => ?_ | intro h))
  repeat' ((first | (apply G.sliceL; rfl; rfl; rfl; rfl; rfl; rfl; rfl; rfl; intro Bs) | (apply G.cV (g := 46); rfl; rfl; exact fun w' _ => weights_holds _ w' ⟨_, _, _, rfl⟩)) <;> (refine go ?_; and_intros <;> (try exact trivial) <;> repeat (first | refine fun (Bk : Nat) => ?_ | intro h)))
  rename_i b0 b1 b2 b3
  (refine ret1 Tryz.func45 Tryz.results45 ?_; intro w' hw)
  have h0 := blkSlA (f := isV) (sz := 1) (b := b0) (l := [1, 1]) hw isV_len
  have h1 := blkSlA (f := isV) (sz := 1) (b := b1) (l := [0, 1]) hw isV_len
  have h2 := blkSlA (f := isV) (sz := 1) (b := b2) (l := [1, 0, 1]) hw isV_len
  have h3 := blkSlA (f := isV) (sz := 1) (b := b3) (l := [1]) hw isV_len
  have h4 := blkSlA (f := rcV) (sz := 2) (b := Bs) (l := exL (some ⟨b0, 0, none⟩) (some ⟨b1, 0, none⟩) (some ⟨b2, 0, none⟩) (some ⟨b3, 0, none⟩) 2 2 3 1) hw rcV_len
  refine ⟨exL (some ⟨b0, 0, none⟩) (some ⟨b1, 0, none⟩) (some ⟨b2, 0, none⟩) (some ⟨b3, 0, none⟩) 2 2 3 1, some ⟨Bs, 0, none⟩, 5, ⟨_, _, _, _, _, _, _, _, rfl⟩, rfl, ⟨h4.1, fun r hr => ?_⟩, fun p hp => by cases hp; exact h4.2, fun r hr p hp => ?_, hw.below⟩
  all_goals
    simp only [exL, List.mem_cons, List.not_mem_nil, or_false] at hr
    rcases hr with rfl | rfl | rfl | rfl | rfl
  · exact h0.1
  · exact h1.1
  · exact h2.1
  · exact h3.1
  · exact SlAt.nil
  · cases hp; exact h0.2
  · cases hp; exact h1.2
  · cases hp; exact h2.2
  · cases hp; exact h3.2
  · cases hp
end Go.Proofs.YtceaamdomkjmlaaGreatDoor
/-
  Contract: the law's examples hold.
-/
namespace Go.Proofs.YtceaamdomkjmlaaGreatDoor
open Go.RowKit Go.Sl Go.Num
/-- A part with its number. -/
def fV (p : Int × Int × Q3) : List Value := [.int .i64 p.1, .int .i64 p.2.1] ++ qV p.2.2
theorem fV_len (p : Int × Int × Q3) : (fV p).length = 5 := rfl
set_option maxHeartbeats 4000000 in
theorem sanity32_holds (w : World) : Calls Tryz.prog 10 #[] w fun e w' => e = .returned (.bool true) ∧ Below w.heap.size w w' := by
  have p2 := fun w' => part_holds 9 11 2 w' (by decide) (by decide)
  have p1 := fun w' => part_holds 9 10 1 w' (by decide) (by decide)
  have p3 := fun w' => part_holds 7 8 4 w' (by decide) (by decide)
  have p4 := fun w' => part_holds 8 11 2 w' (by decide) (by decide)
  have p5 := fun w' => part_holds 11 12 4 w' (by decide) (by decide)
  have e24 : rQ (((2 : Int) : Rat) / ((4 : Int) : Rat)) = rQ (((1 : Int) : Rat) / ((2 : Int) : Rat)) := congrArg rQ (by decide +kernel)
  have hm4 : ([(7, 8, 1), (8, 11, 2), (11, 12, 1)] : List Prt).map (wV 4) = [(7, 8, rQ (((1 : Int) : Rat) / ((4 : Int) : Rat))), (8, 11, rQ (((1 : Int) : Rat) / ((2 : Int) : Rat))), (11, 12, rQ (((1 : Int) : Rat) / ((4 : Int) : Rat)))].map fV := by
    simp only [List.map_cons, List.map_nil, wV, fV, e24]
  have hm2 : ([(9, 11, 1)] : List Prt).map (wV 2) = [(9, 11, rQ (((1 : Int) : Rat) / ((2 : Int) : Rat)))].map fV := rfl
  have hm1 : ([(9, 10, 1)] : List Prt).map (wV 1) = [(9, 10, rQ (((1 : Int) : Rat) / ((1 : Int) : Rat)))].map fV := rfl
  unfold wV at p1 p2 p3 p4 p5
  dsimp only at p1 p2 p3 p4 p5
  clear e24
  generalize rQ (((1 : Int) : Rat) / ((2 : Int) : Rat)) = q2 at *
  generalize rQ (((1 : Int) : Rat) / ((4 : Int) : Rat)) = q4 at *
  generalize rQ (((1 : Int) : Rat) / ((1 : Int) : Rat)) = q1 at *
  refine enterA [] Tryz.func10 Tryz.ntmps10 ?_
  all_goals (refine go ?_; and_intros <;> (try exact trivial) <;> repeat (first | refine fun (Bk : Nat) => ?_ | intro h))
  repeat' ((first | (apply G.cNst (g := 45) (f := rcV) (sz := 2) (adr := Rch.adr) (sz2 := 1) (F2 := krL) (fun R a' c' => .slice a' R.length c') (fun L => ∃ a0 a1 a2 a3 c0 c1 c2 c3, L = exL a0 a1 a2 a3 c0 c1 c2 c3); rfl; rfl; exact fun w' _ => example_holds w'; rintro L a1 c1 ⟨x0, x1, x2, x3, y0, y1, y2, y3, hL⟩ hq1 hq2; rw [show L.length = 5 from by rw [hL]; rfl])) <;> (refine go ?_; and_intros <;> (try exact trivial) <;> repeat (first | refine fun (Bk : Nat) => ?_ | intro h)))
  have hl5 : L.length = 5 := by rw [hL]; rfl
  have E1 := ex_p1 x0 x1 x2 x3 y0 y1 y2 y3
  have E2 := ex_p2 x0 x1 x2 x3 y0 y1 y2 y3
  have E3 := ex_p3 x0 x1 x2 x3 y0 y1 y2 y3
  have E4 := ex_ab x0 x1 x2 x3 y0 y1 y2 y3
  have E5 := ex_ba x0 x1 x2 x3 y0 y1 y2 y3
  have E6 := ex_or x0 x1 x2 x3 y0 y1 y2 y3
  have E7 := ex_a1 x0 x1 x2 x3 y0 y1 y2 y3
  have E8 := ex_a2 x0 x1 x2 x3 y0 y1 y2 y3
  have E9 := ex_a3 x0 x1 x2 x3 y0 y1 y2 y3
  have EA := ex_pa x0 x1 x2 x3 y0 y1 y2 y3
  have EB := ex_in x0 x1 x2 x3 y0 y1 y2 y3
  have EC := ex_riv x0 x1 x2 x3 y0 y1 y2 y3
  rw [← hL] at E1 E2 E3 E4 E5 E6 E7 E8 E9 EA EB EC
  clear hL
  have H1 := fun w' (h : NstAt rcV 2 Rch.adr 1 krL w' a1 L) => vPath_holds a1 L c1 0 4 w' h.out h.inn
  have H2 := fun w' (h : NstAt rcV 2 Rch.adr 1 krL w' a1 L) => vPath_holds a1 L c1 2 2 w' h.out h.inn
  have H3 := fun w' (h : NstAt rcV 2 Rch.adr 1 krL w' a1 L) => vPath_holds a1 L c1 3 2 w' h.out h.inn
  have H4 := fun w' (h : NstAt rcV 2 Rch.adr 1 krL w' a1 L) => vAbove_holds a1 L c1 4 w' h.out h.inn
  have H5 := fun w' (h : NstAt rcV 2 Rch.adr 1 krL w' a1 L) => vBasin_holds a1 L c1 4 w' h.out h.inn (fun _ => by omega)
  have H6 := fun w' (h : NstAt rcV 2 Rch.adr 1 krL w' a1 L) => vOrder_holds a1 L c1 w' h.out h.inn
  have H7 := fun w' (h : NstAt rcV 2 Rch.adr 1 krL w' a1 L) => vAlong_holds a1 L c1 0 4 w' h.out h.inn
  have H8 := fun w' (h : NstAt rcV 2 Rch.adr 1 krL w' a1 L) => vAlong_holds a1 L c1 1 4 w' h.out h.inn
  have H9 := fun w' (h : NstAt rcV 2 Rch.adr 1 krL w' a1 L) => vAlong_holds a1 L c1 3 3 w' h.out h.inn
  have HA := fun w' (h : NstAt rcV 2 Rch.adr 1 krL w' a1 L) => vParts_holds a1 L c1 0 4 10 12 w' h.out h.inn
  have HB := fun w' (h : NstAt rcV 2 Rch.adr 1 krL w' a1 L) => vInflow_holds a1 L c1 2 10 11 w' h.out h.inn
  have HC := fun w' (h : NstAt rcV 2 Rch.adr 1 krL w' a1 L) => vCheckR_holds a1 L c1 w' h.out h.inn
  rw [hl5] at H1 H2 H3 H4 H5 H6 H7 H8 H9 HA HB HC
  rw [E1] at H1
  rw [E2] at H2
  rw [E3] at H3
  rw [E4] at H4
  rw [E5] at H5
  rw [E6] at H6
  rw [E7] at H7 HA
  rw [E8] at H8
  rw [E9] at H9
  rw [EA] at HA
  rw [EB] at HB
  rw [EC] at HC
  dsimp only at H1 H2 H3 H4 H5 H6 H7 H8 H9 HA HB HC
  clear E1 E2 E3 E4 E5 E6 E7 E8 E9 EA EB EC
  all_goals (refine go ?_; and_intros <;> (try exact trivial) <;> repeat (first | refine fun (Bk : Nat) => ?_ | intro h))
  repeat' ((first | (apply G.cN (g := 11) (vs := [.slice a1 5 c1, .int .i64 0, .int .i64 4]) (fun a' c' => .tuple #[.slice a' 3 c', .int .i64 0]) (([0, 2, 4] : List Int).map isV); rfl; rfl; exact fun w' hw' => H1 w' (hw'.nst (by exact mm)); intro u1 v1 hp1 hq1) | (apply G.cN (g := 11) (vs := [.slice a1 5 c1, .int .i64 2, .int .i64 2]) (fun a' c' => .tuple #[.slice a' 1 c', .int .i64 0]) (([2] : List Int).map isV); rfl; rfl; exact fun w' hw' => H2 w' (hw'.nst (by exact mm)); intro u2 v2 hp2 hq2) | (apply G.cN (g := 11) (vs := [.slice a1 5 c1, .int .i64 3, .int .i64 2]) (fun a' c' => .tuple #[.slice a' 0 c', .int .i64 8]) (([] : List Int).map isV); rfl; rfl; exact fun w' hw' => H3 w' (hw'.nst (by exact mm)); intro u3 v3 hp3 hq3) | (apply G.cN (g := 13) (fun a' c' => .tuple #[.slice a' 2 c', .int .i64 0]) (([2, 3] : List Int).map isV); rfl; rfl; exact fun w' hw' => H4 w' (hw'.nst (by exact mm)); intro u4 v4 hp4 hq4) | (apply G.cN (g := 15) (fun a' c' => .tuple #[.slice a' 4 c', .int .i64 0]) (([0, 1, 2, 3] : List Int).map isV); rfl; rfl; exact fun w' hw' => H5 w' (hw'.nst (by exact mm)); intro u5 v5 hp5 hq5) | (apply G.cN (g := 17) (vs := [.slice a1 5 c1]) (fun a' c' => .tuple #[.slice a' 5 c', .int .i64 0]) (([0, 1, 2, 3, 4] : List Int).map isV); rfl; rfl; exact fun w' hw' => H6 w' (hw'.nst (by exact mm)); intro u6 v6 hp6 hq6) | (apply G.sliceL; rfl; rfl; rfl; rfl; rfl; rfl; rfl; rfl; intro Bs) | (apply G.cV (g := 46); rfl; rfl; exact fun w' _ => weights_holds _ w' ⟨_, _, _, rfl⟩)) <;> (refine go ?_; and_intros <;> (try exact trivial) <;> repeat (first | refine fun (Bk : Nat) => ?_ | intro h)))
  rename_i bA bB
  have H6b := fun w' (h : NstAt rcV 2 Rch.adr 1 krL w' (some ⟨Bs, 0, none⟩) (exL2 (some ⟨bA, 0, none⟩) (some ⟨bB, 0, none⟩) 1 1)) => vOrder_holds (some ⟨Bs, 0, none⟩) (exL2 (some ⟨bA, 0, none⟩) (some ⟨bB, 0, none⟩) 1 1) 3 w' h.out h.inn
  rw [ex_or2] at H6b
  dsimp only at H6b
  refine G.cN (vs := [.slice (some ⟨Bs, 0, none⟩) 3 3]) (fun a' c' => .tuple #[.slice a' 3 c', .int .i64 0]) (([0, 2, 1] : List Int).map isV) rfl rfl (fun w' hw' => H6b w' ⟨(blkSlA (f := rcV) (l := exL2 (some ⟨bA, 0, none⟩) (some ⟨bB, 0, none⟩) 1 1) hw' rcV_len).1, fun r hr => ?_⟩) ?_
  · simp only [exL2, List.mem_cons, List.not_mem_nil, or_false] at hr
    rcases hr with rfl | rfl | rfl
    · exact (blkSlA (f := isV) (l := [1]) hw' isV_len).1
    · exact SlAt.nil
    · exact (blkSlA (f := isV) (l := [1]) hw' isV_len).1
  intro u7 v7 hp7 hq7
  clear H6b H1 H2 H3 H4 H5 H6
  all_goals (refine go ?_; and_intros <;> (try exact trivial) <;> repeat (first | refine fun (Bk : Nat) => ?_ | intro h))
  repeat' ((first | (refine G.cV (v := .int .i64 0) rfl rfl (fun w' hw' => HC w' (hw'.nst (by exact mm))) ?_) | (apply G.cV (g := 47) (vs := [.slice u1 3 v1, .int .i64 0, .slice (some ⟨_, 0, none⟩) 3 3]); rfl; rfl; exact fun w' hw' => is_holds _ _ ([0, 2, 4] : List Int) _ _ w' (hw'.sl (by exact mm)) (blkSlA (l := [0, 2, 4]) hw' isV_len).1 (show 3 ≤ 1000000000 by decide)) | (apply G.cV (g := 47) (vs := [.slice u2 1 v2, .int .i64 0, .slice (some ⟨_, 0, none⟩) 1 1]); rfl; rfl; exact fun w' hw' => is_holds _ _ ([2] : List Int) _ _ w' (hw'.sl (by exact mm)) (blkSlA (l := [2]) hw' isV_len).1 (show 1 ≤ 1000000000 by decide)) | (apply G.cV (g := 47) (vs := [.slice u4 2 v4, .int .i64 0, .slice (some ⟨_, 0, none⟩) 2 2]); rfl; rfl; exact fun w' hw' => is_holds _ _ ([2, 3] : List Int) _ _ w' (hw'.sl (by exact mm)) (blkSlA (l := [2, 3]) hw' isV_len).1 (show 2 ≤ 1000000000 by decide)) | (apply G.cV (g := 47) (vs := [.slice u5 4 v5, .int .i64 0, .slice (some ⟨_, 0, none⟩) 4 4]); rfl; rfl; exact fun w' hw' => is_holds _ _ ([0, 1, 2, 3] : List Int) _ _ w' (hw'.sl (by exact mm)) (blkSlA (l := [0, 1, 2, 3]) hw' isV_len).1 (show 4 ≤ 1000000000 by decide)) | (apply G.cV (g := 47) (vs := [.slice u6 5 v6, .int .i64 0, .slice (some ⟨_, 0, none⟩) 5 5]); rfl; rfl; exact fun w' hw' => is_holds _ _ ([0, 1, 2, 3, 4] : List Int) _ _ w' (hw'.sl (by exact mm)) (blkSlA (l := [0, 1, 2, 3, 4]) hw' isV_len).1 (show 5 ≤ 1000000000 by decide)) | (apply G.cV (g := 47) (vs := [.slice u7 3 v7, .int .i64 0, .slice (some ⟨_, 0, none⟩) 3 3]); rfl; rfl; exact fun w' hw' => is_holds _ _ ([0, 2, 1] : List Int) _ _ w' (hw'.sl (by exact mm)) (blkSlA (l := [0, 2, 1]) hw' isV_len).1 (show 3 ≤ 1000000000 by decide)) | (apply G.cN (g := 19) (vs := [.slice a1 5 c1, .int .i64 0, .int .i64 4]) (fun a' c' => .tuple #[.agg #[.slice a' 4 c'], .int .i64 0]) (([1, 1, 1, 1] : List Int).map isV); rfl; rfl; exact fun w' hw' => H7 w' (hw'.nst (by exact mm)); intro u8 v8 hp8 hq8) | (apply G.cN (g := 19) (vs := [.slice a1 5 c1, .int .i64 1, .int .i64 4]) (fun a' c' => .tuple #[.agg #[.slice a' 4 c'], .int .i64 0]) (([0, 1, 0, 1] : List Int).map isV); rfl; rfl; exact fun w' hw' => H8 w' (hw'.nst (by exact mm)); intro u9 v9 hp9 hq9) | (apply G.cN (g := 19) (vs := [.slice a1 5 c1, .int .i64 3, .int .i64 3]) (fun a' c' => .tuple #[.agg #[.slice a' 1 c'], .int .i64 0]) (([1] : List Int).map isV); rfl; rfl; exact fun w' hw' => H9 w' (hw'.nst (by exact mm)); intro u10 v10 hp10 hq10) | (apply G.cN (g := 21) (fun a' c' => .tuple #[.slice a' 3 c', .int .i64 0]) (([(7, 8, 1), (8, 11, 2), (11, 12, 1)] : List Prt).map (wV 4)); rfl; rfl; exact fun w' hw' => HA w' (hw'.nst (by exact mm)); intro u11 v11 hp11 hq11) | (apply G.cNst (g := 23) (f := ifV) (sz := 2) (adr := Ifl.adr) (sz2 := 5) (F2 := ifL) (fun R a' c' => .tuple #[.slice a' R.length c', .int .i64 0]) (fun R => R.map coreI = [(0, [(9, 11, 1)], 2), (1, [(9, 10, 1)], 1)]); rfl; rfl; exact fun w' hw' => HB w' (hw'.nst (by exact mm)); intro R u12 v12 hR hq12 hq13) | (apply G.cV (g := 47) (vs := [.slice u8 4 v8, .int .i64 0, .slice (some ⟨_, 0, none⟩) 4 4]); rfl; rfl; exact fun w' hw' => is_holds _ _ ([1, 1, 1, 1] : List Int) _ _ w' (hw'.sl (by exact mm)) (blkSlA (l := [1, 1, 1, 1]) hw' isV_len).1 (show 4 ≤ 1000000000 by decide)) | (apply G.cV (g := 47) (vs := [.slice u9 4 v9, .int .i64 0, .slice (some ⟨_, 0, none⟩) 4 4]); rfl; rfl; exact fun w' hw' => is_holds _ _ ([0, 1, 0, 1] : List Int) _ _ w' (hw'.sl (by exact mm)) (blkSlA (l := [0, 1, 0, 1]) hw' isV_len).1 (show 4 ≤ 1000000000 by decide)) | (apply G.cV (g := 47) (vs := [.slice u10 1 v10, .int .i64 0, .slice (some ⟨_, 0, none⟩) 1 1]); rfl; rfl; exact fun w' hw' => is_holds _ _ ([1] : List Int) _ _ w' (hw'.sl (by exact mm)) (blkSlA (l := [1]) hw' isV_len).1 (show 1 ≤ 1000000000 by decide)) | (apply G.sliceL; rfl; rfl; rfl; rfl; rfl; rfl; rfl; rfl; intro Bs)) <;> (refine go ?_; and_intros <;> (try exact trivial) <;> repeat (first | refine fun (Bk : Nat) => ?_ | intro h)))
  all_goals (refine go ?_; and_intros <;> (try exact trivial) <;> repeat (first | refine fun (Bk : Nat) => ?_ | intro h))
  repeat' ((first | (apply G.cV (g := 48) (vs := [.int .i64 9, .int .i64 11, .int .i64 2]); rfl; rfl; exact fun w' _ => p2 w') | (apply G.cV (g := 48) (vs := [.int .i64 9, .int .i64 10, .int .i64 1]); rfl; rfl; exact fun w' _ => p1 w') | (apply G.sliceL; rfl; rfl; rfl; rfl; rfl; rfl; rfl; rfl; intro Bs)) <;> (refine go ?_; and_intros <;> (try exact trivial) <;> repeat (first | refine fun (Bk : Nat) => ?_ | intro h)))
  rename_i bP bQ
  clear H7 H8 H9 HA HB HC
  have hRl : R.length = 2 := by
    have := congrArg List.length hR
    rwa [List.length_map] at this
  have hRi : ∀ r ∈ R, r.L.length ≤ 1000000000 := fun r hr => by
    have h := List.mem_map_of_mem (f := coreI) hr
    rw [hR] at h
    simp only [List.mem_cons, List.not_mem_nil, or_false, coreI, Prod.mk.injEq] at h
    rcases h with ⟨_, h, _⟩ | ⟨_, h, _⟩ <;> rw [h] <;> decide
  refine G.cV (v := .bool true) rfl rfl (fun w' hw' => sameFlows_holds u12 (some ⟨Bs, 0, none⟩) R [⟨0, [(9, 11, 1)], 2, some ⟨bP, 0, none⟩, 1⟩, ⟨1, [(9, 10, 1)], 1, some ⟨bQ, 0, none⟩, 1⟩] v12 2 w' (hw'.nst (by exact mm)) ⟨(blkSlA (f := ifV) (l := [⟨0, [(9, 11, 1)], 2, some ⟨bP, 0, none⟩, 1⟩, ⟨1, [(9, 10, 1)], 1, some ⟨bQ, 0, none⟩, 1⟩]) hw' ifV_len).1, fun r hr => ?_⟩ hR ⟨by omega, hRi⟩) ?_
  · simp only [List.mem_cons, List.not_mem_nil, or_false] at hr
    rcases hr with rfl | rfl
    · show SlAt w' _ 5 (([(9, 11, 1)] : List Prt).map (wV 2))
      rw [hm2]
      exact (blkSlA (f := fV) (l := [(9, 11, q2)]) hw' fV_len).1
    · show SlAt w' _ 5 (([(9, 10, 1)] : List Prt).map (wV 1))
      rw [hm1]
      exact (blkSlA (f := fV) (l := [(9, 10, q1)]) hw' fV_len).1
  all_goals (refine go ?_; and_intros <;> (try exact trivial) <;> repeat (first | refine fun (Bk : Nat) => ?_ | intro h))
  repeat' ((first | (apply G.cV (g := 48) (vs := [.int .i64 7, .int .i64 8, .int .i64 4]); rfl; rfl; exact fun w' _ => p3 w') | (apply G.cV (g := 48) (vs := [.int .i64 8, .int .i64 11, .int .i64 2]); rfl; rfl; exact fun w' _ => p4 w') | (apply G.cV (g := 48) (vs := [.int .i64 11, .int .i64 12, .int .i64 4]); rfl; rfl; exact fun w' _ => p5 w') | (apply G.sliceL; rfl; rfl; rfl; rfl; rfl; rfl; rfl; rfl; intro Bs)) <;> (refine go ?_; and_intros <;> (try exact trivial) <;> repeat (first | refine fun (Bk : Nat) => ?_ | intro h)))
  refine G.cV (v := .bool true) rfl rfl (fun w' hw' => sameParts_holds u11 (some ⟨Bs, 0, none⟩) 4 [(7, 8, 1), (8, 11, 2), (11, 12, 1)] v11 3 w' (hw'.sl (by exact mm)) ?_ (by decide)) ?_
  · rw [hm4]
    exact (blkSlA (f := fV) (l := [(7, 8, q4), (8, 11, q2), (11, 12, q4)]) hw' fV_len).1
  all_goals (refine go ?_; and_intros <;> (try exact trivial) <;> repeat (first | refine fun (Bk : Nat) => ?_ | intro h))
  all_goals refine ret1b Tryz.func10 Tryz.results10 ?_
  all_goals rfl
end Go.Proofs.YtceaamdomkjmlaaGreatDoor
/-
  The law ReachesAreAsSpecified returns true.
-/
namespace Go.Proofs.YtceaamdomkjmlaaGreatDoor
open Go.RowKit Go.Sl Go.Num
/-! ### how long results are -/
theorem pathF_len {l : List Rch} {to : Int} : ∀ (k : Nat) (g : Int) (p : List Int), pathF l to k g = some p → p.length ≤ k
  | 0, g, p, h => by cases h
  | k + 1, g, p, h => by
    rw [pathF] at h
    split at h
    · cases h
    · split at h
      · cases h; simp
      · cases hq : pathF l to k (dnOf l g) with
        | none => rw [hq] at h; cases h
        | some q =>
          rw [hq] at h
          cases h
          have := pathF_len k _ q hq
          simpa using this
theorem pathE_len (l : List Rch) (fr to : Int) : (pathE l fr to).1.length ≤ l.length + 1 := by
  rw [pathE]
  split
  · exact Nat.zero_le _
  · split
    · exact Nat.zero_le _
    · split
      · rename_i p hp; exact pathF_len _ _ p hp
      · exact Nat.zero_le _
theorem aboveE_len (l : List Rch) (g : Int) : (aboveE l g).1.length ≤ l.length := by
  rw [aboveE]
  split
  · exact Nat.zero_le _
  · exact abU_len l l.length g
theorem basinE_len (l : List Rch) (g : Int) : (basinE l g).1.length ≤ l.length := by
  rw [basinE]
  split
  · exact Nat.zero_le _
  · exact basin_len l g
theorem ordE_len (l : List Rch) : (ordE l).1.length ≤ l.length := by
  rw [ordE]
  split
  · exact Nat.zero_le _
  · rename_i h
    exact Nat.le_of_eq (ord_ok (riv_of (Decidable.not_not.1 h))).2
theorem red_le (l : List Int) : (red l).length ≤ l.length := by
  rw [red, List.length_map, List.length_take]; exact Nat.min_le_right _ _
theorem compE_len (a b : List Int) : (compE a b).1.length ≤ 400 := by
  rw [compE]
  split
  · exact Nat.zero_le _
  · split
    · exact Nat.zero_le _
    · split
      · exact Nat.zero_le _
      · split
        · exact Nat.zero_le _
        · have := red_le (convL (red a) (red b))
          rw [convL_len] at this
          show (red _).length ≤ 400
          omega
theorem foldK_len : ∀ (m : List (List Int)) (s : List Int × Int), s.1.length ≤ 400 → (foldK s m).1.length ≤ 400
  | [], s, h => h
  | x :: m, s, h => by
    rw [foldK]
    split
    · exact h
    · exact foldK_len m _ (compE_len _ _)
theorem alongE_len (l : List Rch) (fr to : Int) : (alongE l fr to).1.length ≤ 400 := by
  by_cases he : (pathE l fr to).2 = 0
  · by_cases hne : fr = to
    · rw [alongE, if_neg (fun h => h he), if_pos hne]; show 1 ≤ 400; decide
    · obtain ⟨d, h1, h2, h3, h4, h5⟩ := along_path he hne
      rw [h4]
      refine foldK_len _ _ ?_
      have hR := riv_of h1
      obtain ⟨k0, k1, k2⟩ := h5 0 (Nat.zero_le _)
      have := (ker_of (hR.pos ⟨k0, k1⟩ k2).2).len
      rw [itr] at this
      exact Nat.le_trans (red_le _) this.2
  · rw [alongE, if_pos he]; exact Nat.zero_le _
theorem arrE_len (k : List Int) (f t : Int) : (arrE k f t).1.length ≤ 1402560 := by
  rw [arrE]
  split
  · exact Nat.zero_le _
  · split
    · exact Nat.zero_le _
    · rename_i h1 h2
      have := arrF_len (W := wIn k f t) (t0Of k f) (t - t0Of k f).toNat
      have h3 : 0 ≤ t0Of k f := by rw [t0Of]; omega
      show (arrL k f t).length ≤ _
      rw [arrL]; omega
theorem partsE_len (l : List Rch) (fr to f t : Int) : (partsE l fr to f t).1.length ≤ 1402560 := by
  rw [partsE]
  split
  · exact Nat.zero_le _
  · exact arrE_len _ _ _
theorem infF_len {l : List Rch} {g f t : Int} : ∀ (U : List Int) (out : List (Int × List Prt × Int)), (∀ x ∈ out, x.2.1.length ≤ 1402560) → (infF l g f t out U).1.length ≤ out.length + U.length ∧ ∀ x ∈ (infF l g f t out U).1, x.2.1.length ≤ 1402560
  | [], out, h => ⟨Nat.le_refl _, h⟩
  | u :: U, out, h => by
    rw [infF]
    split
    · exact ⟨Nat.zero_le _, fun x hx => by cases hx⟩
    · have := infF_len (l := l) (g := g) (f := f) (t := t) U (out ++ [(u, (partsE l u g f t).1, sumL (alongE l u g).1)]) fun x hx => by
        rcases List.mem_append.1 hx with hx | hx
        · exact h x hx
        · rw [List.mem_singleton.1 hx]; exact partsE_len _ _ _ _ _
      refine ⟨?_, this.2⟩
      have h2 := this.1
      rw [List.length_append] at h2
      simp only [List.length_cons, List.length_nil] at h2 ⊢
      omega
theorem inflowE_len (l : List Rch) (g f t : Int) : (inflowE l g f t).1.length ≤ l.length ∧ ∀ x ∈ (inflowE l g f t).1, x.2.1.length ≤ 1402560 := by
  rw [inflowE]
  split
  · exact ⟨Nat.zero_le _, fun x hx => by cases hx⟩
  · have := infF_len (l := l) (g := g) (f := f) (t := t) (aboveL l g) [] fun x hx => by cases hx
    have h2 := abU_len l l.length g
    rw [show abU l l.length g = aboveL l g from rfl] at h2
    exact ⟨by have := this.1; rw [List.length_nil] at this; omega, this.2⟩
set_option maxHeartbeats 4000000 in
theorem law1_holds (a : Option Addr) (l : List Rch) (c : Nat) (fr to f t : Int) (w : World) (hA : SlAt w a 2 (l.map rcV)) (hK : KerAt w l) :
    Calls Tryz.prog 3 #[.slice a l.length c, .agg #[.int .i64 fr, .int .i64 to], .agg #[.int .i64 f, .int .i64 t]] w fun e w' => e = .returned (.bool true) ∧ Below w.heap.size w w' := by
  have hfew := fun w' (hb : Below w.heap.size w w') => fewRv_holds a l c 10 w' (hA.below hb)
  have hlong := fun w' (_ : Below w.heap.size w w') => long_holds f t w'
  by_cases h1 : fewRv 10 l
  case neg =>
    rw [decide_eq_false h1] at hfew
    refine enterA [(0, .slice a l.length c), (1, .agg #[.int .i64 fr, .int .i64 to]), (2, .agg #[.int .i64 f, .int .i64 t])] Tryz.func3 Tryz.ntmps3 ?_
    all_goals (refine go ?_; and_intros <;> (try exact trivial) <;> repeat (first | refine fun (Bk : Nat) => ?_ | intro h))
    repeat' ((first | (refine G.cvb hfew ?_) | (refine G.cvb hlong ?_) | (apply G.cV (g := 10); rfl; rfl; exact fun w' _ => sanity32_holds w')) <;> (refine go ?_; and_intros <;> (try exact trivial) <;> repeat (first | refine fun (Bk : Nat) => ?_ | intro h)))
    all_goals refine ret1b Tryz.func3 Tryz.results3 ?_
    all_goals rfl
  rw [decide_eq_true h1] at hfew
  by_cases h2 : longT f t
  · rw [decide_eq_true h2] at hlong
    refine enterA [(0, .slice a l.length c), (1, .agg #[.int .i64 fr, .int .i64 to]), (2, .agg #[.int .i64 f, .int .i64 t])] Tryz.func3 Tryz.ntmps3 ?_
    all_goals (refine go ?_; and_intros <;> (try exact trivial) <;> repeat (first | refine fun (Bk : Nat) => ?_ | intro h))
    repeat' ((first | (refine G.cvb hfew ?_) | (refine G.cvb hlong ?_) | (apply G.cV (g := 10); rfl; rfl; exact fun w' _ => sanity32_holds w')) <;> (refine go ?_; and_intros <;> (try exact trivial) <;> repeat (first | refine fun (Bk : Nat) => ?_ | intro h)))
    all_goals refine ret1b Tryz.func3 Tryz.results3 ?_
    all_goals rfl
  rw [decide_eq_false h2] at hlong
  have hl50 : l.length ≤ 50 := by have := h1.1; omega
  have hb12 : errG l fr = 0 → l.length ≤ 12 := fun h => by
    have := (riv_of (errG_ok h).1).len
    have := h1.1
    omega
  clear h1 h2
  have vPath := fun w' (hb : Below w.heap.size w w') => vPath_holds a l c fr to w' (hA.below hb) (hK.below hb)
  have rPath := fun w' (hb : Below w.heap.size w w') => rPath_holds a l c fr to w' (hA.below hb) (hK.below hb)
  have vAbove := fun w' (hb : Below w.heap.size w w') => vAbove_holds a l c fr w' (hA.below hb) (hK.below hb)
  have rAbove := fun w' (hb : Below w.heap.size w w') => rAbove_holds a l c fr w' (hA.below hb) (hK.below hb)
  have vBasin := fun w' (hb : Below w.heap.size w w') => vBasin_holds a l c fr w' (hA.below hb) (hK.below hb) hb12
  have rBasin := fun w' (hb : Below w.heap.size w w') => rBasin_holds a l c fr w' (hA.below hb) (hK.below hb)
  have vOrder := fun w' (hb : Below w.heap.size w w') => vOrder_holds a l c w' (hA.below hb) (hK.below hb)
  have rOrder := fun w' (hb : Below w.heap.size w w') => rOrder_holds a l c w' (hA.below hb) (hK.below hb)
  have vAlong := fun w' (hb : Below w.heap.size w w') => vAlong_holds a l c fr to w' (hA.below hb) (hK.below hb)
  have rAlong := fun w' (hb : Below w.heap.size w w') => rAlong_holds a l c fr to w' (hA.below hb) (hK.below hb)
  have vParts := fun w' (hb : Below w.heap.size w w') => vParts_holds a l c fr to f t w' (hA.below hb) (hK.below hb)
  have rParts := fun w' (hb : Below w.heap.size w w') => rParts_holds a l c fr to f t w' (hA.below hb) (hK.below hb)
  have vInflow := fun w' (hb : Below w.heap.size w w') => vInflow_holds a l c fr f t w' (hA.below hb) (hK.below hb)
  have rInflow := fun w' (hb : Below w.heap.size w w') => rInflow_holds a l c fr f t w' (hA.below hb) (hK.below hb)
  have vChk := fun w' (hb : Below w.heap.size w w') => vCheckR_holds a l c w' (hA.below hb) (hK.below hb)
  have rChk := fun w' (hb : Below w.heap.size w w') => rCheckR_holds a l c w' (hA.below hb) (hK.below hb)
  have lP := pathE_len l fr to
  have lU := aboveE_len l fr
  have lB := basinE_len l fr
  have lO := ordE_len l
  have lK := alongE_len l fr to
  have lT := partsE_len l fr to f t
  have lF := inflowE_len l fr f t
  generalize pathE l fr to = zPath at *
  obtain ⟨P, eP⟩ := zPath
  generalize aboveE l fr = zAbove at *
  obtain ⟨U, eU⟩ := zAbove
  generalize basinE l fr = zBasin at *
  obtain ⟨B, eB⟩ := zBasin
  generalize ordE l = zOrder at *
  obtain ⟨O, eO⟩ := zOrder
  generalize alongE l fr to = zAlong at *
  obtain ⟨K, eK⟩ := zAlong
  generalize partsE l fr to f t = zParts at *
  obtain ⟨T, eT⟩ := zParts
  generalize inflowE l fr f t = zInflow at *
  obtain ⟨F, eF⟩ := zInflow
  generalize rivErr l = rv at *
  generalize sumL K = tot at *
  dsimp only at *
  clear hK hb12
  refine enterA [(0, .slice a l.length c), (1, .agg #[.int .i64 fr, .int .i64 to]), (2, .agg #[.int .i64 f, .int .i64 t])] Tryz.func3 Tryz.ntmps3 ?_
  all_goals (refine go ?_; and_intros <;> (try exact trivial) <;> repeat (first | refine fun (Bk : Nat) => ?_ | intro h))
  repeat' ((first | (refine G.cvb hfew ?_) | (refine G.cvb hlong ?_) | (apply G.indexArr (i := 0) (o' := 0); rfl; rfl; rfl; omega; rfl; rfl; rfl; rfl) | (apply G.indexArr (i := 1) (o' := 1); rfl; rfl; rfl; omega; rfl; rfl; rfl; rfl) | (apply G.cN (g := 11) (fun a' c' => .tuple #[.slice a' P.length c', .int .i64 eP]) (P.map isV); rfl; rfl; exact fun w' hw' => vPath w' hw'.below; intro a1 b1 hp1 hq1) | (apply G.cN (g := 12) (fun a' c' => .agg #[.slice a' P.length c', .int .i64 eP]) (P.map isV); rfl; rfl; exact fun w' hw' => rPath w' hw'.below; intro a2 b2 hp2 hq2) | (apply G.cN (g := 13) (fun a' c' => .tuple #[.slice a' U.length c', .int .i64 eU]) (U.map isV); rfl; rfl; exact fun w' hw' => vAbove w' hw'.below; intro a3 b3 hp3 hq3) | (apply G.cN (g := 14) (fun a' c' => .agg #[.slice a' U.length c', .int .i64 eU]) (U.map isV); rfl; rfl; exact fun w' hw' => rAbove w' hw'.below; intro a4 b4 hp4 hq4) | (apply G.cN (g := 15) (fun a' c' => .tuple #[.slice a' B.length c', .int .i64 eB]) (B.map isV); rfl; rfl; exact fun w' hw' => vBasin w' hw'.below; intro a5 b5 hp5 hq5) | (apply G.cN (g := 16) (fun a' c' => .agg #[.slice a' B.length c', .int .i64 eB]) (B.map isV); rfl; rfl; exact fun w' hw' => rBasin w' hw'.below; intro a6 b6 hp6 hq6) | (apply G.cN (g := 17) (fun a' c' => .tuple #[.slice a' O.length c', .int .i64 eO]) (O.map isV); rfl; rfl; exact fun w' hw' => vOrder w' hw'.below; intro a7 b7 hp7 hq7) | (apply G.cN (g := 18) (fun a' c' => .agg #[.slice a' O.length c', .int .i64 eO]) (O.map isV); rfl; rfl; exact fun w' hw' => rOrder w' hw'.below; intro a8 b8 hp8 hq8) | (apply G.cN (g := 19) (fun a' c' => .tuple #[.agg #[.slice a' K.length c'], .int .i64 eK]) (K.map isV); rfl; rfl; exact fun w' hw' => vAlong w' hw'.below; intro a9 b9 hp9 hq9) | (apply G.cN (g := 20) (fun a' c' => .agg #[.slice a' K.length c', .int .i64 eK]) (K.map isV); rfl; rfl; exact fun w' hw' => rAlong w' hw'.below; intro a10 b10 hp10 hq10) | (apply G.cN (g := 21) (fun a' c' => .tuple #[.slice a' T.length c', .int .i64 eT]) (T.map (wV tot)); rfl; rfl; exact fun w' hw' => vParts w' hw'.below; intro a11 b11 hp11 hq11) | (apply G.cN (g := 22) (fun a' c' => .agg #[.slice a' T.length c', .int .i64 eT]) (T.map (wV tot)); rfl; rfl; exact fun w' hw' => rParts w' hw'.below; intro a12 b12 hp12 hq12) | (apply G.cNst (g := 23) (f := ifV) (sz := 2) (adr := Ifl.adr) (sz2 := 5) (F2 := ifL) (fun R a' c' => .tuple #[.slice a' R.length c', .int .i64 eF]) (fun R => R.map coreI = F); rfl; rfl; exact fun w' hw' => vInflow w' hw'.below; intro R13 a13 b13 hR13 hr13 hs13) | (apply G.cNst (g := 24) (f := ifV) (sz := 2) (adr := Ifl.adr) (sz2 := 5) (F2 := ifL) (fun R a' c' => .agg #[.slice a' R.length c', .int .i64 eF]) (fun R => R.map coreI = F); rfl; rfl; exact fun w' hw' => rInflow w' hw'.below; intro R14 a14 b14 hR14 hr14 hs14) | (refine G.cvb vChk ?_) | (refine G.cvb rChk ?_)) <;> (refine go ?_; and_intros <;> (try exact trivial) <;> repeat (first | refine fun (Bk : Nat) => ?_ | intro h)))
  have sIP := fun w' a b c d hx hy => sameInts_holds a c P P b d w' hx hy (by omega)
  rw [decide_eq_true rfl] at sIP
  have sIU := fun w' a b c d hx hy => sameInts_holds a c U U b d w' hx hy (by omega)
  rw [decide_eq_true rfl] at sIU
  have sIB := fun w' a b c d hx hy => sameInts_holds a c B B b d w' hx hy (by omega)
  rw [decide_eq_true rfl] at sIB
  have sIO := fun w' a b c d hx hy => sameInts_holds a c O O b d w' hx hy (by omega)
  rw [decide_eq_true rfl] at sIO
  have sK := fun w' a b c d hx hy => same_holds a c K K b d w' hx hy (by omega)
  rw [decide_eq_true rfl] at sK
  have hRl : R13.length ≤ 1000000 ∧ ∀ r ∈ R13, r.L.length ≤ 1000000000 := by
    have h1 := congrArg List.length hR13
    rw [List.length_map] at h1
    refine ⟨by omega, fun r hr => ?_⟩
    have h2 := lF.2 (coreI r) (by rw [← hR13]; exact List.mem_map_of_mem hr)
    exact Nat.le_trans h2 (by decide)
  clear hfew hlong vPath rPath vAbove rAbove vBasin rBasin vOrder rOrder vAlong rAlong vParts rParts vInflow rInflow vChk rChk
  all_goals (refine go ?_; and_intros <;> (try exact trivial) <;> repeat (first | refine fun (Bk : Nat) => ?_ | intro h))
  repeat' ((first | (apply G.cV (g := 27) (vs := [.slice a1 P.length b1, .slice a2 P.length b2]) (v := .bool true); rfl; rfl; exact fun w' hw' => sIP w' a1 b1 a2 b2 (hw'.sl (by exact mm)) (hw'.sl (by exact mm))) | (apply G.cV (g := 27) (vs := [.slice a3 U.length b3, .slice a4 U.length b4]) (v := .bool true); rfl; rfl; exact fun w' hw' => sIU w' a3 b3 a4 b4 (hw'.sl (by exact mm)) (hw'.sl (by exact mm))) | (apply G.cV (g := 27) (vs := [.slice a5 B.length b5, .slice a6 B.length b6]) (v := .bool true); rfl; rfl; exact fun w' hw' => sIB w' a5 b5 a6 b6 (hw'.sl (by exact mm)) (hw'.sl (by exact mm))) | (apply G.cV (g := 27) (vs := [.slice a7 O.length b7, .slice a8 O.length b8]) (v := .bool true); rfl; rfl; exact fun w' hw' => sIO w' a7 b7 a8 b8 (hw'.sl (by exact mm)) (hw'.sl (by exact mm))) | (apply G.cV (g := 10); rfl; rfl; exact fun w' _ => sanity32_holds w') | (apply G.cV (g := 28) (v := .bool true); rfl; rfl; exact fun w' hw' => sK w' a9 b9 a10 b10 (hw'.sl (by exact mm)) (hw'.sl (by exact mm))) | (apply G.cV (g := 29) (v := .bool true); rfl; rfl; exact fun w' hw' => sameParts_holds a11 a12 tot T b11 b12 w' (hw'.sl (by exact mm)) (hw'.sl (by exact mm)) (by omega)) | (apply G.cV (g := 30) (v := .bool true); rfl; rfl; exact fun w' hw' => sameFlows_holds a13 a14 R13 R14 b13 b14 w' (hw'.nst (by exact mm)) (hw'.nst (by exact mm)) (hR13.trans hR14.symm) hRl)) <;> (refine go ?_; and_intros <;> (try exact trivial) <;> repeat (first | refine fun (Bk : Nat) => ?_ | intro h)))
  all_goals refine ret1b Tryz.func3 Tryz.results3 ?_
  all_goals rfl
end Go.Proofs.YtceaamdomkjmlaaGreatDoor
/-
  How the arguments of the laws of rivers read.
-/
namespace Go.Proofs.YtceaamdomkjmlaaGreatDoor
open Go.RowKit Go.Sl Go.Num Go.ChangeShapes Go.WideShapes
theorem rKer : Reads Tryz.prog 41 (fun s : Sld Int => [s.v]) (fun w s => SlAt w s.ad 1 (s.l.map isV)) := (Reads.struct1 (n := 1) Tryz.underlying41 (by kernel_rfl) (by kernel_rfl) rInts).mono fun _ _ h => h.1
theorem rRch : Reads Tryz.prog 68 rcV (fun w r => SlAt w r.adr 1 (r.ws.map isV)) := (Reads.struct2 (n := 2) Tryz.underlying68 (by kernel_rfl) (by kernel_rfl) rInt rKer).turn fun _ a h => ⟨⟨a.1, a.2.l, a.2.ad, a.2.cap⟩, rfl, h.2⟩
theorem rRchs : Reads Tryz.prog 22 (fun s : Sld Rch => [s.v]) (fun w s => SlAt w s.ad 2 (s.l.map rcV) ∧ KerAt w s.l) := (Reads.slice (sz := 2) Tryz.underlying22 (by kernel_rfl) (by decide) rRch).mono fun _ _ h => ⟨h.1, h.2.2.2⟩
theorem rPairI : Reads Tryz.prog 23 (fun a : Int × Int => [.int .i64 a.1, .int .i64 a.2]) (fun _ _ => True) := (Reads.array (sz := 1) Tryz.underlying23 (by kernel_rfl) (by kernel_rfl) rInt).turn fun _ l h => by
  obtain ⟨a, b, rfl⟩ := list2 h.1
  exact ⟨(a, b), rfl, trivial⟩
end Go.Proofs.YtceaamdomkjmlaaGreatDoor
