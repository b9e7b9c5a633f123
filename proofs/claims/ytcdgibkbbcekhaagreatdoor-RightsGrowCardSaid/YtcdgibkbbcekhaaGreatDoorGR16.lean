/-
  Contracts of rights: the law's example.
-/
import Derived.Test.YtcdgibkbbcekhaaGreatDoorGR14
import Derived.Test.YtcdgibkbbcekhaaGreatDoorGR15
import Derived.ProofKit
set_option linter.unusedVariables false
set_option linter.unusedSimpArgs false
set_option linter.unusedSectionVars false
namespace Go.Sl
open Go.RowKit
variable {C : Ctx} {st : List (Nat × Value)} {M : List Row} {k : List Item} {q q' : Md} {all rest : List Oper} {d : Nat} {ty : TypeId} {pos : String} {after : Array Edge} {gd : Option (Nat × Bool)}
theorem J.cutK {k2 : List Item} {X : Type} (stF : X → List (Nat × Value)) (MF : X → List Row) (h : (∀ x, J C (stF x) (MF x) k2) → J C st M k) (hk : ∀ x, J C (stF x) (MF x) k2) : J C st M k := h hk
/-- A store of a struct that nothing to come leans on. -/
theorem G.sAS {T n : TypeId} {x y : Operand} {vs : List Value} {b j tot : Nat} {e : TypeId} {cs out : List Value} {F : Row → List Row} {M0 : List Row} (hg : wnB all st gd = true) (hq : q.sto = some (M0, q'))
    (hx : evS st x = some (.pointer (some ⟨b, j, none⟩))) (hy : evS st y = some (.agg vs.toArray)) (hm : RAt (.blk b e cs tot) M F) [hT : TSize C.P T n] (hn : vs.length = n) (h1 : vs.all (·.oneCell') = true) (hj : j + vs.length ≤ cs.length) (ho : setL cs j vs = out)
    (hsub : M0.Sublist (F (.blk b e out tot))) (h : G q' C all st (F (.blk b e out tot)) rest k) :
    G q C all st M ({ dst := none, op := .store T x y, type := ty, pos, after, guard := gd } :: rest) k := by
  obtain ⟨i, h5, h6⟩ := hm.idx
  rw [← h6] at h hsub
  exact G.storeS (vs := vs) hg hq hx h5 hy rfl h1 ho hj hn hsub h
/-- The same, the first of a fork. -/
theorem G.sAO {i : Nat} {p : Pt} {T n : TypeId} {x y : Operand} {vs : List Value} {b j tot : Nat} {e : TypeId} {cs out : List Value} {F : Row → List Row} {M0 : List Row} (hg : wnB all st gd = true)
    (hx : evS st x = some (.pointer (some ⟨b, j, none⟩))) (hy : evS st y = some (.agg vs.toArray)) (hm : RAt (.blk b e cs tot) M F) [hT : TSize C.P T n] (hn : vs.length = n) (h1 : vs.all (·.oneCell') = true) (hj : j + vs.length ≤ cs.length) (ho : setL cs j vs = out)
    (hsub : M0.Sublist (F (.blk b e out tot))) (h : G (.anys M0 p) C all st (F (.blk b e out tot)) rest k) :
    G (.ones M0 i p) C all st M ({ dst := none, op := .store T x y, type := ty, pos, after, guard := gd } :: rest) k := by
  obtain ⟨i, h5, h6⟩ := hm.idx
  rw [← h6] at h hsub
  subst ho
  refine G.oneS hg (Eff.unit fun a w hf hw => ?_)
  obtain ⟨w', h2, h3⟩ := hw.setRow h5 hj (fun v hv => List.all_eq_true.1 h1 v hv) C.P
  refine ⟨w', _, ?_, h3, hsub, h⟩
  have hvs : (Value.agg vs.toArray).cells = vs.toArray := rfl
  simp [execOp, hf.eval hx, hf.eval hy, Instr.storeAt, Instr.sureAddr, storeVar, hT.h, hvs, hn, h2]
end Go.Sl
namespace Go.Proofs.YtcdgibkbbcekhaaGreatDoor
open Go.RowKit Go.Sl Go.Num
def rI (n : Int) : Rat := (n : Rat)
theorem rI_few {n : Int} (h1 : -999999999999999 ≤ n) (h2 : n ≤ 999999999999999) : fewQ 8 (rQ (rI n)) := fewQ_int h1 h2
theorem ints_holds (a : Option Addr) (l : List Int) (c : Nat) (w : World) (hA : SlAt w a 1 (l.map isV)) (hl : l.length ≤ 1000000) (hb : ∀ n ∈ l, -999999999999999 ≤ n ∧ n ≤ 999999999999999) :
    Calls Tryz.prog 56 #[.slice a l.length c] w (RetQ (fun v => v) w (l.map rI)) := by
  refine enterA [(0, .slice a l.length c)] Tryz.func56 Tryz.ntmps56 ?_
  all_goals (refine go ?_; and_intros <;> (try exact trivial) <;> repeat (first | refine fun (Bk : Nat) => ?_ | intro h))
  apply J.nilOwn (E := 29) (size := 3)
  refine J.loop (c := _) ((0, none, 0) : Nat × Option Addr × Nat) (fun s => l.length - s.1) (fun s => [(3, .slice s.2.1 s.1 s.2.2), (6, .slice a l.length c), (7, .int .i64 l.length), (8, .int .i64 s.1)]) (fun s => [.own 0 (.slice s.2.1 s.1 s.2.2) 29 3 s.1 (flat qF ((l.take s.1).map rI))]) (fun s => s.1 ≤ l.length) ?_ sbT sbL ?_
  · exact Nat.zero_le _
  intro ⟨i, au, cu⟩ h1 ih
  dsimp only at h1 ⊢
  by_cases hi : i < l.length
  · obtain ⟨ba, oa, rfl, hra⟩ := SlAt.all hA (by omega)
    have hri := hra i hi
    have hbi := hb _ (List.getElem_mem hi)
    have hin := fun w' => int_holds l[i] w' hbi.1 hbi.2
    have hap : flat qF ((l.take i).map rI) ++ qF (rI l[i]) = flat qF ((l.take i).map rI ++ [rI l[i]]) := flat1 qF _ _
    have ih := fun a2 c2 => ih (i + 1, a2, c2) hi (by dsimp only; omega)
    dsimp only at ih
    simp only [List.take_add_one, List.getElem?_eq_getElem hi, Option.toList, List.map_append, List.map_cons, List.map_nil] at ih
    rw [qF] at hap
    rw [show ((l[i] : Int) : Rat) = rI l[i] from rfl] at hin
    clear hra hb hbi hA
    generalize l[i] = n at *
    generalize rQ (rI n) = Q at *
    obtain ⟨s1, u1, v1⟩ := Q
    dsimp only [qV, qA, isV] at *
    all_goals (refine go ?_; and_intros <;> (try exact trivial) <;> repeat (first | refine fun (Bk : Nat) => ?_ | intro h))
    repeat' ((first | (apply G.cV (g := 58); rfl; rfl; exact fun w' _ => hin w') | (apply G.sliceL; rfl; rfl; rfl; rfl; rfl; rfl; rfl; rfl; intro Bs) | (apply G.apV; rfl; rfl; rfl; (repeat (first | exact RAt.head | apply RAt.tail)); exact SrcV.blk (by exact mm) rfl rfl; exact hap; omega; omega; intro a2 c2)) <;> (refine go ?_; and_intros <;> (try exact trivial) <;> repeat (first | refine fun (Bk : Nat) => ?_ | intro h)))
    exact J.fin (ih a2 c2)
  · obtain rfl : i = l.length := by omega
    rw [List.take_length]
    clear ih
    all_goals (refine go ?_; and_intros <;> (try exact trivial) <;> repeat (first | refine fun (Bk : Nat) => ?_ | intro h))
    (refine ret1 Tryz.func56 Tryz.results56 ?_; intro w' hw)
    exact satO hw (i := 0) rfl (List.length_map _) fun v => v
/-- The river of the documentation. -/
def exR (B : Nat) : List Rch := [⟨2, [1], some ⟨B, 0, none⟩, 1⟩, ⟨2, [1], some ⟨B, 0, none⟩, 1⟩, ⟨-1, [], none, 0⟩]
def exC : List Cm := [⟨2, 1, 5⟩, ⟨0, 2, 4⟩, ⟨1, 2, 4⟩, ⟨0, 3, 3⟩]
def exG (n : Int) : List Int := [n, 2, 1]
set_option maxHeartbeats 16000000 in
theorem example_holds (w0 : World) (M : List Row) (w : World) (n : Int) (h1 : 0 ≤ n) (h2 : n ≤ 1000) (hw : Sat w0 M w) :
    Calls Tryz.prog 52 #[.int .i64 n] w fun e w' => ∃ x : Nat × Nat × Option Addr × Nat × Nat, e = .returned (.tuple #[.agg #[.slice (some ⟨x.2.1, 0, none⟩) 3 3, .slice x.2.2.1 3 x.2.2.2.1], .slice (some ⟨x.2.2.2.2, 0, none⟩) 4 4]) ∧
      Sat w0 ([.blk x.2.2.2.2 40 (flat cmV exC) 20, .blk x.2.1 183 (flat rcV (exR x.1)) 6, slRow w0.heap.size x.2.2.1 3 (((exG n).map rI).map qF), .blk x.1 3 [.int .i64 1] 1] ++ M) w' := by
  have i5 := fun w' => int_holds 5 w' (by decide) (by decide)
  have i4 := fun w' => int_holds 4 w' (by decide) (by decide)
  have i3 := fun w' => int_holds 3 w' (by decide) (by decide)
  have hits := fun a c w' (hA : SlAt w' a 1 ((exG n).map isV)) => ints_holds a (exG n) c w' hA (show 3 ≤ 1000000 by decide) (fun m hm => by
    simp only [exG, List.mem_cons, List.not_mem_nil, or_false] at hm
    omega)
  have hcv : flat cmV exC = .int .i64 2 :: .int .i64 1 :: (qV (rQ 5) ++ .int .i64 0 :: .int .i64 2 :: (qV (rQ 4) ++ .int .i64 1 :: .int .i64 2 :: (qV (rQ 4) ++ .int .i64 0 :: .int .i64 3 :: (qV (rQ 3) ++ [])))) := rfl
  rw [hcv]
  clear hcv
  rw [show ((5 : Int) : Rat) = 5 from rfl] at i5
  rw [show ((4 : Int) : Rat) = 4 from rfl] at i4
  rw [show ((3 : Int) : Rat) = 3 from rfl] at i3
  generalize rQ 5 = q5 at *
  generalize rQ 4 = q4 at *
  generalize rQ 3 = q3 at *
  obtain ⟨s5, u5, v5⟩ := q5
  obtain ⟨s4, u4, v4⟩ := q4
  obtain ⟨s3, u3, v3⟩ := q3
  dsimp only [qA, qV] at *
  dsimp only [List.cons_append, List.nil_append]
  refine enterR [(0, .int .i64 n)] hw Tryz.func52 Tryz.ntmps52 ?_
  all_goals (refine go ?_; and_intros <;> (try exact trivial) <;> repeat (first | refine fun (Bk : Nat) => ?_ | intro h))
  repeat' ((first | (apply G.sliceL; rfl; rfl; rfl; rfl; rfl; rfl; rfl; rfl; intro Bs)) <;> (refine go ?_; and_intros <;> (try exact trivial) <;> repeat (first | refine fun (Bk : Nat) => ?_ | intro h)))
  rename_i B2
  apply J.cutK (X := Nat × Nat × Option Addr × Nat) (fun x => [(2, .pointer (some ⟨B2, 0, none⟩)), (5, .pointer (some ⟨x.1, 0, none⟩))]) (fun x => .blk x.1 25 [.slice (some ⟨x.2.1, 0, none⟩) 3 3, .slice x.2.2.1 3 x.2.2.2] 2 :: .blk x.2.1 183 (flat rcV (exR Bs)) 6 :: slRow w0.heap.size x.2.2.1 3 (((exG n).map rI).map qF) :: .blk Bs 3 [.int .i64 1] 1 :: .blk B2 25 [.slice none 0 0, .slice none 0 0] 2 :: M)
  · intro hk
    have hk := fun a b c d => hk ⟨a, b, c, d⟩
    dsimp only at hk
    all_goals (refine goR ?_; and_intros <;> (try exact trivial) <;> repeat (first | refine fun (Bk : Nat) => ?_ | intro h))
    repeat' ((first | (apply J.regA (.q 0 <| .q 1 <| .q 2 <| .q 3 <| .q 4 <| .q 6 <| .g 5 (.f 7 (.f 8 (.q 9 <| .e 10 <| .r 11 <| .nil) 10 (.e 8 <| .q 9 <| .r 11 <| .nil)) 10 (.e 7 <| .e 8 <| .q 9 <| .r 11 <| .nil)) 7 (.g 5 (.f 8 (.q 9 <| .e 10 <| .r 11 <| .nil) 10 (.e 8 <| .q 9 <| .r 11 <| .nil)) 8 (.f 5 (.q 9 <| .e 10 <| .r 11 <| .nil) 10 (.e 5 <| .q 9 <| .r 11 <| .nil)) 10 (.f 5 (.e 8 <| .q 9 <| .r 11 <| .nil) 8 (.e 5 <| .q 9 <| .r 11 <| .nil))) 10 (.f 5 (.e 7 <| .e 8 <| .q 9 <| .r 11 <| .nil) 7 (.f 5 (.e 8 <| .q 9 <| .r 11 <| .nil) 8 (.e 5 <| .q 9 <| .r 11 <| .nil)))); exact Tryz.mixed; decide +kernel) | (apply G.fork3) | (apply G.fork) | (apply G.sliceL (d := 13); rfl; rfl; rfl; rfl; rfl; rfl; rfl; rfl; intro Br) | (apply G.sliceL (d := 15); rfl; rfl; rfl; rfl; rfl; rfl; rfl; rfl; intro Bi) | (apply G.cN (g := 56) (fun a' c' => .slice a' 3 c') (((exG n).map rI).map qF); rfl; rfl; exact fun w' hw' => hits _ _ w' (blkSlA (f := isV) (l := exG n) hw' isV_len (by exact mm)).1; intro ga gc hp1 hq1) | (apply J.regQ; exact Tryz.mixed; decide +kernel) | (apply J.regL'; exact Tryz.mixed; decide +kernel)) <;> (refine goR ?_; and_intros <;> (try exact trivial) <;> repeat (first | refine fun (Bk : Nat) => ?_ | intro h)))
    all_goals exact J.finS (hk Bk Br ga gc)
  · intro ⟨B5, Br, ga, gc⟩
    dsimp only
    all_goals (refine goR ?_; and_intros <;> (try exact trivial) <;> repeat (first | refine fun (Bk : Nat) => ?_ | intro h))
    repeat' ((first | (apply J.regS (.blk B5 25 [.slice (some ⟨Br, 0, none⟩) 3 3, .slice ga 3 gc] 2 :: .blk Br 183 (flat rcV (exR Bs)) 6 :: slRow w0.heap.size ga 3 (((exG n).map rI).map qF) :: .blk Bs 3 [.int .i64 1] 1 :: M) (.q 0 <| .q 1 <| .q 2 <| .q 3 <| .q 4 <| .q 5 <| .q 6 <| .q 7 <| .q 8 <| .f 9 (.e 10 <| .q 11 <| .nil) 10 (.e 9 <| .q 11 <| .nil)); exact Tryz.mixed; decide +kernel; (repeat' (first | exact List.Sublist.refl _ | apply List.Sublist.cons_cons | apply List.Sublist.cons))) | (apply G.forkS) | (apply G.cV (g := 58) (vs := [.int .i64 5]); rfl; rfl; exact fun w' _ => i5 w') | (apply G.cV (g := 58) (vs := [.int .i64 4]); rfl; rfl; exact fun w' _ => i4 w') | (apply G.cV (g := 58) (vs := [.int .i64 3]); rfl; rfl; exact fun w' _ => i3 w') | (apply G.sliceL (out := [.int .i64 2, .int .i64 1, .bool s5, .string (bs u5), .string (bs v5), .int .i64 0, .int .i64 2, .bool s4, .string (bs u4), .string (bs v4), .int .i64 1, .int .i64 2, .bool s4, .string (bs u4), .string (bs v4), .int .i64 0, .int .i64 3, .bool s3, .string (bs u3), .string (bs v3)]); rfl; rfl; rfl; rfl; rfl; rfl; rfl; kernel_rfl; intro Bc) | (apply G.sAO (vs := [.slice (some ⟨Br, 0, none⟩) 3 3, .slice ga 3 gc]); rfl; rfl; rfl; (repeat (first | exact RAt.head | apply RAt.tail)); rfl; rfl; exact Nat.le_of_ble_eq_true rfl; rfl; (repeat' (first | exact List.Sublist.refl _ | apply List.Sublist.cons_cons | apply List.Sublist.cons))) | (apply G.sAS (vs := [.slice (some ⟨Br, 0, none⟩) 3 3, .slice ga 3 gc]); rfl; rfl; rfl; rfl; (repeat (first | exact RAt.head | apply RAt.tail)); rfl; rfl; exact Nat.le_of_ble_eq_true rfl; rfl; (repeat' (first | exact List.Sublist.refl _ | apply List.Sublist.cons_cons | apply List.Sublist.cons))) | (apply J.regQ; exact Tryz.mixed; decide +kernel) | (apply J.regL'; exact Tryz.mixed; decide +kernel)) <;> (refine goR ?_; and_intros <;> (try exact trivial) <;> repeat (first | refine fun (Bk : Nat) => ?_ | intro h)))
    all_goals
      refine ret2 Tryz.func52 Tryz.results52 ?_
      exact fun w' hw' => ⟨(Bs, Br, ga, gc, Bc), rfl, hw'.forget (.cons_cons _ (.cons _ (.cons_cons _ (.cons_cons _ (.cons_cons _ (.cons _ (List.Sublist.refl _)))))))⟩
end Go.Proofs.YtcdgibkbbcekhaaGreatDoor
