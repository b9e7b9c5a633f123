/-
  Contracts of rivers: Parts of both; equal parts.
-/
import Derived.Test.YtceaamdomkjmlaaGreatDoorNA36
import Derived.ProofKit
set_option linter.unusedVariables false
set_option linter.unusedSimpArgs false
set_option linter.unusedSectionVars false
namespace Go.Sl
open Go.RowKit
variable {C : Ctx} {st : List (Nat × Value)} {M : List Row} {k : List Item} {q q' : Md} {all rest : List Oper} {d : Nat} {ty : TypeId} {pos : String} {after : Array Edge} {gd : Option (Nat × Bool)}
/-- A struct is not unlike itself. -/
theorem G.neE {T : TypeId} {x y : Operand} {yt : TypeId} {cs : Array Value} (hx : evS st x = some (.agg cs)) (hy : evS st y = some (.agg cs)) (hE : ∀ w, (Op.equal T (.agg cs) (.agg cs)).run C.P w = .ok true w) (hG : C.P.eqGuardType C.P.depth T = false) (hs : sideB all st gd d C.N q.calm = some q') (h : G q' C all ((d, .bool false) :: st) M rest k) :
    G q C all st M ({ dst := some d, op := .binOp .neq T x y yt, type := ty, pos, after, guard := gd } :: rest) k := by
  obtain ⟨g1, g2, g3⟩ := sideB_ok hs
  refine G.op (OpV.of fun ac w hf _ dst pos after guard => ?_) g1 rfl g2 g3 h
  have hg : (eqGuard .neq T x y (.agg cs) (.agg cs)).run C.P w = .ok () w := run_eqGuard_agg w .neq T x y _ _ hG
  have e : (binOp .neq T (.agg cs) (.agg cs)).run C.P w = .ok (.bool false) w := by
    show ((Op.equal T _ _).bind fun b => Sem.pure (Value.bool (!b))).run C.P w = _
    rw [Sem.run_bind', hE]; rfl
  simp only [execOp, hf.eval hx, hf.eval hy, Sem.run_bind, hg, e, Result.andThen_ok]; rfl
end Go.Sl
namespace Go.Proofs.YtceaamdomkjmlaaGreatDoor
open Go.RowKit Go.Sl Go.Num
theorem eqWt (s t : Int) (a : Bool) (x u : ByteArray) (w : World) : (Op.equal 83 (.agg #[.int .i64 s, .int .i64 t, .bool a, .string x, .string u]) (.agg #[.int .i64 s, .int .i64 t, .bool a, .string x, .string u])).run Tryz.prog w = .ok true w := by simp [go_sem, Op.equal, Op.maxDepth]
theorem eqgWt : Tryz.prog.eqGuardType Tryz.prog.depth 83 = false := by kernel_rfl
theorem sameParts_holds (a b : Option Addr) (tot : Int) (l : List Prt) (c d : Nat) (w : World) (hA : SlAt w a 5 (l.map (wV tot))) (hB : SlAt w b 5 (l.map (wV tot))) (hl : l.length ≤ 1000000000) :
    Calls Tryz.prog 29 #[.slice a l.length c, .slice b l.length d] w fun e w' => e = .returned (.bool true) ∧ Below w.heap.size w w' := by
  refine enterA [(0, .slice a l.length c), (1, .slice b l.length d)] Tryz.func29 Tryz.ntmps29 ?_
  all_goals (refine go ?_; and_intros <;> (try exact trivial) <;> repeat (first | refine fun (Bk : Nat) => ?_ | intro h))
  refine J.loop (c := _) (0 : Nat) (fun s => l.length - s) (fun s => [(0, .slice a l.length c), (1, .slice b l.length d), (5, .int .i64 s)]) (fun s => []) (fun s => s ≤ l.length) ?_ sbT sbL ?_
  · exact Nat.zero_le _
  intro i h1 ih
  by_cases hi : i < l.length
  · obtain ⟨ba, oa, rfl, hra⟩ := SlAt.all hA (by omega)
    obtain ⟨bb, ob, rfl, hrb⟩ := SlAt.all hB (by omega)
    have hr1 := hra i hi
    have hr2 := hrb i hi
    have ih := ih (i + 1) hi (by omega)
    clear hra hrb
    generalize l[i] = p at *
    obtain ⟨f, t, x⟩ := p
    dsimp only [wV] at hr1 hr2
    generalize rQ ((x : Rat) / (tot : Rat)) = Q at *
    obtain ⟨ng, nu, de⟩ := Q
    dsimp only [qV, List.cons_append, List.nil_append] at hr1 hr2
    all_goals (refine go ?_; and_intros <;> (try exact trivial) <;> repeat (first | refine fun (Bk : Nat) => ?_ | intro h))
    repeat' ((first | (apply G.neE; rfl; rfl; exact fun w => eqWt _ _ _ _ _ w; exact eqgWt; rfl)) <;> (refine go ?_; and_intros <;> (try exact trivial) <;> repeat (first | refine fun (Bk : Nat) => ?_ | intro h)))
    exact J.fin ih
  · skip
    all_goals (refine go ?_; and_intros <;> (try exact trivial) <;> repeat (first | refine fun (Bk : Nat) => ?_ | intro h))
    all_goals refine ret1b Tryz.func29 Tryz.results29 ?_
    all_goals rfl
/-- The parts of what passes a gauge that arrive at another one, or the error. -/
def partsE (l : List Rch) (fr to f t : Int) : List Prt × Int := if (alongE l fr to).2 ≠ 0 then ([], (alongE l fr to).2) else arrE (alongE l fr to).1 f t
theorem vParts_holds (a : Option Addr) (l : List Rch) (c : Nat) (fr to f t : Int) (w : World) (hA : SlAt w a 2 (l.map rcV)) (hK : KerAt w l) :
    Calls Tryz.prog 21 #[.slice a l.length c, .int .i64 fr, .int .i64 to, .agg #[.int .i64 f, .int .i64 t]] w (RetW (fun v => .tuple #[v, .int .i64 (partsE l fr to f t).2]) (sumL (alongE l fr to).1) w (partsE l fr to f t).1) := by
  have ha := fun w' (hb : Below w.heap.size w w') => vAlong_holds a l c fr to w' (hA.below hb) (hK.below hb)
  rw [partsE]
  generalize (alongE l fr to).1 = K at *
  generalize (alongE l fr to).2 = E at *
  by_cases h0 : E = 0
  · subst h0
    rw [if_neg (fun h => h rfl)]
    have hr := fun w' ka kc hk => vArrive_holds ka K kc f t w' hk
    generalize sumL K = tot at *
    generalize (arrE K f t).1 = L at *
    generalize (arrE K f t).2 = E2 at *
    refine enterA [(0, .slice a l.length c), (1, .int .i64 fr), (2, .int .i64 to), (3, .agg #[.int .i64 f, .int .i64 t])] Tryz.func21 Tryz.ntmps21 ?_
    all_goals (refine go ?_; and_intros <;> (try exact trivial) <;> repeat (first | refine fun (Bk : Nat) => ?_ | intro h))
    repeat' ((first | (apply G.cN (g := 19) (fun a' c' => .tuple #[.agg #[.slice a' K.length c'], .int .i64 0]) (K.map isV); rfl; rfl; exact fun w' hw' => ha w' hw'.below; intro a1 c1 hp1 hq1) | (apply G.cN (g := 60) (fun a' c' => .tuple #[.slice a' L.length c', .int .i64 E2]) (L.map (wV tot)); rfl; rfl; exact fun w' hw' => hr w' a1 c1 (hw'.sl (by exact mm)); intro a2 c2 hp2 hq2)) <;> (refine go ?_; and_intros <;> (try exact trivial) <;> repeat (first | refine fun (Bk : Nat) => ?_ | intro h)))
    (refine ret2 Tryz.func21 Tryz.results21 ?_; intro w' hw)
    exact ⟨a2, c2, rfl, hw.sl (by exact mm), hq2, hw.below⟩
  · rw [if_pos h0]
    dsimp only
    refine enterA [(0, .slice a l.length c), (1, .int .i64 fr), (2, .int .i64 to), (3, .agg #[.int .i64 f, .int .i64 t])] Tryz.func21 Tryz.ntmps21 ?_
    all_goals (refine go ?_; and_intros <;> (try exact trivial) <;> repeat (first | refine fun (Bk : Nat) => ?_ | intro h))
    repeat' ((first | (apply G.cN (g := 19) (fun a' c' => .tuple #[.agg #[.slice a' K.length c'], .int .i64 E]) (K.map isV); rfl; rfl; exact fun w' hw' => ha w' hw'.below; intro a1 c1 hp1 hq1)) <;> (refine go ?_; and_intros <;> (try exact trivial) <;> repeat (first | refine fun (Bk : Nat) => ?_ | intro h)))
    (refine ret2 Tryz.func21 Tryz.results21 ?_; intro w' hw)
    exact retW_nil (fun v => .tuple #[v, .int .i64 E]) _ hw.below
end Go.Proofs.YtceaamdomkjmlaaGreatDoor
/-
  Contracts of rivers: Inflow of both; equal inflows.
-/
namespace Go.Proofs.YtceaamdomkjmlaaGreatDoor
open Go.RowKit Go.Sl Go.Num
/-- What flows in from a gauge, in memory. -/
structure Ifl where
  g : Int
  L : List Prt
  tot : Int
  adr : Option Addr
  cap : Nat
def ifV (r : Ifl) : List Value := [.int .i64 r.g, .slice r.adr r.L.length r.cap]
theorem ifV_len (r : Ifl) : (ifV r).length = 2 := rfl
def ifL (r : Ifl) : List (List Value) := r.L.map (wV r.tot)
def coreI (r : Ifl) : Int × List Prt × Int := (r.g, r.L, r.tot)
/-- The inflows of some gauges, or the first error. -/
def infF (l : List Rch) (g f t : Int) : List (Int × List Prt × Int) → List Int → List (Int × List Prt × Int) × Int
  | out, [] => (out, 0)
  | out, u :: r => if (partsE l u g f t).2 ≠ 0 then ([], (partsE l u g f t).2) else infF l g f t (out ++ [(u, (partsE l u g f t).1, sumL (alongE l u g).1)]) r
def inflowE (l : List Rch) (g f t : Int) : List (Int × List Prt × Int) × Int := if errG l g ≠ 0 then ([], errG l g) else infF l g f t [] (aboveL l g)
abbrev RetF (G : List (Int × List Prt × Int)) (F : Value → Value) := RetN ifV 2 Ifl.adr 5 ifL (fun R => R.map coreI = G) (fun R a c => F (.slice a R.length c))
theorem retF_nil {w w' : World} (F : Value → Value) (hb : Below w.heap.size w w') : RetF [] F w (.returned (F (.slice none 0 0))) w' :=
  ⟨[], none, 0, rfl, rfl, ⟨SlAt.nil, fun r hr => by cases hr⟩, (fun p hp => by cases hp), (fun r hr => by cases hr), hb⟩
theorem retF_sat {w0 w : World} {M : List Row} {i j E base N : Nat} {a : Option Addr} {n c : Nat} {R : List Ifl} (hw : Sat w0 M w) (hm : M[i]? = some (.own base (.slice a n c) E 2 n (flat ifV R))) (hf : M[j]? = some (famRow N Ifl.adr 5 ifL R)) (hn : R.length = n) (hq : ∀ r ∈ R, ∀ p, r.adr = some p → w0.heap.size ≤ p.block) (F : Value → Value) : RetF (R.map coreI) F w0 (.returned (F (.slice a n c))) w := by
  have hmem := List.mem_of_getElem? hm
  exact ⟨R, a, c, rfl, by show _ = Ending.returned (F (.slice a R.length c)); rw [hn], ⟨SlAt.ofOwn ifV_len (hw.hold _ hmem) hn, hw.fam (List.mem_of_getElem? hf)⟩, fun p hp => ((hw.old _ hmem).2 p.block (by subst hp; rfl)).1, hq, hw.below⟩
theorem vInflow_holds (a : Option Addr) (l : List Rch) (c : Nat) (g f t : Int) (w : World) (hA : SlAt w a 2 (l.map rcV)) (hK : KerAt w l) :
    Calls Tryz.prog 23 #[.slice a l.length c, .int .i64 g, .agg #[.int .i64 f, .int .i64 t]] w (RetF (inflowE l g f t).1 (fun v => .tuple #[v, .int .i64 (inflowE l g f t).2]) w) := by
  have ha := fun w' (hb : Below w.heap.size w w') => vAbove_holds a l c g w' (hA.below hb) (hK.below hb)
  rw [inflowE]
  rw [aboveE] at ha
  by_cases h0 : errG l g = 0
  case neg =>
    rw [if_pos h0] at ha ⊢
    dsimp only at ha ⊢
    generalize errG l g = E at *
    refine enterA [(0, .slice a l.length c), (1, .int .i64 g), (2, .agg #[.int .i64 f, .int .i64 t])] Tryz.func23 Tryz.ntmps23 ?_
    all_goals (refine go ?_; and_intros <;> (try exact trivial) <;> repeat (first | refine fun (Bk : Nat) => ?_ | intro h))
    repeat' ((first | (apply G.cN (g := 13) (fun a' c' => .tuple #[.slice a' 0 c', .int .i64 E]) (([] : List Int).map isV); rfl; rfl; exact fun w' hw' => ha w' hw'.below; intro a1 c1 hp1 hq1)) <;> (refine go ?_; and_intros <;> (try exact trivial) <;> repeat (first | refine fun (Bk : Nat) => ?_ | intro h)))
    (refine ret2 Tryz.func23 Tryz.results23 ?_; intro w' hw)
    exact retF_nil (fun v => .tuple #[v, .int .i64 E]) hw.below
  rw [if_neg (fun h => h h0)] at ha ⊢
  have hul : (aboveL l g).length ≤ 40 := by
    have := abU_len l l.length g
    have := (riv_of (errG_ok h0).1).len
    rw [show aboveL l g = abU l l.length g from rfl]; omega
  dsimp only at ha
  generalize aboveL l g = U at *
  generalize hT : infF l g f t [] U = T
  obtain ⟨T1, T2⟩ := T
  dsimp only
  refine enterA [(0, .slice a l.length c), (1, .int .i64 g), (2, .agg #[.int .i64 f, .int .i64 t])] Tryz.func23 Tryz.ntmps23 ?_
  all_goals (refine go ?_; and_intros <;> (try exact trivial) <;> repeat (first | refine fun (Bk : Nat) => ?_ | intro h))
  repeat' ((first | (apply G.cN (g := 13) (fun a' c' => .tuple #[.slice a' U.length c', .int .i64 0]) (U.map isV); rfl; rfl; exact fun w' hw' => ha w' hw'.below; intro a1 c1 hp1 hq1)) <;> (refine go ?_; and_intros <;> (try exact trivial) <;> repeat (first | refine fun (Bk : Nat) => ?_ | intro h)))
  apply J.nilOwn (E := 99) (size := 2)
  apply J.fam0 Ifl.adr 5 ifL
  refine J.loop (c := _) ((0, [], (none, 0, 0)) : Nat × List Ifl × (Option Addr × Nat × Nat)) (fun s => U.length - s.1) (fun s => [(0, .slice a l.length c), (1, .int .i64 g), (5, .pointer (some ⟨_, 0, none⟩)), (10, .slice s.2.2.1 s.2.2.2.1 s.2.2.2.2), (24, .slice a1 U.length c1), (25, .int .i64 U.length), (26, .int .i64 s.1)]) (fun s => [famRow w.heap.size Ifl.adr 5 ifL s.2.1, .own 0 (.slice s.2.2.1 s.2.2.2.1 s.2.2.2.2) 99 2 s.2.2.2.1 (flat ifV s.2.1), slRow w.heap.size a1 1 (U.map isV), .blk _ 25 [.int .i64 f, .int .i64 t] 2]) (fun s => s.1 ≤ U.length ∧ s.2.2.2.1 = s.2.1.length ∧ infF l g f t (s.2.1.map coreI) (U.drop s.1) = (T1, T2) ∧ s.2.1.length = s.1 ∧ ∀ r ∈ s.2.1, ∀ p, r.adr = some p → w.heap.size ≤ p.block) ?_ sbT sbL ?_
  · exact ⟨Nat.zero_le _, rfl, hT, rfl, fun r hr => by cases hr⟩
  clear hT ha
  intro ⟨i, R, ⟨au, n, cu⟩⟩ ⟨i1, i2, i3, i4, i5⟩ ih
  dsimp only at i1 i2 i3 i4 i5 ⊢
  by_cases hi : i < U.length
  · obtain ⟨b1, o1, rfl⟩ := hp1 (by rw [List.length_map]; omega)
    have hgt := fun {C M} (hm : slRow w.heap.size (some ⟨b1, o1, none⟩) 1 (U.map isV) ∈ M) => CellV.sl0 (C := C) (M := M) (f := isV) (l := U) hm hi rfl
    rw [List.drop_eq_getElem_cons hi, infF] at i3
    have hp := fun w' (hb : Below w.heap.size w w') => vParts_holds a l c U[i] g f t w' (hA.below hb) (hK.below hb)
    have hap : ∀ (P : List Prt) (tot : Int) (a2 : Option Addr) (c2 : Nat), flat ifV R ++ ifV ⟨U[i], P, tot, a2, c2⟩ = flat ifV (R ++ [⟨U[i], P, tot, a2, c2⟩]) := fun P tot a2 c2 => flat1 ifV R ⟨U[i], P, tot, a2, c2⟩
    have ih := fun (P : List Prt) (tot : Int) (a2 : Option Addr) (c2 : Nat) (h : infF l g f t (R.map coreI ++ [(U[i], P, tot)]) (U.drop (i + 1)) = (T1, T2)) (hq : ∀ p, a2 = some p → w.heap.size ≤ p.block) (x3 : Option Addr × Nat × Nat) (hx : x3.2.1 = n + 1) => ih (i + 1, R ++ [⟨U[i], P, tot, a2, c2⟩], x3) ⟨hi, by dsimp only; rw [hx, List.length_append, i2]; rfl, by dsimp only; rw [List.map_append]; exact h, by dsimp only; rw [List.length_append, i4]; rfl, fun r hr p hp => by
      rcases List.mem_append.1 hr with hr | hr
      · exact i5 r hr p hp
      · rw [List.mem_singleton.1 hr] at hp; exact hq p hp⟩ (by dsimp only; omega)
    generalize U[i] = u at *
    generalize sumL (alongE l u g).1 = tot at *
    have hap := hap (partsE l u g f t).1 tot
    have ih := ih (partsE l u g f t).1 tot
    generalize (partsE l u g f t).1 = P at *
    generalize (partsE l u g f t).2 = E at *
    by_cases he : E = 0
    · rw [if_neg (fun h => h he)] at i3
      have ih := fun a2 c2 => ih a2 c2 i3
      dsimp only [ifV] at hap
      all_goals (refine go ?_; and_intros <;> (try exact trivial) <;> repeat (first | refine fun (Bk : Nat) => ?_ | intro h))
      repeat' ((first | (apply G.ld; rfl; (apply LdV.one; exact hgt (by exact mm)); rfl) | (apply G.cN (g := 21) (fun a' c' => .tuple #[.slice a' P.length c', .int .i64 E]) (P.map (wV tot)); rfl; rfl; exact fun w' hw' => hp w' hw'.below; intro a2 c2 hp2 hq2) | (apply G.sliceL; rfl; rfl; rfl; rfl; rfl; rfl; rfl; rfl; intro Bs) | (apply G.apV; rfl; rfl; rfl; (repeat (first | exact RAt.head | apply RAt.tail)); exact SrcV.blk (by exact mm) rfl rfl; exact hap _ _; omega; omega; intro a3 c3)) <;> (refine go ?_; and_intros <;> (try exact trivial) <;> repeat (first | refine fun (Bk : Nat) => ?_ | intro h)))
      refine J.famAdd (r := (⟨u, P, tot, a2, c2⟩ : Ifl)) (o := R) mm mm ?_
      exact J.finS (ih a2 c2 hq2 (a3, n + 1, c3) rfl)
    · rw [if_pos he] at i3
      have e1 : [] = T1 := (Prod.mk.inj i3).1
      have e2 : E = T2 := (Prod.mk.inj i3).2
      subst e1 e2
      clear ih i3
      all_goals (refine go ?_; and_intros <;> (try exact trivial) <;> repeat (first | refine fun (Bk : Nat) => ?_ | intro h))
      repeat' ((first | (apply G.ld; rfl; (apply LdV.one; exact hgt (by exact mm)); rfl) | (apply G.cN (g := 21) (fun a' c' => .tuple #[.slice a' P.length c', .int .i64 E]) (P.map (wV tot)); rfl; rfl; exact fun w' hw' => hp w' hw'.below; intro a2 c2 hp2 hq2)) <;> (refine go ?_; and_intros <;> (try exact trivial) <;> repeat (first | refine fun (Bk : Nat) => ?_ | intro h)))
      (refine ret2 Tryz.func23 Tryz.results23 ?_; intro w' hw)
      exact retF_nil (fun v => .tuple #[v, .int .i64 E]) hw.below
  · rw [show U.drop i = [] from List.drop_eq_nil_of_le (by omega), infF] at i3
    cases i3
    clear ih
    all_goals (refine go ?_; and_intros <;> (try exact trivial) <;> repeat (first | refine fun (Bk : Nat) => ?_ | intro h))
    (refine ret2 Tryz.func23 Tryz.results23 ?_; intro w' hw)
    exact retF_sat hw (i := 1) (j := 0) rfl rfl i2.symm i5 fun v => .tuple #[v, .int .i64 0]
theorem sameFlows_holds (a b : Option Addr) (R S : List Ifl) (c d : Nat) (w : World) (hA : NstAt ifV 2 Ifl.adr 5 ifL w a R) (hB : NstAt ifV 2 Ifl.adr 5 ifL w b S) (hs : R.map coreI = S.map coreI) (hl : R.length ≤ 1000000 ∧ ∀ r ∈ R, r.L.length ≤ 1000000000) :
    Calls Tryz.prog 30 #[.slice a R.length c, .slice b S.length d] w fun e w' => e = .returned (.bool true) ∧ Below w.heap.size w w' := by
  have hlen : S.length = R.length := by
    have := congrArg List.length hs
    simpa using this.symm
  refine enterA [(0, .slice a R.length c), (1, .slice b S.length d)] Tryz.func30 Tryz.ntmps30 ?_
  all_goals (refine go ?_; and_intros <;> (try exact trivial) <;> repeat (first | refine fun (Bk : Nat) => ?_ | intro h))
  refine J.loop (c := _) (0 : Nat) (fun s => R.length - s) (fun s => [(0, .slice a R.length c), (1, .slice b S.length d), (5, .int .i64 s)]) (fun s => []) (fun s => s ≤ R.length) ?_ sbT sbL ?_
  · exact Nat.zero_le _
  intro i h1 ih
  by_cases hi : i < R.length
  · have hi2 : i < S.length := by omega
    obtain ⟨ba, oa, rfl, hra⟩ := SlAt.all hA.out (by omega)
    obtain ⟨bb, ob, rfl, hrb⟩ := SlAt.all hB.out (by omega)
    have hr1 := hra i hi
    have hr2 := hrb i hi2
    have ih := ih (i + 1) hi (by omega)
    have hc : coreI R[i] = coreI S[i] := by
      have := congrArg (·[i]?) hs
      simpa [hi, hi2] using this
    have k1 := hA.inn _ (List.getElem_mem hi)
    have k2 := hB.inn _ (List.getElem_mem hi2)
    have k3 := hl.2 _ (List.getElem_mem hi)
    clear hra hrb
    generalize R[i] = r at *
    generalize S[i] = s at *
    obtain ⟨g1, L1, t1, a1, c1⟩ := r
    obtain ⟨g2, L2, t2, a2, c2⟩ := s
    dsimp only [coreI] at hc
    obtain ⟨e1, hc2⟩ := Prod.mk.inj hc
    obtain ⟨e2, e3⟩ := Prod.mk.inj hc2
    subst e1 e2 e3
    clear hc hc2
    dsimp only [ifV, ifL] at hr1 hr2 k1 k2 k3
    have hsp := fun w' (hb : Below w.heap.size w w') => sameParts_holds a1 a2 t1 L1 c1 c2 w' (k1.below hb) (k2.below hb) k3
    all_goals (refine go ?_; and_intros <;> (try exact trivial) <;> repeat (first | refine fun (Bk : Nat) => ?_ | intro h))
    repeat' ((first | (apply G.cV (g := 29); rfl; rfl; exact fun w' hw' => hsp w' hw'.below)) <;> (refine go ?_; and_intros <;> (try exact trivial) <;> repeat (first | refine fun (Bk : Nat) => ?_ | intro h)))
    exact J.fin ih
  · skip
    all_goals (refine go ?_; and_intros <;> (try exact trivial) <;> repeat (first | refine fun (Bk : Nat) => ?_ | intro h))
    all_goals refine ret1b Tryz.func30 Tryz.results30 ?_
    all_goals rfl
end Go.Proofs.YtceaamdomkjmlaaGreatDoor
/-
  Contracts: equality and search in lists of numbers; what the law's examples are made of.
-/
namespace Go.Proofs.YtceaamdomkjmlaaGreatDoor
open Go.RowKit Go.Sl Go.Num
theorem equalI_holds (a b : Option Addr) (l m : List Int) (c d : Nat) (w : World) (hA : SlAt w a 1 (l.map isV)) (hB : SlAt w b 1 (m.map isV)) (hn : l.length ≤ 1000000000) :
    Calls Tryz.prog 35 #[.slice a l.length c, .slice b m.length d] w fun e w' => e = .returned (.bool (decide (l = m))) ∧ Below w.heap.size w w' := by
  refine enterA [(0, .slice a l.length c), (1, .slice b m.length d)] Tryz.func35 Tryz.ntmps35 ?_
  by_cases hl : l.length = m.length
  case neg =>
    rw [decide_eq_false (fun e => hl (by rw [e]))]
    all_goals (refine go ?_; and_intros <;> (try exact trivial) <;> repeat (first | refine fun (Bk : Nat) => ?_ | intro h))
    all_goals refine ret1b Tryz.func35 Tryz.results35 ?_
    all_goals rfl
  all_goals (refine go ?_; and_intros <;> (try exact trivial) <;> repeat (first | refine fun (Bk : Nat) => ?_ | intro h))
  refine J.loop (c := _) (0 : Nat) (fun s => l.length - s) (fun s => [(0, .slice a l.length c), (1, .slice b m.length d), (12, .int .i64 l.length), (13, .int .i64 s)]) (fun s => []) (fun s => s ≤ l.length ∧ ∀ i (h : i < l.length) (h2 : i < m.length), i < s → l[i] = m[i]) ?_ sbT sbL ?_
  · exact ⟨Nat.zero_le _, fun i _ _ h => absurd h (Nat.not_lt_zero _)⟩
  intro i ⟨h1, h2⟩ ih
  by_cases hi : i < l.length
  · have hj : i < m.length := by omega
    obtain ⟨ba, oa, rfl, hra⟩ := SlAt.all hA (by omega)
    obtain ⟨bb, ob, rfl, hrb⟩ := SlAt.all hB (by omega)
    have hri := hra i hi
    have hrj := hrb i hj
    by_cases he : l[i] = m[i]
    · have ih := ih (i + 1) ⟨hi, fun j q1 q2 q3 => by
        rcases Nat.lt_or_ge j i with h | h
        · exact h2 j q1 q2 h
        · obtain rfl : j = i := by omega
          exact he⟩ (by omega)
      clear hra hrb h2
      generalize l[i] = y at *
      generalize m[i] = z at *
      dsimp only [isV] at hri hrj
      all_goals (refine go ?_; and_intros <;> (try exact trivial) <;> repeat (first | refine fun (Bk : Nat) => ?_ | intro h))
      exact J.fin ih
    · rw [decide_eq_false (fun e => he (by subst e; rfl))]
      clear hra hrb h2 ih
      generalize l[i] = y at *
      generalize m[i] = z at *
      dsimp only [isV] at hri hrj
      all_goals (refine go ?_; and_intros <;> (try exact trivial) <;> repeat (first | refine fun (Bk : Nat) => ?_ | intro h))
      all_goals refine ret1b Tryz.func35 Tryz.results35 ?_
      all_goals rfl
  · obtain rfl : i = l.length := by omega
    rw [decide_eq_true (eq_all hl h2)]
    clear ih
    all_goals (refine go ?_; and_intros <;> (try exact trivial) <;> repeat (first | refine fun (Bk : Nat) => ?_ | intro h))
    all_goals refine ret1b Tryz.func35 Tryz.results35 ?_
    all_goals rfl
theorem index_ne {L : List Int} {x : Int} {i : Nat} (h : ∀ j (hj : j < L.length), j < i → L[j] ≠ x) (hi : L.length ≤ i) : x ∉ L := fun hm => by
  obtain ⟨j, hj, rfl⟩ := List.getElem_of_mem hm
  exact h j hj (by omega) rfl
/-- Where a number stands in a list, or -1. -/
theorem indexI_holds (a : Option Addr) (L : List Int) (c : Nat) (x : Int) (w : World) (hA : SlAt w a 1 (L.map isV)) (hl : L.length ≤ 1000000000) :
    Calls Tryz.prog 64 #[.slice a L.length c, .int .i64 x] w fun e w' => ∃ z : Int, (0 ≤ z ↔ x ∈ L) ∧ e = .returned (.int .i64 z) ∧ Below w.heap.size w w' := by
  refine enterA [(0, .slice a L.length c), (1, .int .i64 x)] Tryz.func64 Tryz.ntmps64 ?_
  all_goals (refine go ?_; and_intros <;> (try exact trivial) <;> repeat (first | refine fun (Bk : Nat) => ?_ | intro h))
  refine J.loop (c := _) (0 : Nat) (fun s => L.length - s) (fun s => [(0, .slice a L.length c), (1, .int .i64 x), (7, .int .i64 L.length), (8, .int .i64 s)]) (fun s => []) (fun s => s ≤ L.length ∧ ∀ j (hj : j < L.length), j < s → L[j] ≠ x) ?_ sbT sbL ?_
  · exact ⟨Nat.zero_le _, fun j hj h => absurd h (Nat.not_lt_zero _)⟩
  intro i ⟨h1, h2⟩ ih
  by_cases hi : i < L.length
  · obtain ⟨ba, oa, rfl, hra⟩ := SlAt.all hA (by omega)
    have hri := hra i hi
    have hm := List.getElem_mem hi
    have ih := fun (h : L[i] ≠ x) => ih (i + 1) ⟨hi, fun j hj h3 => by
      rcases Nat.lt_or_ge j i with h4 | h4
      · exact h2 j hj h4
      · obtain rfl : j = i := by omega
        exact h⟩ (by omega)
    clear hra h2
    generalize L[i] = y at *
    dsimp only [isV] at hri
    by_cases he : x = y
    · subst he
      clear ih
      all_goals (refine go ?_; and_intros <;> (try exact trivial) <;> repeat (first | refine fun (Bk : Nat) => ?_ | intro h))
      refine ret1 Tryz.func64 Tryz.results64 fun w' hw => ⟨i, ⟨fun _ => hm, fun _ => by omega⟩, rfl, hw.below⟩
    · have ih := ih fun h => he h.symm
      all_goals (refine go ?_; and_intros <;> (try exact trivial) <;> repeat (first | refine fun (Bk : Nat) => ?_ | intro h))
      exact J.fin ih
  · have hn := index_ne h2 (by omega)
    clear ih
    all_goals (refine go ?_; and_intros <;> (try exact trivial) <;> repeat (first | refine fun (Bk : Nat) => ?_ | intro h))
    refine ret1 Tryz.func64 Tryz.results64 fun w' hw => ⟨-1, ⟨fun h => by omega, fun h => absurd h hn⟩, rfl, hw.below⟩
theorem containsI_holds (a : Option Addr) (L : List Int) (c : Nat) (x : Int) (w : World) (hA : SlAt w a 1 (L.map isV)) (hl : L.length ≤ 1000000000) :
    Calls Tryz.prog 32 #[.slice a L.length c, .int .i64 x] w fun e w' => e = .returned (.bool (decide (x ∈ L))) ∧ Below w.heap.size w w' := by
  have hc := fun w' (hb : Below w.heap.size w w') => indexI_holds a L c x w' (hA.below hb) hl
  refine enterA [(0, .slice a L.length c), (1, .int .i64 x)] Tryz.func32 Tryz.ntmps32 ?_
  by_cases hm : x ∈ L
  · rw [decide_eq_true hm]
    all_goals (refine go ?_; and_intros <;> (try exact trivial) <;> repeat (first | refine fun (Bk : Nat) => ?_ | intro h))
    repeat' ((first | (refine G.cX (X := { z : Int // 0 ≤ z ↔ x ∈ L }) (v := fun z => .int .i64 z.1) (fun w' hb => (hc w' hb).mono fun e w2 ⟨z, h1, h2, h3⟩ => ⟨⟨z, h1⟩, h2, h3⟩) ?_; rintro ⟨z, hz⟩; have hz := hz.2 hm; dsimp only)) <;> (refine go ?_; and_intros <;> (try exact trivial) <;> repeat (first | refine fun (Bk : Nat) => ?_ | intro h)))
    all_goals refine ret1b Tryz.func32 Tryz.results32 ?_
    all_goals rfl
  · rw [decide_eq_false hm]
    all_goals (refine go ?_; and_intros <;> (try exact trivial) <;> repeat (first | refine fun (Bk : Nat) => ?_ | intro h))
    repeat' ((first | (refine G.cX (X := { z : Int // 0 ≤ z ↔ x ∈ L }) (v := fun z => .int .i64 z.1) (fun w' hb => (hc w' hb).mono fun e w2 ⟨z, h1, h2, h3⟩ => ⟨⟨z, h1⟩, h2, h3⟩) ?_; rintro ⟨z, hz⟩; have hz : z < 0 := Int.not_le.1 fun h => hm (hz.1 h); dsimp only)) <;> (refine go ?_; and_intros <;> (try exact trivial) <;> repeat (first | refine fun (Bk : Nat) => ?_ | intro h)))
    all_goals refine ret1b Tryz.func32 Tryz.results32 ?_
    all_goals rfl
theorem weights_holds (v : Value) (w : World) (hv : ∃ a n c, v = .slice a n c) : Calls Tryz.prog 46 #[v] w fun e w' => e = .returned (.agg #[v]) ∧ Below w.heap.size w w' := by
  obtain ⟨a, n, c, rfl⟩ := hv
  refine enterA [(0, .slice a n c)] Tryz.func46 Tryz.ntmps46 ?_
  all_goals (refine go ?_; and_intros <;> (try exact trivial) <;> repeat (first | refine fun (Bk : Nat) => ?_ | intro h))
  all_goals refine ret1b Tryz.func46 Tryz.results46 ?_
  all_goals rfl
theorem part_holds (f t den : Int) (w : World) (h1 : 0 < den) (h2 : den ≤ 999999999999999) : Calls Tryz.prog 48 #[.int .i64 f, .int .i64 t, .int .i64 den] w fun e w' => e = .returned (.agg (wV den (f, t, 1)).toArray) ∧ Below w.heap.size w w' := by
  have hm := fun w' (_ : Below w.heap.size w w') => make_holds 1 den w' (by decide) (by decide) (by omega) h2 (by omega)
  unfold wV
  dsimp only
  generalize rQ (((1 : Int) : Rat) / (den : Rat)) = Q at *
  refine enterA [(0, .int .i64 f), (1, .int .i64 t), (2, .int .i64 den)] Tryz.func48 Tryz.ntmps48 ?_
  all_goals (refine go ?_; and_intros <;> (try exact trivial) <;> repeat (first | refine fun (Bk : Nat) => ?_ | intro h))
  repeat' ((first | (refine G.cvb hm ?_)) <;> (refine go ?_; and_intros <;> (try exact trivial) <;> repeat (first | refine fun (Bk : Nat) => ?_ | intro h)))
  all_goals refine ret1b Tryz.func48 Tryz.results48 ?_
  all_goals rfl
/-- A list without an error that is the expected one. -/
theorem is_holds (a b : Option Addr) (l : List Int) (c d : Nat) (w : World) (hA : SlAt w a 1 (l.map isV)) (hB : SlAt w b 1 (l.map isV)) (hn : l.length ≤ 1000000000) :
    Calls Tryz.prog 47 #[.slice a l.length c, .int .i64 0, .slice b l.length d] w fun e w' => e = .returned (.bool true) ∧ Below w.heap.size w w' := by
  have he := fun w' (hb : Below w.heap.size w w') => equalI_holds a b l l c d w' (hA.below hb) (hB.below hb) hn
  rw [decide_eq_true rfl] at he
  refine enterA [(0, .slice a l.length c), (1, .int .i64 0), (2, .slice b l.length d)] Tryz.func47 Tryz.ntmps47 ?_
  all_goals (refine go ?_; and_intros <;> (try exact trivial) <;> repeat (first | refine fun (Bk : Nat) => ?_ | intro h))
  repeat' ((first | (refine G.cvb he ?_)) <;> (refine go ?_; and_intros <;> (try exact trivial) <;> repeat (first | refine fun (Bk : Nat) => ?_ | intro h)))
  all_goals refine ret1b Tryz.func47 Tryz.results47 ?_
  all_goals rfl
end Go.Proofs.YtceaamdomkjmlaaGreatDoor
/-
  The law's example rivers, and what is reckoned of them.
-/
namespace Go.Proofs.YtceaamdomkjmlaaGreatDoor
open Go.RowKit Go.Sl Go.Num
/-- The river of the documentation. -/
def exL (a0 a1 a2 a3 : Option Addr) (c0 c1 c2 c3 : Nat) : List Rch := [⟨2, [1, 1], a0, c0⟩, ⟨2, [0, 1], a1, c1⟩, ⟨4, [1, 0, 1], a2, c2⟩, ⟨4, [1], a3, c3⟩, ⟨-1, [], none, 0⟩]
def exL2 (a0 a2 : Option Addr) (c0 c2 : Nat) : List Rch := [⟨2, [1], a0, c0⟩, ⟨-1, [], none, 0⟩, ⟨1, [1], a2, c2⟩]
section
variable (a0 a1 a2 a3 : Option Addr) (c0 c1 c2 c3 : Nat)
theorem ex_riv : rivErr (exL a0 a1 a2 a3 c0 c1 c2 c3) = 0 := by kernel_rfl
theorem ex_p1 : pathE (exL a0 a1 a2 a3 c0 c1 c2 c3) 0 4 = ([0, 2, 4], 0) := by kernel_rfl
theorem ex_p2 : pathE (exL a0 a1 a2 a3 c0 c1 c2 c3) 2 2 = ([2], 0) := by kernel_rfl
theorem ex_p3 : pathE (exL a0 a1 a2 a3 c0 c1 c2 c3) 3 2 = ([], 8) := by kernel_rfl
theorem ex_ab : aboveE (exL a0 a1 a2 a3 c0 c1 c2 c3) 4 = ([2, 3], 0) := by kernel_rfl
theorem ex_ba : basinE (exL a0 a1 a2 a3 c0 c1 c2 c3) 4 = ([0, 1, 2, 3], 0) := by kernel_rfl
theorem ex_or : ordE (exL a0 a1 a2 a3 c0 c1 c2 c3) = ([0, 1, 2, 3, 4], 0) := by kernel_rfl
theorem ex_or2 : ordE (exL2 a0 a2 c0 c2) = ([0, 2, 1], 0) := by kernel_rfl
theorem ex_a1 : alongE (exL a0 a1 a2 a3 c0 c1 c2 c3) 0 4 = ([1, 1, 1, 1], 0) := by kernel_rfl
theorem ex_a2 : alongE (exL a0 a1 a2 a3 c0 c1 c2 c3) 1 4 = ([0, 1, 0, 1], 0) := by kernel_rfl
theorem ex_a3 : alongE (exL a0 a1 a2 a3 c0 c1 c2 c3) 3 3 = ([1], 0) := by kernel_rfl
theorem ex_pa : partsE (exL a0 a1 a2 a3 c0 c1 c2 c3) 0 4 10 12 = ([(7, 8, 1), (8, 11, 2), (11, 12, 1)], 0) := by kernel_rfl
theorem ex_in : inflowE (exL a0 a1 a2 a3 c0 c1 c2 c3) 2 10 11 = ([(0, [(9, 11, 1)], 2), (1, [(9, 10, 1)], 1)], 0) := by kernel_rfl
end
def krL (r : Rch) : List (List Value) := r.ws.map isV
abbrev RetR (P : List Rch → Prop) (F : Value → Value) := RetN rcV 2 Rch.adr 1 krL P (fun R a c => F (.slice a R.length c))
theorem example_holds (w : World) : Calls Tryz.prog 45 #[] w (RetR (fun L => ∃ a0 a1 a2 a3 c0 c1 c2 c3, L = exL a0 a1 a2 a3 c0 c1 c2 c3) (fun v => v) w) := by
  refine enterA [] Tryz.func45 Tryz.ntmps45 ?_
  all_goals (refine go ?_; and_intros <;> (try exact trivial) <;> repeat (first | refine fun (Bk : Nat) => ?_ | intro h))
  repeat' ((first | (apply G.sliceL; rfl; rfl; rfl; rfl; rfl; rfl; rfl; rfl; intro Bs) | (apply G.cV (g := 46); rfl; rfl; exact fun w' _ => weights_holds _ w' ⟨_, _, _, rfl⟩)) <;> (refine go ?_; and_intros <;> (try exact trivial) <;> repeat (first | refine fun (Bk : Nat) => ?_ | intro h)))
  rename_i b0 b1 b2 b3
  (refine ret1 Tryz.func45 Tryz.results45 ?_; intro w' hw)
  have h0 := blkSlA (f := isV) (sz := 1) (b := b0) (l := [1, 1]) hw isV_len
  have h1 := blkSlA (f := isV) (sz := 1) (b := b1) (l := [0, 1]) hw isV_len
  have h2 := blkSlA (f := isV) (sz := 1) (b := b2) (l := [1, 0, 1]) hw isV_len
  have h3 := blkSlA (f := isV) (sz := 1) (b := b3) (l := [1]) hw isV_len
  have h4 := blkSlA (f := rcV) (sz := 2) (b := Bs) (l := exL (some ⟨b0, 0, none⟩) (some ⟨b1, 0, none⟩) (some ⟨b2, 0, none⟩) (some ⟨b3, 0, none⟩) 2 2 3 1) hw rcV_len
  refine ⟨exL (some ⟨b0, 0, none⟩) (some ⟨b1, 0, none⟩) (some ⟨b2, 0, none⟩) (some ⟨b3, 0, none⟩) 2 2 3 1, some ⟨Bs, 0, none⟩, 5, ⟨_, _, _, _, _, _, _, _, rfl⟩, rfl, ⟨h4.1, fun r hr => ?_⟩, fun p hp => by cases hp; exact h4.2, fun r hr p hp => ?_, hw.below⟩
  all_goals
    simp only [exL, List.mem_cons, List.not_mem_nil, or_false] at hr
    rcases hr with rfl | rfl | rfl | rfl | rfl
  · exact h0.1
  · exact h1.1
  · exact h2.1
  · exact h3.1
  · exact SlAt.nil
  · cases hp; exact h0.2
  · cases hp; exact h1.2
  · cases hp; exact h2.2
  · cases hp; exact h3.2
  · cases hp
end Go.Proofs.YtceaamdomkjmlaaGreatDoor
/-
  Contract: the law's examples hold.
-/
namespace Go.Proofs.YtceaamdomkjmlaaGreatDoor
open Go.RowKit Go.Sl Go.Num
/-- A part with its number. -/
def fV (p : Int × Int × Q3) : List Value := [.int .i64 p.1, .int .i64 p.2.1] ++ qV p.2.2
theorem fV_len (p : Int × Int × Q3) : (fV p).length = 5 := rfl
set_option maxHeartbeats 4000000 in
theorem sanity32_holds (w : World) : Calls Tryz.prog 10 #[] w fun e w' => e = .returned (.bool true) ∧ Below w.heap.size w w' := by
  have p2 := fun w' => part_holds 9 11 2 w' (by decide) (by decide)
  have p1 := fun w' => part_holds 9 10 1 w' (by decide) (by decide)
  have p3 := fun w' => part_holds 7 8 4 w' (by decide) (by decide)
  have p4 := fun w' => part_holds 8 11 2 w' (by decide) (by decide)
  have p5 := fun w' => part_holds 11 12 4 w' (by decide) (by decide)
  have e24 : rQ (((2 : Int) : Rat) / ((4 : Int) : Rat)) = rQ (((1 : Int) : Rat) / ((2 : Int) : Rat)) := congrArg rQ (by decide +kernel)
  have hm4 : ([(7, 8, 1), (8, 11, 2), (11, 12, 1)] : List Prt).map (wV 4) = [(7, 8, rQ (((1 : Int) : Rat) / ((4 : Int) : Rat))), (8, 11, rQ (((1 : Int) : Rat) / ((2 : Int) : Rat))), (11, 12, rQ (((1 : Int) : Rat) / ((4 : Int) : Rat)))].map fV := by
    simp only [List.map_cons, List.map_nil, wV, fV, e24]
  have hm2 : ([(9, 11, 1)] : List Prt).map (wV 2) = [(9, 11, rQ (((1 : Int) : Rat) / ((2 : Int) : Rat)))].map fV := rfl
  have hm1 : ([(9, 10, 1)] : List Prt).map (wV 1) = [(9, 10, rQ (((1 : Int) : Rat) / ((1 : Int) : Rat)))].map fV := rfl
  unfold wV at p1 p2 p3 p4 p5
  dsimp only at p1 p2 p3 p4 p5
  clear e24
  generalize rQ (((1 : Int) : Rat) / ((2 : Int) : Rat)) = q2 at *
  generalize rQ (((1 : Int) : Rat) / ((4 : Int) : Rat)) = q4 at *
  generalize rQ (((1 : Int) : Rat) / ((1 : Int) : Rat)) = q1 at *
  refine enterA [] Tryz.func10 Tryz.ntmps10 ?_
  all_goals (refine go ?_; and_intros <;> (try exact trivial) <;> repeat (first | refine fun (Bk : Nat) => ?_ | intro h))
  repeat' ((first | (apply G.cNst (g := 45) (f := rcV) (sz := 2) (adr := Rch.adr) (sz2 := 1) (F2 := krL) (fun R a' c' => .slice a' R.length c') (fun L => ∃ a0 a1 a2 a3 c0 c1 c2 c3, L = exL a0 a1 a2 a3 c0 c1 c2 c3); rfl; rfl; exact fun w' _ => example_holds w'; rintro L a1 c1 ⟨x0, x1, x2, x3, y0, y1, y2, y3, hL⟩ hq1 hq2; rw [show L.length = 5 from by rw [hL]; rfl])) <;> (refine go ?_; and_intros <;> (try exact trivial) <;> repeat (first | refine fun (Bk : Nat) => ?_ | intro h)))
  have hl5 : L.length = 5 := by rw [hL]; rfl
  have E1 := ex_p1 x0 x1 x2 x3 y0 y1 y2 y3
  have E2 := ex_p2 x0 x1 x2 x3 y0 y1 y2 y3
  have E3 := ex_p3 x0 x1 x2 x3 y0 y1 y2 y3
  have E4 := ex_ab x0 x1 x2 x3 y0 y1 y2 y3
  have E5 := ex_ba x0 x1 x2 x3 y0 y1 y2 y3
  have E6 := ex_or x0 x1 x2 x3 y0 y1 y2 y3
  have E7 := ex_a1 x0 x1 x2 x3 y0 y1 y2 y3
  have E8 := ex_a2 x0 x1 x2 x3 y0 y1 y2 y3
  have E9 := ex_a3 x0 x1 x2 x3 y0 y1 y2 y3
  have EA := ex_pa x0 x1 x2 x3 y0 y1 y2 y3
  have EB := ex_in x0 x1 x2 x3 y0 y1 y2 y3
  have EC := ex_riv x0 x1 x2 x3 y0 y1 y2 y3
  rw [← hL] at E1 E2 E3 E4 E5 E6 E7 E8 E9 EA EB EC
  clear hL
  have H1 := fun w' (h : NstAt rcV 2 Rch.adr 1 krL w' a1 L) => vPath_holds a1 L c1 0 4 w' h.out h.inn
  have H2 := fun w' (h : NstAt rcV 2 Rch.adr 1 krL w' a1 L) => vPath_holds a1 L c1 2 2 w' h.out h.inn
  have H3 := fun w' (h : NstAt rcV 2 Rch.adr 1 krL w' a1 L) => vPath_holds a1 L c1 3 2 w' h.out h.inn
  have H4 := fun w' (h : NstAt rcV 2 Rch.adr 1 krL w' a1 L) => vAbove_holds a1 L c1 4 w' h.out h.inn
  have H5 := fun w' (h : NstAt rcV 2 Rch.adr 1 krL w' a1 L) => vBasin_holds a1 L c1 4 w' h.out h.inn (fun _ => by omega)
  have H6 := fun w' (h : NstAt rcV 2 Rch.adr 1 krL w' a1 L) => vOrder_holds a1 L c1 w' h.out h.inn
  have H7 := fun w' (h : NstAt rcV 2 Rch.adr 1 krL w' a1 L) => vAlong_holds a1 L c1 0 4 w' h.out h.inn
  have H8 := fun w' (h : NstAt rcV 2 Rch.adr 1 krL w' a1 L) => vAlong_holds a1 L c1 1 4 w' h.out h.inn
  have H9 := fun w' (h : NstAt rcV 2 Rch.adr 1 krL w' a1 L) => vAlong_holds a1 L c1 3 3 w' h.out h.inn
  have HA := fun w' (h : NstAt rcV 2 Rch.adr 1 krL w' a1 L) => vParts_holds a1 L c1 0 4 10 12 w' h.out h.inn
  have HB := fun w' (h : NstAt rcV 2 Rch.adr 1 krL w' a1 L) => vInflow_holds a1 L c1 2 10 11 w' h.out h.inn
  have HC := fun w' (h : NstAt rcV 2 Rch.adr 1 krL w' a1 L) => vCheckR_holds a1 L c1 w' h.out h.inn
  rw [hl5] at H1 H2 H3 H4 H5 H6 H7 H8 H9 HA HB HC
  rw [E1] at H1
  rw [E2] at H2
  rw [E3] at H3
  rw [E4] at H4
  rw [E5] at H5
  rw [E6] at H6
  rw [E7] at H7 HA
  rw [E8] at H8
  rw [E9] at H9
  rw [EA] at HA
  rw [EB] at HB
  rw [EC] at HC
  dsimp only at H1 H2 H3 H4 H5 H6 H7 H8 H9 HA HB HC
  clear E1 E2 E3 E4 E5 E6 E7 E8 E9 EA EB EC
  all_goals (refine go ?_; and_intros <;> (try exact trivial) <;> repeat (first | refine fun (Bk : Nat) => ?_ | intro h))
  repeat' ((first | (apply G.cN (g := 11) (vs := [.slice a1 5 c1, .int .i64 0, .int .i64 4]) (fun a' c' => .tuple #[.slice a' 3 c', .int .i64 0]) (([0, 2, 4] : List Int).map isV); rfl; rfl; exact fun w' hw' => H1 w' (hw'.nst (by exact mm)); intro u1 v1 hp1 hq1) | (apply G.cN (g := 11) (vs := [.slice a1 5 c1, .int .i64 2, .int .i64 2]) (fun a' c' => .tuple #[.slice a' 1 c', .int .i64 0]) (([2] : List Int).map isV); rfl; rfl; exact fun w' hw' => H2 w' (hw'.nst (by exact mm)); intro u2 v2 hp2 hq2) | (apply G.cN (g := 11) (vs := [.slice a1 5 c1, .int .i64 3, .int .i64 2]) (fun a' c' => .tuple #[.slice a' 0 c', .int .i64 8]) (([] : List Int).map isV); rfl; rfl; exact fun w' hw' => H3 w' (hw'.nst (by exact mm)); intro u3 v3 hp3 hq3) | (apply G.cN (g := 13) (fun a' c' => .tuple #[.slice a' 2 c', .int .i64 0]) (([2, 3] : List Int).map isV); rfl; rfl; exact fun w' hw' => H4 w' (hw'.nst (by exact mm)); intro u4 v4 hp4 hq4) | (apply G.cN (g := 15) (fun a' c' => .tuple #[.slice a' 4 c', .int .i64 0]) (([0, 1, 2, 3] : List Int).map isV); rfl; rfl; exact fun w' hw' => H5 w' (hw'.nst (by exact mm)); intro u5 v5 hp5 hq5) | (apply G.cN (g := 17) (vs := [.slice a1 5 c1]) (fun a' c' => .tuple #[.slice a' 5 c', .int .i64 0]) (([0, 1, 2, 3, 4] : List Int).map isV); rfl; rfl; exact fun w' hw' => H6 w' (hw'.nst (by exact mm)); intro u6 v6 hp6 hq6) | (apply G.sliceL; rfl; rfl; rfl; rfl; rfl; rfl; rfl; rfl; intro Bs) | (apply G.cV (g := 46); rfl; rfl; exact fun w' _ => weights_holds _ w' ⟨_, _, _, rfl⟩)) <;> (refine go ?_; and_intros <;> (try exact trivial) <;> repeat (first | refine fun (Bk : Nat) => ?_ | intro h)))
  rename_i bA bB
  have H6b := fun w' (h : NstAt rcV 2 Rch.adr 1 krL w' (some ⟨Bs, 0, none⟩) (exL2 (some ⟨bA, 0, none⟩) (some ⟨bB, 0, none⟩) 1 1)) => vOrder_holds (some ⟨Bs, 0, none⟩) (exL2 (some ⟨bA, 0, none⟩) (some ⟨bB, 0, none⟩) 1 1) 3 w' h.out h.inn
  rw [ex_or2] at H6b
  dsimp only at H6b
  refine G.cN (vs := [.slice (some ⟨Bs, 0, none⟩) 3 3]) (fun a' c' => .tuple #[.slice a' 3 c', .int .i64 0]) (([0, 2, 1] : List Int).map isV) rfl rfl (fun w' hw' => H6b w' ⟨(blkSlA (f := rcV) (l := exL2 (some ⟨bA, 0, none⟩) (some ⟨bB, 0, none⟩) 1 1) hw' rcV_len).1, fun r hr => ?_⟩) ?_
  · simp only [exL2, List.mem_cons, List.not_mem_nil, or_false] at hr
    rcases hr with rfl | rfl | rfl
    · exact (blkSlA (f := isV) (l := [1]) hw' isV_len).1
    · exact SlAt.nil
    · exact (blkSlA (f := isV) (l := [1]) hw' isV_len).1
  intro u7 v7 hp7 hq7
  clear H6b H1 H2 H3 H4 H5 H6
  all_goals (refine go ?_; and_intros <;> (try exact trivial) <;> repeat (first | refine fun (Bk : Nat) => ?_ | intro h))
  repeat' ((first | (refine G.cV (v := .int .i64 0) rfl rfl (fun w' hw' => HC w' (hw'.nst (by exact mm))) ?_) | (apply G.cV (g := 47) (vs := [.slice u1 3 v1, .int .i64 0, .slice (some ⟨_, 0, none⟩) 3 3]); rfl; rfl; exact fun w' hw' => is_holds _ _ ([0, 2, 4] : List Int) _ _ w' (hw'.sl (by exact mm)) (blkSlA (l := [0, 2, 4]) hw' isV_len).1 (show 3 ≤ 1000000000 by decide)) | (apply G.cV (g := 47) (vs := [.slice u2 1 v2, .int .i64 0, .slice (some ⟨_, 0, none⟩) 1 1]); rfl; rfl; exact fun w' hw' => is_holds _ _ ([2] : List Int) _ _ w' (hw'.sl (by exact mm)) (blkSlA (l := [2]) hw' isV_len).1 (show 1 ≤ 1000000000 by decide)) | (apply G.cV (g := 47) (vs := [.slice u4 2 v4, .int .i64 0, .slice (some ⟨_, 0, none⟩) 2 2]); rfl; rfl; exact fun w' hw' => is_holds _ _ ([2, 3] : List Int) _ _ w' (hw'.sl (by exact mm)) (blkSlA (l := [2, 3]) hw' isV_len).1 (show 2 ≤ 1000000000 by decide)) | (apply G.cV (g := 47) (vs := [.slice u5 4 v5, .int .i64 0, .slice (some ⟨_, 0, none⟩) 4 4]); rfl; rfl; exact fun w' hw' => is_holds _ _ ([0, 1, 2, 3] : List Int) _ _ w' (hw'.sl (by exact mm)) (blkSlA (l := [0, 1, 2, 3]) hw' isV_len).1 (show 4 ≤ 1000000000 by decide)) | (apply G.cV (g := 47) (vs := [.slice u6 5 v6, .int .i64 0, .slice (some ⟨_, 0, none⟩) 5 5]); rfl; rfl; exact fun w' hw' => is_holds _ _ ([0, 1, 2, 3, 4] : List Int) _ _ w' (hw'.sl (by exact mm)) (blkSlA (l := [0, 1, 2, 3, 4]) hw' isV_len).1 (show 5 ≤ 1000000000 by decide)) | (apply G.cV (g := 47) (vs := [.slice u7 3 v7, .int .i64 0, .slice (some ⟨_, 0, none⟩) 3 3]); rfl; rfl; exact fun w' hw' => is_holds _ _ ([0, 2, 1] : List Int) _ _ w' (hw'.sl (by exact mm)) (blkSlA (l := [0, 2, 1]) hw' isV_len).1 (show 3 ≤ 1000000000 by decide)) | (apply G.cN (g := 19) (vs := [.slice a1 5 c1, .int .i64 0, .int .i64 4]) (fun a' c' => .tuple #[.agg #[.slice a' 4 c'], .int .i64 0]) (([1, 1, 1, 1] : List Int).map isV); rfl; rfl; exact fun w' hw' => H7 w' (hw'.nst (by exact mm)); intro u8 v8 hp8 hq8) | (apply G.cN (g := 19) (vs := [.slice a1 5 c1, .int .i64 1, .int .i64 4]) (fun a' c' => .tuple #[.agg #[.slice a' 4 c'], .int .i64 0]) (([0, 1, 0, 1] : List Int).map isV); rfl; rfl; exact fun w' hw' => H8 w' (hw'.nst (by exact mm)); intro u9 v9 hp9 hq9) | (apply G.cN (g := 19) (vs := [.slice a1 5 c1, .int .i64 3, .int .i64 3]) (fun a' c' => .tuple #[.agg #[.slice a' 1 c'], .int .i64 0]) (([1] : List Int).map isV); rfl; rfl; exact fun w' hw' => H9 w' (hw'.nst (by exact mm)); intro u10 v10 hp10 hq10) | (apply G.cN (g := 21) (fun a' c' => .tuple #[.slice a' 3 c', .int .i64 0]) (([(7, 8, 1), (8, 11, 2), (11, 12, 1)] : List Prt).map (wV 4)); rfl; rfl; exact fun w' hw' => HA w' (hw'.nst (by exact mm)); intro u11 v11 hp11 hq11) | (apply G.cNst (g := 23) (f := ifV) (sz := 2) (adr := Ifl.adr) (sz2 := 5) (F2 := ifL) (fun R a' c' => .tuple #[.slice a' R.length c', .int .i64 0]) (fun R => R.map coreI = [(0, [(9, 11, 1)], 2), (1, [(9, 10, 1)], 1)]); rfl; rfl; exact fun w' hw' => HB w' (hw'.nst (by exact mm)); intro R u12 v12 hR hq12 hq13) | (apply G.cV (g := 47) (vs := [.slice u8 4 v8, .int .i64 0, .slice (some ⟨_, 0, none⟩) 4 4]); rfl; rfl; exact fun w' hw' => is_holds _ _ ([1, 1, 1, 1] : List Int) _ _ w' (hw'.sl (by exact mm)) (blkSlA (l := [1, 1, 1, 1]) hw' isV_len).1 (show 4 ≤ 1000000000 by decide)) | (apply G.cV (g := 47) (vs := [.slice u9 4 v9, .int .i64 0, .slice (some ⟨_, 0, none⟩) 4 4]); rfl; rfl; exact fun w' hw' => is_holds _ _ ([0, 1, 0, 1] : List Int) _ _ w' (hw'.sl (by exact mm)) (blkSlA (l := [0, 1, 0, 1]) hw' isV_len).1 (show 4 ≤ 1000000000 by decide)) | (apply G.cV (g := 47) (vs := [.slice u10 1 v10, .int .i64 0, .slice (some ⟨_, 0, none⟩) 1 1]); rfl; rfl; exact fun w' hw' => is_holds _ _ ([1] : List Int) _ _ w' (hw'.sl (by exact mm)) (blkSlA (l := [1]) hw' isV_len).1 (show 1 ≤ 1000000000 by decide)) | (apply G.sliceL; rfl; rfl; rfl; rfl; rfl; rfl; rfl; rfl; intro Bs)) <;> (refine go ?_; and_intros <;> (try exact trivial) <;> repeat (first | refine fun (Bk : Nat) => ?_ | intro h)))
  all_goals (refine go ?_; and_intros <;> (try exact trivial) <;> repeat (first | refine fun (Bk : Nat) => ?_ | intro h))
  repeat' ((first | (apply G.cV (g := 48) (vs := [.int .i64 9, .int .i64 11, .int .i64 2]); rfl; rfl; exact fun w' _ => p2 w') | (apply G.cV (g := 48) (vs := [.int .i64 9, .int .i64 10, .int .i64 1]); rfl; rfl; exact fun w' _ => p1 w') | (apply G.sliceL; rfl; rfl; rfl; rfl; rfl; rfl; rfl; rfl; intro Bs)) <;> (refine go ?_; and_intros <;> (try exact trivial) <;> repeat (first | refine fun (Bk : Nat) => ?_ | intro h)))
  rename_i bP bQ
  clear H7 H8 H9 HA HB HC
  have hRl : R.length = 2 := by
    have := congrArg List.length hR
    rwa [List.length_map] at this
  have hRi : ∀ r ∈ R, r.L.length ≤ 1000000000 := fun r hr => by
    have h := List.mem_map_of_mem (f := coreI) hr
    rw [hR] at h
    simp only [List.mem_cons, List.not_mem_nil, or_false, coreI, Prod.mk.injEq] at h
    rcases h with ⟨_, h, _⟩ | ⟨_, h, _⟩ <;> rw [h] <;> decide
  refine G.cV (v := .bool true) rfl rfl (fun w' hw' => sameFlows_holds u12 (some ⟨Bs, 0, none⟩) R [⟨0, [(9, 11, 1)], 2, some ⟨bP, 0, none⟩, 1⟩, ⟨1, [(9, 10, 1)], 1, some ⟨bQ, 0, none⟩, 1⟩] v12 2 w' (hw'.nst (by exact mm)) ⟨(blkSlA (f := ifV) (l := [⟨0, [(9, 11, 1)], 2, some ⟨bP, 0, none⟩, 1⟩, ⟨1, [(9, 10, 1)], 1, some ⟨bQ, 0, none⟩, 1⟩]) hw' ifV_len).1, fun r hr => ?_⟩ hR ⟨by omega, hRi⟩) ?_
  · simp only [List.mem_cons, List.not_mem_nil, or_false] at hr
    rcases hr with rfl | rfl
    · show SlAt w' _ 5 (([(9, 11, 1)] : List Prt).map (wV 2))
      rw [hm2]
      exact (blkSlA (f := fV) (l := [(9, 11, q2)]) hw' fV_len).1
    · show SlAt w' _ 5 (([(9, 10, 1)] : List Prt).map (wV 1))
      rw [hm1]
      exact (blkSlA (f := fV) (l := [(9, 10, q1)]) hw' fV_len).1
  all_goals (refine go ?_; and_intros <;> (try exact trivial) <;> repeat (first | refine fun (Bk : Nat) => ?_ | intro h))
  repeat' ((first | (apply G.cV (g := 48) (vs := [.int .i64 7, .int .i64 8, .int .i64 4]); rfl; rfl; exact fun w' _ => p3 w') | (apply G.cV (g := 48) (vs := [.int .i64 8, .int .i64 11, .int .i64 2]); rfl; rfl; exact fun w' _ => p4 w') | (apply G.cV (g := 48) (vs := [.int .i64 11, .int .i64 12, .int .i64 4]); rfl; rfl; exact fun w' _ => p5 w') | (apply G.sliceL; rfl; rfl; rfl; rfl; rfl; rfl; rfl; rfl; intro Bs)) <;> (refine go ?_; and_intros <;> (try exact trivial) <;> repeat (first | refine fun (Bk : Nat) => ?_ | intro h)))
  refine G.cV (v := .bool true) rfl rfl (fun w' hw' => sameParts_holds u11 (some ⟨Bs, 0, none⟩) 4 [(7, 8, 1), (8, 11, 2), (11, 12, 1)] v11 3 w' (hw'.sl (by exact mm)) ?_ (by decide)) ?_
  · rw [hm4]
    exact (blkSlA (f := fV) (l := [(7, 8, q4), (8, 11, q2), (11, 12, q4)]) hw' fV_len).1
  all_goals (refine go ?_; and_intros <;> (try exact trivial) <;> repeat (first | refine fun (Bk : Nat) => ?_ | intro h))
  all_goals refine ret1b Tryz.func10 Tryz.results10 ?_
  all_goals rfl
end Go.Proofs.YtceaamdomkjmlaaGreatDoor
/-
  How the arguments of the laws of rivers read.
-/
namespace Go.Proofs.YtceaamdomkjmlaaGreatDoor
open Go.RowKit Go.Sl Go.Num Go.ChangeShapes Go.WideShapes
theorem rKer : Reads Tryz.prog 41 (fun s : Sld Int => [s.v]) (fun w s => SlAt w s.ad 1 (s.l.map isV)) := (Reads.struct1 (n := 1) Tryz.underlying41 (by kernel_rfl) (by kernel_rfl) rInts).mono fun _ _ h => h.1
theorem rRch : Reads Tryz.prog 68 rcV (fun w r => SlAt w r.adr 1 (r.ws.map isV)) := (Reads.struct2 (n := 2) Tryz.underlying68 (by kernel_rfl) (by kernel_rfl) rInt rKer).turn fun _ a h => ⟨⟨a.1, a.2.l, a.2.ad, a.2.cap⟩, rfl, h.2⟩
theorem rRchs : Reads Tryz.prog 22 (fun s : Sld Rch => [s.v]) (fun w s => SlAt w s.ad 2 (s.l.map rcV) ∧ KerAt w s.l) := (Reads.slice (sz := 2) Tryz.underlying22 (by kernel_rfl) (by decide) rRch).mono fun _ _ h => ⟨h.1, h.2.2.2⟩
end Go.Proofs.YtceaamdomkjmlaaGreatDoor
/-
  Contract: which rivers the laws are about; plain laws of paths.
-/
namespace Go.Proofs.YtceaamdomkjmlaaGreatDoor
open Go.RowKit Go.Sl Go.Num
def validR (l : List Rch) : Prop := 0 < l.length ∧ l.length ≤ 10 ∧ fewRv 10 l ∧ rivErr l = 0
instance (l : List Rch) : Decidable (validR l) := by unfold validR; exact inferInstance
theorem valid32_holds (a : Option Addr) (l : List Rch) (c : Nat) (w : World) (hA : SlAt w a 2 (l.map rcV)) (hK : KerAt w l) :
    Calls Tryz.prog 31 #[.slice a l.length c] w fun e w' => e = .returned (.bool (decide (validR l))) ∧ Below w.heap.size w w' := by
  have hf := fun w' (hb : Below w.heap.size w w') => fewRv_holds a l c 10 w' (hA.below hb)
  have hc := fun w' (hb : Below w.heap.size w w') => vCheckR_holds a l c w' (hA.below hb) (hK.below hb)
  refine enterA [(0, .slice a l.length c)] Tryz.func31 Tryz.ntmps31 ?_
  by_cases h : validR l
  · rw [decide_eq_true h]
    obtain ⟨h1, h2, h3, h4⟩ := h
    rw [decide_eq_true h3] at hf
    rw [h4] at hc
    all_goals (refine go ?_; and_intros <;> (try exact trivial) <;> repeat (first | refine fun (Bk : Nat) => ?_ | intro h))
    repeat' ((first | (refine G.cvb hf ?_) | (refine G.cvb hc ?_)) <;> (refine go ?_; and_intros <;> (try exact trivial) <;> repeat (first | refine fun (Bk : Nat) => ?_ | intro h)))
    all_goals refine ret1b Tryz.func31 Tryz.results31 ?_
    all_goals rfl
  · rw [decide_eq_false h]
    by_cases h1 : 0 < l.length ∧ l.length ≤ 10
    · by_cases h3 : fewRv 10 l
      · have h4 : rivErr l ≠ 0 := fun h4 => h ⟨h1.1, h1.2, h3, h4⟩
        rw [decide_eq_true h3] at hf
        clear h
        generalize rivErr l = E at *
        all_goals (refine go ?_; and_intros <;> (try exact trivial) <;> repeat (first | refine fun (Bk : Nat) => ?_ | intro h))
        repeat' ((first | (refine G.cvb hf ?_) | (refine G.cvb hc ?_)) <;> (refine go ?_; and_intros <;> (try exact trivial) <;> repeat (first | refine fun (Bk : Nat) => ?_ | intro h)))
        all_goals refine ret1b Tryz.func31 Tryz.results31 ?_
        all_goals rfl
      · rw [decide_eq_false h3] at hf
        clear h
        all_goals (refine go ?_; and_intros <;> (try exact trivial) <;> repeat (first | refine fun (Bk : Nat) => ?_ | intro h))
        repeat' ((first | (refine G.cvb hf ?_)) <;> (refine go ?_; and_intros <;> (try exact trivial) <;> repeat (first | refine fun (Bk : Nat) => ?_ | intro h)))
        all_goals refine ret1b Tryz.func31 Tryz.results31 ?_
        all_goals rfl
    · clear h
      all_goals (refine go ?_; and_intros <;> (try exact trivial) <;> repeat (first | refine fun (Bk : Nat) => ?_ | intro h))
      all_goals refine ret1b Tryz.func31 Tryz.results31 ?_
      all_goals rfl
theorem path_cases {l : List Rch} (h : rivErr l = 0) {fr to : Int} (h1 : 0 ≤ fr ∧ fr < l.length) (h2 : 0 ≤ to ∧ to < l.length) : (∃ d, itr l d fr = to ∧ pathE l fr to = (stepsL l d fr, 0)) ∨ ((∀ d, itr l d fr ≠ to) ∧ pathE l fr to = ([], 8)) := by
  have hR := riv_of h
  rcases hR.path_iff h1 h2.1 with ⟨d, h3, _⟩ | ⟨h3, _⟩
  · exact .inl ⟨d, h3, Riv.pathE h h1 h2 h3⟩
  · exact .inr ⟨h3, pathE_none h h1 h2 (hR.dep h1.2).1 fun i _ => h3 i⟩
end Go.Proofs.YtceaamdomkjmlaaGreatDoor
/-
  Places in an order; basins of the gauges above; the length of a map.
-/
namespace Go.Sl
open Go.RowKit
variable {C : Ctx} {st : List (Nat × Value)} {M : List Row} {k : List Item} {q q' : Md} {all rest : List Oper} {d : Nat} {ty : TypeId} {pos : String} {after : Array Edge} {gd : Option (Nat × Bool)}
theorem G.lnm {T K E b : TypeId} {z : Value} {κ : Type} [DecidableEq κ] {kf : κ → Value} {es : Array MapEntry} {clock : Nat} {L : List (κ × Value)} {x : Operand} (hI : MapIs kf es clock L) (hx : evS st x = some (.map (some b))) (hm : Row.obj b (.map es clock) ∈ q.cls M) [hT : TMap C.P T K E z]
    (hs : sideB all st gd d C.N q.calm = some q') (h : G q' C all ((d, .int .i64 L.length) :: st) M rest k) : G q C all st M ({ dst := some d, op := .call { callee := .builtin .len, args := #[x], argTypes := #[T] }, type := ty, pos, after, guard := gd } :: rest) k := by
  obtain ⟨g1, g2, g3⟩ := sideB_ok hs
  have hl : es.size = L.length := by have := congrArg List.length hI.kv; simpa using this
  refine G.op (OpV.of fun ac w hf hw dst pos after guard => ?_) g1 rfl g2 g3 h
  have hu : ∀ w, (underlying T).run C.P w = .ok (.map K E) w := fun w => by simp [underlying, hT.h1]
  have hb := hw.objRow hm
  have hg : (getObj b).run C.P w = .ok (.map es clock) w := by simp only [getObj, Sem.run, hb]
  simp [execOp, resolve, hf.eval hx, invoke, builtin, Builtin.len_, hu, goInt, hg, hl]
end Go.Sl
namespace Go.Proofs.YtceaamdomkjmlaaGreatDoor
open Go.RowKit Go.Sl Go.Num
theorem getM_none {κ : Type} [DecidableEq κ] {x : κ} : ∀ {L : List (κ × Value)}, x ∉ L.map (·.1) → getM x L = none
  | [], _ => rfl
  | (y, v) :: r, h => by
    rw [List.map_cons, List.mem_cons] at h
    rw [getM, if_neg (fun e => h (.inl e)), getM_none (fun e => h (.inr e))]
theorem putM_new {κ : Type} [DecidableEq κ] {x : κ} (v : Value) : ∀ {L : List (κ × Value)}, x ∉ L.map (·.1) → putM x v L = L ++ [(x, v)]
  | [], _ => rfl
  | (y, u) :: r, h => by
    rw [List.map_cons, List.mem_cons] at h
    rw [putM, if_neg (fun e => h (.inl e)), putM_new v (fun e => h (.inr e))]; rfl
theorem getM_app {κ : Type} [DecidableEq κ] (x : κ) : ∀ (L R : List (κ × Value)), getM x (L ++ R) = (getM x L).or (getM x R)
  | [], R => by rw [List.nil_append, getM, Option.none_or]
  | (y, v) :: r, R => by
    rw [List.cons_append, getM, getM]
    split
    · rfl
    · exact getM_app x r R
/-- The places of the first ones of a list. -/
def plc (T : List Int) : Nat → List (Int × Value)
  | 0 => []
  | k + 1 => plc T k ++ [(T.getD k 0, .int .i64 k)]
theorem plc_len (T : List Int) : ∀ k, (plc T k).length = k
  | 0 => rfl
  | k + 1 => by rw [plc, List.length_append, plc_len T k]; rfl
theorem plc_key (T : List Int) : ∀ k, (plc T k).map (·.1) = (List.range k).map fun i => T.getD i 0
  | 0 => rfl
  | k + 1 => by rw [plc, List.map_append, plc_key T k, List.range_succ, List.map_append]; rfl
theorem plc_fresh {T : List Int} (h : T.Nodup) {k : Nat} (hk : k < T.length) : T.getD k 0 ∉ (plc T k).map (·.1) := by
  rw [plc_key, List.mem_map]
  rintro ⟨i, hi, e⟩
  rw [List.mem_range] at hi
  rw [List.getD_eq_getElem?_getD, List.getD_eq_getElem?_getD, List.getElem?_eq_getElem (by omega), List.getElem?_eq_getElem hk] at e
  have := (List.getElem_inj h).1 e
  omega
theorem plc_put {T : List Int} (h : T.Nodup) {k : Nat} (hk : k < T.length) : putM (T.getD k 0) (.int .i64 k) (plc T k) = plc T (k + 1) := by rw [putM_new _ (plc_fresh h hk), plc]
theorem plc_get {T : List Int} (h : T.Nodup) : ∀ {k i : Nat}, k ≤ T.length → i < k → getM (T.getD i 0) (plc T k) = some (.int .i64 i)
  | k + 1, i, hk, hi => by
    rw [plc, getM_app]
    rcases Nat.lt_or_ge i k with h1 | h1
    · rw [plc_get h (by omega) h1]; rfl
    · obtain rfl : i = k := by omega
      rw [getM_none (plc_fresh h hk), Option.none_or, getM, if_pos rfl]
/-- Every gauge has a place. -/
theorem Ordd.place {l : List Rch} {T : List Int} (h : Ordd l T) (hl : T.length = l.length) {g : Int} (h0 : 0 ≤ g) (h1 : g < l.length) : ∃ i, i < T.length ∧ T.getD i 0 = g := by
  by_cases hm : g ∈ T
  · obtain ⟨i, hi, rfl⟩ := List.getElem_of_mem hm
    exact ⟨i, hi, by rw [List.getD_eq_getElem?_getD, List.getElem?_eq_getElem hi]; rfl⟩
  · exfalso
    have := nodup_int (n := l.length) (L := g :: T) (List.nodup_cons.2 ⟨hm, h.nd⟩) fun x hx => by
      rcases List.mem_cons.1 hx with rfl | hx
      · exact ⟨h0, h1⟩
      · exact h.rng x hx
    rw [List.length_cons] at this
    omega
/-- A gauge's place is before that of its Down. -/
theorem Ordd.after {l : List Rch} {T : List Int} (h : Ordd l T) (hl : T.length = l.length) {g : Nat} (hg : g < l.length) {i j : Nat} (hj : j < T.length) (e1 : T.getD i 0 = (g : Int)) (hi : i < T.length) (e2 : T.getD j 0 = l[g].dn) : i < j := by
  rw [List.getD_eq_getElem?_getD, List.getElem?_eq_getElem hi] at e1
  rw [List.getD_eq_getElem?_getD, List.getElem?_eq_getElem hj] at e2
  have h1 := h.up j hj (g : Int) (mem_above.2 ⟨by omega, by omega, by rw [dnOf_at hg, ← e2]; rfl⟩)
  obtain ⟨p, hp, e3⟩ := List.getElem_of_mem h1
  rw [List.length_take] at hp
  rw [List.getElem_take] at e3
  have : p = i := (List.getElem_inj h.nd).1 (e3.trans e1.symm)
  omega
theorem getM_at {l : List Rch} {T : List Int} (h : Ordd l T) (hl : T.length = l.length) {g : Int} (h0 : 0 ≤ g) (h1 : g < l.length) : ∃ i : Nat, i < T.length ∧ T.getD i 0 = g ∧ (getM g (plc T T.length)).getD (.int .i64 0) = .int .i64 i := by
  obtain ⟨i, hi, e⟩ := h.place hl h0 h1
  refine ⟨i, hi, e, ?_⟩
  rw [← e, plc_get h.nd (Nat.le_refl _) hi]; rfl
/-- The gauges above one, each with its basin. -/
def allB (l : List Rch) (L : List Int) : List Int := L.flatMap fun u => u :: basinL l u
theorem allB_snoc (l : List Rch) (L : List Int) (u : Int) : allB l (L ++ [u]) = allB l L ++ [u] ++ basinL l u := by
  rw [allB, List.flatMap_append, List.flatMap_cons, List.flatMap_nil, List.append_nil, List.append_assoc]; rfl
theorem perm_flat {f g : Int → List Int} : ∀ {L : List Int}, (∀ x ∈ L, (f x).Perm (g x)) → (L.flatMap f).Perm (L.flatMap g)
  | [], _ => .nil
  | x :: r, h => by
    rw [List.flatMap_cons, List.flatMap_cons]
    exact (h x (by simp)).append (perm_flat fun y hy => h y (by simp [hy]))
theorem allB_perm {l : List Rch} (h : Riv l) {g : Int} (hg : 0 ≤ g) (hg1 : g < l.length) : (allB l (aboveL l g)).Perm (basinL l g) := by
  have h1 : (allB l (aboveL l g)).Perm (basR l (l.length + 1) g) := by
    rw [basR]
    refine perm_flat fun u hu => List.Perm.cons u ?_
    exact (basin_perm h (mem_above.1 hu).1).symm
  refine h1.trans ((List.perm_ext_iff_of_nodup (nodup_basR h _ hg) (nodup_lt (basin_sorted l g))).2 fun x => ?_)
  rw [mem_basR h _ hg, mem_basin h hg]
  constructor
  · rintro ⟨x0, x1, d, d1, _, d2⟩
    exact ⟨x0, x1, d, d1, d2⟩
  · rintro ⟨x0, x1, d, d1, d2⟩
    refine ⟨x0, x1, d, d1, ?_, d2⟩
    have h2 := h.dep x1
    rcases Nat.lt_or_ge d (dpt l x) with h3 | h3
    · omega
    · have h4 : itr l d x < 0 := by
        rw [show d = dpt l x + (d - dpt l x) by omega, itr_add]
        exact itr_neg h2.1
      omega
theorem allB_sort {l : List Rch} (h : Riv l) {g : Int} (hg : 0 ≤ g) (hg1 : g < l.length) {S : List Int} (hp : S.Perm (allB l (aboveL l g))) (hs : S.Pairwise (· ≤ ·)) : S = basinL l g :=
  List.Perm.eq_of_pairwise (le := (· ≤ ·)) (fun a b _ _ h1 h2 => Int.le_antisymm h1 h2) hs ((basin_sorted l g).imp fun {a b} h => by omega) (hp.trans (allB_perm h hg hg1))
theorem path_basin {l : List Rch} (h : rivErr l = 0) {x g : Int} (h1 : 0 ≤ x ∧ x < l.length) (h2 : 0 ≤ g ∧ g < l.length) : ((pathE l x g).2 = 0 ∧ 1 < (pathE l x g).1.length) ↔ x ∈ basinL l g := by
  have hR := riv_of h
  rw [mem_basin hR h2.1]
  rcases path_cases h h1 h2 with ⟨d, e1, e2⟩ | ⟨e1, e2⟩
  · rw [e2]
    dsimp only
    rw [stepsL_len]
    constructor
    · rintro ⟨_, h3⟩
      exact ⟨h1.1, h1.2, d, by omega, e1⟩
    · rintro ⟨_, _, d', h3, h4⟩
      have := hR.inj h1.2 (by omega) (i := d) (j := d') (e1.trans h4.symm) (by omega)
      exact ⟨rfl, by omega⟩
  · rw [e2]
    constructor
    · rintro ⟨h3, _⟩; cases h3
    · rintro ⟨_, _, d', _, h4⟩; exact absurd h4 (e1 d')
end Go.Proofs.YtceaamdomkjmlaaGreatDoor
/-
  The law ReachBasins returns true.
-/
namespace Go.Proofs.YtceaamdomkjmlaaGreatDoor
open Go.RowKit Go.Sl Go.Num
theorem flatA (A B : List Int) : flat isV A ++ flat isV B = flat isV (A ++ B) := by
  induction A with
  | nil => rfl
  | cons x r ih => rw [List.cons_append, flat_cons, flat_cons, List.append_assoc, ih]
theorem above_in {l : List Rch} {g j : Nat} (hj : j < (aboveL l g).length) : ∃ u : Nat, (aboveL l g)[j] = (u : Int) ∧ ∃ hu : u < l.length, l[u].dn = (g : Int) := by
  obtain ⟨h1, h2, h3⟩ := mem_above.1 (List.getElem_mem hj)
  obtain ⟨u, hu⟩ : ∃ u : Nat, (aboveL l g)[j] = (u : Int) := ⟨(aboveL l g)[j].toNat, by omega⟩
  rw [hu] at h2 h3
  exact ⟨u, hu, by omega, by rw [← dnOf_at (by omega)]; exact h3⟩
theorem allB_len {l : List Rch} (h : Riv l) {g : Nat} (hg : g < l.length) (j : Nat) : (allB l ((aboveL l g).take j)).length ≤ l.length := by
  have h1 := (allB_perm h (g := g) (by omega) (by omega)).length_eq
  have h2 := basin_len l g
  have h3 : allB l (aboveL l g) = allB l ((aboveL l g).take j) ++ allB l ((aboveL l g).drop j) := by
    rw [allB, allB, allB, ← List.flatMap_append, List.take_append_drop]
  rw [h3, List.length_append] at h1
  omega
set_option maxHeartbeats 4000000 in
theorem law3_holds (a : Option Addr) (l : List Rch) (c : Nat) (w : World) (hA : SlAt w a 2 (l.map rcV)) (hK : KerAt w l) :
    Calls Tryz.prog 5 #[.slice a l.length c] w fun e w' => e = .returned (.bool true) ∧ Below w.heap.size w w' := by
  have hv := fun w' (hb : Below w.heap.size w w') => valid32_holds a l c w' (hA.below hb) (hK.below hb)
  by_cases h1 : validR l
  case neg =>
    rw [decide_eq_false h1] at hv
    refine enterA [(0, .slice a l.length c)] Tryz.func5 Tryz.ntmps5 ?_
    all_goals (refine go ?_; and_intros <;> (try exact trivial) <;> repeat (first | refine fun (Bk : Nat) => ?_ | intro h))
    repeat' ((first | (apply G.cV (g := 10); rfl; rfl; exact fun w' _ => sanity32_holds w') | (refine G.cvb hv ?_)) <;> (refine go ?_; and_intros <;> (try exact trivial) <;> repeat (first | refine fun (Bk : Nat) => ?_ | intro h)))
    all_goals refine ret1b Tryz.func5 Tryz.results5 ?_
    all_goals rfl
  rw [decide_eq_true h1] at hv
  obtain ⟨n1, n2, n3, n4⟩ := h1
  obtain ⟨ba, oa, rfl, hra⟩ := SlAt.all hA n1
  have hR := riv_of n4
  have hor := fun w' (hb : Below w.heap.size w w') => vOrder_holds (some ⟨ba, oa, none⟩) l c w' (hA.below hb) (hK.below hb)
  rw [ordE, if_neg (fun h => h n4)] at hor
  obtain ⟨hO1, hO2⟩ := ord_ok hR
  generalize ordL l = T at *
  dsimp only at hor
  refine enterA [(0, .slice (some ⟨ba, oa, none⟩) l.length c)] Tryz.func5 Tryz.ntmps5 ?_
  all_goals (refine go ?_; and_intros <;> (try exact trivial) <;> repeat (first | refine fun (Bk : Nat) => ?_ | intro h))
  repeat' ((first | (apply G.cV (g := 10); rfl; rfl; exact fun w' _ => sanity32_holds w') | (refine G.cvb hv ?_) | (apply G.cN (g := 17) (fun a' c' => .tuple #[.slice a' T.length c', .int .i64 0]) (T.map isV); rfl; rfl; exact fun w' hw' => hor w' hw'.below; intro aT cT hnT hqT) | (apply G.mkm; rfl; intro bm)) <;> (refine go ?_; and_intros <;> (try exact trivial) <;> repeat (first | refine fun (Bk : Nat) => ?_ | intro h)))
  obtain ⟨bt, ot, rfl⟩ := hnT (by rw [List.length_map]; omega)
  clear hv hor hnT hqT
  refine J.loop (c := _) ((0, #[], 0) : Nat × Array MapEntry × Nat) (fun s => T.length - s.1) (fun s => [(0, .slice (some ⟨ba, oa, none⟩) l.length c), (6, .map (some bm)), (47, .slice (some ⟨bt, ot, none⟩) T.length cT), (48, .int .i64 T.length), (49, .int .i64 s.1)]) (fun s => [.obj bm (.map s.2.1 s.2.2), slRow w.heap.size (some ⟨bt, ot, none⟩) 1 (T.map isV)]) (fun s => s.1 ≤ T.length ∧ MapIs (Value.int .i64) s.2.1 s.2.2 (plc T s.1)) ?_ sbT sbL ?_
  · exact ⟨Nat.zero_le _, MapIs.nil⟩
  intro ⟨k, es, ck⟩ ⟨k1, hI⟩ ih
  dsimp only at k1 hI ⊢
  by_cases hk : k < T.length
  · have hg0 := fun {C M} (hm : slRow w.heap.size (some ⟨bt, ot, none⟩) 1 (T.map isV) ∈ M) => CellV.sl0 (C := C) (M := M) (f := isV) (l := T) hm hk rfl
    have hz := hO1.rng T[k] (List.getElem_mem hk)
    have hput := plc_put hO1.nd hk
    rw [List.getD_eq_getElem?_getD, List.getElem?_eq_getElem hk, Option.getD_some] at hput
    have ih := fun es2 c2 (h : MapIs (Value.int .i64) es2 c2 (plc T (k + 1))) => ih (k + 1, es2, c2) ⟨hk, h⟩ (by dsimp only; omega)
    clear hO1 hra
    generalize T[k] = z at *
    all_goals (refine go ?_; and_intros <;> (try exact trivial) <;> repeat (first | refine fun (Bk : Nat) => ?_ | intro h))
    repeat' ((first | (apply G.ld; rfl; (apply LdV.one; exact hg0 (by exact mm)); rfl) | (apply G.mu (kf := Value.int .i64) (a := z) hI hput; rfl; rfl; rfl; rfl; (repeat (first | exact RAt.head | apply RAt.tail)); intro es2 c2 hI2)) <;> (refine go ?_; and_intros <;> (try exact trivial) <;> repeat (first | refine fun (Bk : Nat) => ?_ | intro h)))
    exact J.fin (ih es2 c2 hI2)
  obtain rfl : k = T.length := by omega
  clear ih hk k1
  all_goals (refine go ?_; and_intros <;> (try exact trivial) <;> repeat (first | refine fun (Bk : Nat) => ?_ | intro h))
  refine J.loop (c := _) (0 : Nat) (fun s => l.length - s) (fun s => [(0, .slice (some ⟨ba, oa, none⟩) l.length c), (6, .map (some bm)), (66, .slice (some ⟨ba, oa, none⟩) l.length c), (67, .int .i64 l.length), (68, .int .i64 s)]) (fun s => [.obj bm (.map es ck)]) (fun s => s ≤ l.length) ?_ sbT sbL ?_
  · exact Nat.zero_le _
  intro g g1 ihg
  by_cases hg : g < l.length
  case neg =>
    obtain rfl : g = l.length := by omega
    clear ihg
    all_goals (refine go ?_; and_intros <;> (try exact trivial) <;> repeat (first | refine fun (Bk : Nat) => ?_ | intro h))
    all_goals refine ret1b Tryz.func5 Tryz.results5 ?_
    all_goals rfl
  have ihg := ihg (g + 1) hg (by omega)
  have hrg := hra g hg
  have hrn := hR.rng g hg
  have hab : (aboveL l g).length ≤ l.length := abU_len l l.length g
  have hml := plc_len T T.length
  have ha := fun w' (hb : Below w.heap.size w w') => vAbove_holds (some ⟨ba, oa, none⟩) l c g w' (hA.below hb) (hK.below hb)
  have hb0 := fun w' (hb : Below w.heap.size w w') (u : Int) => vBasin_holds (some ⟨ba, oa, none⟩) l c u w' (hA.below hb) (hK.below hb) (fun _ => by omega)
  have hne : ∀ u : Nat, u < l.length → errG l u = 0 := fun u hu => by
    rw [errG, if_neg (fun h => h n4), if_neg (by omega)]
  rw [aboveE, if_neg (fun h => h (hne g hg))] at ha
  have hb := fun w' (hb : Below w.heap.size w w') (u : Nat) (hu : u < l.length) => by
    have := hb0 w' hb u
    rw [basinE, if_neg (fun h => h (hne u hu))] at this
    exact this
  obtain ⟨ig, i1, i2, i3⟩ := getM_at hO1 hO2 (g := g) (by omega) (by omega)
  have hdn : l[g].dn < 0 ∨ ∃ (dn : Nat) (jg : Nat), l[g].dn = dn ∧ ig < jg ∧ jg < T.length ∧ (getM (dn : Int) (plc T T.length)).getD (.int .i64 0) = .int .i64 jg := by
    rcases Int.lt_or_le l[g].dn 0 with h | h
    · exact .inl h
    · obtain ⟨dn, hd⟩ : ∃ dn : Nat, l[g].dn = (dn : Int) := ⟨l[g].dn.toNat, by omega⟩
      obtain ⟨jg, j1, j2, j3⟩ := getM_at hO1 hO2 (g := dn) (by omega) (by omega)
      exact .inr ⟨dn, jg, hd, hO1.after hO2 hg j1 i2 i1 (j2.trans hd.symm), j1, j3⟩
  obtain ⟨r, hr⟩ : ∃ r, r = l[g] := ⟨_, rfl⟩
  rw [← hr] at hrg hrn hdn
  obtain ⟨dn, ws, adr, cap⟩ := r
  dsimp only [rcV] at hrg hrn hdn ha
  have hbg := fun w' hb' => hb w' hb' g hg
  clear hb0 hr
  rcases hdn with hdn | ⟨dm, jg, rfl, jg1, jg2, jg3⟩
  all_goals
    all_goals (refine go ?_; and_intros <;> (try exact trivial) <;> repeat (first | refine fun (Bk : Nat) => ?_ | intro h))
    repeat' ((first | (apply G.lnm hI; rfl; exact mm; rfl) | (apply G.lk (kf := Value.int .i64) (a := (g : Int)) hI; rfl; rfl; exact mm; exact i3; rfl) | (apply G.lk (kf := Value.int .i64) (a := (dm : Int)) hI; rfl; rfl; exact mm; exact jg3; rfl) | (apply G.cN (g := 13) (fun a' c' => .tuple #[.slice a' (aboveL l g).length c', .int .i64 0]) ((aboveL l g).map isV); rfl; rfl; exact fun w' hw' => ha w' hw'.below; intro a1 c1 hn1 hq1) | (apply G.cN (g := 15) (fun a' c' => .tuple #[.slice a' (basinL l g).length c', .int .i64 0]) ((basinL l g).map isV); rfl; rfl; exact fun w' hw' => hbg w' hw'.below; intro a2 c2 hn2 hq2)) <;> (refine go ?_; and_intros <;> (try exact trivial) <;> repeat (first | refine fun (Bk : Nat) => ?_ | intro h)))
    apply J.nilOwn (E := 3) (size := 1)
    refine J.loop (c := _) ((0, none, 0, 0) : Nat × Option Addr × Nat × Nat) (fun s => (aboveL l g).length - s.1) (fun s => [(0, .slice (some ⟨ba, oa, none⟩) l.length c), (6, .map (some bm)), (9, .int .i64 g), (13, .slice a2 (basinL l g).length c2), (15, .slice s.2.1 s.2.2.1 s.2.2.2), (66, .slice (some ⟨ba, oa, none⟩) l.length c), (67, .int .i64 l.length), (68, .int .i64 g), (113, .slice a1 (aboveL l g).length c1), (114, .int .i64 (aboveL l g).length), (115, .int .i64 s.1)]) (fun s => [.own 0 (.slice s.2.1 s.2.2.1 s.2.2.2) 3 1 s.2.2.1 (flat isV (allB l ((aboveL l g).take s.1))), slRow w.heap.size a2 1 ((basinL l g).map isV), slRow w.heap.size a1 1 ((aboveL l g).map isV), .obj bm (.map es ck)]) (fun s => s.1 ≤ (aboveL l g).length ∧ s.2.2.1 = (allB l ((aboveL l g).take s.1)).length) ?_ sbT sbL ?_
    · exact ⟨Nat.zero_le _, rfl⟩
    intro ⟨j, au, n, cu⟩ ⟨j1, j2⟩ ih
    dsimp only at j1 j2 ⊢
    have hal := allB_len hR hg j
    by_cases hj : j < (aboveL l g).length
    · obtain ⟨u, u1, u2, u3⟩ := above_in hj
      obtain ⟨b1, o1, rfl⟩ := hn1 (by rw [List.length_map]; omega)
      have hgu := fun {C M} (hm : slRow w.heap.size (some ⟨b1, o1, none⟩) 1 ((aboveL l g).map isV) ∈ M) => CellV.sl0 (C := C) (M := M) (f := isV) (l := aboveL l g) hm hj rfl
      have htk : allB l ((aboveL l g).take (j + 1)) = allB l ((aboveL l g).take j) ++ [(u : Int)] ++ basinL l u := by
        rw [List.take_add_one, List.getElem?_eq_getElem hj, u1]; exact allB_snoc l _ _
      have hbu := fun w' hb' => hb w' hb' u u2
      have hru := hra u u2
      have hbl := basin_len l u
      have ih := fun a6 c6 => ih (j + 1, a6, n + 1 + (basinL l u).length, c6) ⟨hj, by dsimp only; rw [htk, List.length_append, List.length_append, ← j2]; rfl⟩ (by dsimp only; omega)
      simp only [htk] at ih
      rw [u1] at hgu
      clear htk hb ha hbg hra hn2 ihg
      generalize hAL : allB l ((aboveL l g).take j) = AL at *
      generalize basinL l u = BU at *
      generalize l[u] = r at *
      obtain ⟨dn, ws, adr, cap⟩ := r
      dsimp only [rcV] at hru u3
      subst u3
      have hap1 : flat isV AL ++ isV u = flat isV (AL ++ [(u : Int)]) := flat1 isV _ _
      have hap2 : flat isV (AL ++ [(u : Int)]) ++ flat isV BU = flat isV (AL ++ [(u : Int)] ++ BU) := flatA _ _
      dsimp only [isV] at hap1
      all_goals (refine go ?_; and_intros <;> (try exact trivial) <;> repeat (first | refine fun (Bk : Nat) => ?_ | intro h))
      repeat' ((first | (apply G.ld; rfl; (apply LdV.one; exact hgu (by exact mm)); rfl) | (apply G.cN (g := 15) (fun a' c' => .tuple #[.slice a' BU.length c', .int .i64 0]) (BU.map isV); rfl; rfl; exact fun w' hw' => hbu w' hw'.below; intro a3 c3 hn3 hq3) | (apply G.sliceL; rfl; rfl; rfl; rfl; rfl; rfl; rfl; rfl; intro Bs) | (apply G.apV; rfl; rfl; rfl; (repeat (first | exact RAt.head | apply RAt.tail)); exact SrcV.blk (by exact mm) rfl rfl; exact hap1; omega; omega; intro a5 c5) | (apply G.apV; rfl; rfl; rfl; (repeat (first | exact RAt.head | apply RAt.tail)); exact SrcV.sl isV_len (fun _ => rfl) (fun h => hn3 h) (by exact mm); exact hap2; omega; omega; intro a6 c6)) <;> (refine go ?_; and_intros <;> (try exact trivial) <;> repeat (first | refine fun (Bk : Nat) => ?_ | intro h)))
      exact J.fin (ih a6 c6)
    obtain rfl : j = (aboveL l g).length := by omega
    clear ih hj hal
    rw [List.take_length] at j2 ⊢
    have hpm := allB_perm hR (g := g) (by omega) (by omega)
    have hst := fun S hp hs => allB_sort hR (g := g) (by omega) (by omega) (S := S) hp hs
    have hbl := basin_len l g
    have hpl := hpm.length_eq
    generalize hAL : allB l (aboveL l g) = AL at *
    have hpb := fun (o : Nat) (ho : o < l.length) => path_basin n4 (x := o) (g := g) (by omega) (by omega)
    have hpt := fun (o : Nat) w' (hb : Below w.heap.size w w') => vPath_holds (some ⟨ba, oa, none⟩) l c o g w' (hA.below hb) (hK.below hb)
    have hps := fun (o : Nat) (ho : o < l.length) => path_cases n4 (fr := o) (to := g) (by omega) (by omega)
    generalize hBG : basinL l g = BG at *
    have hct := fun w' (x : Int) hx => containsI_holds a2 BG c2 x w' hx (by omega)
    obtain rfl : n = BG.length := by omega
    have heq := fun w' (a b : Option Addr) (c d : Nat) hx hy => equalI_holds a b BG BG c d w' hx hy (by omega)
    rw [decide_eq_true rfl] at heq
    clear hb ha hbg hn1
    all_goals (refine go ?_; and_intros <;> (try exact trivial) <;> repeat (first | refine fun (Bk : Nat) => ?_ | intro h))
    repeat' ((first | (refine G.cP (g := 34) (X := { S' : List Int // S'.Perm AL ∧ S'.Pairwise (· ≤ ·) }) (fun _ => .tuple #[]) [.own 0 (.slice au BG.length cu) 3 1 BG.length (flat isV AL)] (fun x => [.own 0 (.slice au BG.length cu) 3 1 BG.length (flat isV x.1)]) rfl rfl (by (repeat (first | exact List.Perm.refl _ | (refine pickT (by (repeat (first | exact Pick.head | apply Pick.tail))) ?_)))) ?_ ?_; exact fun w' hw' => (sort12_holds _ _ w' au BG.length cu AL hw' j2 (by omega)).mono fun e w2 ⟨S', h1, h2, h3⟩ => ⟨⟨S', h2⟩, h1, h3⟩; rintro ⟨S', hS1, hS2⟩; have heS := hst S' hS1 hS2; subst S'; dsimp only) | (apply G.cV (g := 35) (v := .bool true); rfl; rfl; exact fun w' hw' => heq w' au a2 cu c2 (SlAt.ofOwn isV_len (hw'.hold (.own 0 (.slice au BG.length cu) 3 1 BG.length (flat isV BG)) (by exact mm)) rfl) (hw'.sl (by exact mm)))) <;> (refine go ?_; and_intros <;> (try exact trivial) <;> repeat (first | refine fun (Bk : Nat) => ?_ | intro h)))
    clear hst hpm hAL hpl heq j2
    refine J.loop (c := _) (0 : Nat) (fun s => l.length - s) (fun s => [(0, .slice (some ⟨ba, oa, none⟩) l.length c), (6, .map (some bm)), (9, .int .i64 g), (13, .slice a2 BG.length c2), (66, .slice (some ⟨ba, oa, none⟩) l.length c), (67, .int .i64 l.length), (68, .int .i64 g), (150, .int .i64 l.length), (151, .int .i64 s)]) (fun s => [slRow w.heap.size a2 1 (BG.map isV), .obj bm (.map es ck)]) (fun s => s ≤ l.length) ?_ sbT sbL ?_
    · exact Nat.zero_le _
    intro o o1 ih
    by_cases ho : o < l.length
    · have ih := ih (o + 1) ho (by omega)
      have hpb := hpb o ho
      have hpt := hpt o
      have hps := hps o ho
      have hct := fun w' hx => hct w' (o : Int) hx
      clear hra
      generalize pathE l o g = X at *
      obtain ⟨P, e⟩ := X
      dsimp only at hpb hpt
      have he : e = 0 ∨ e = 8 := by
        rcases hps with ⟨_, _, h⟩ | ⟨_, h⟩
        · exact .inl (congrArg Prod.snd h)
        · exact .inr (congrArg Prod.snd h)
      clear hps
      by_cases hm : (o : Int) ∈ BG
      · rw [decide_eq_true hm] at hct
        obtain ⟨q1, q2⟩ := hpb.2 hm
        clear hpb he
        subst q1
        all_goals (refine go ?_; and_intros <;> (try exact trivial) <;> repeat (first | refine fun (Bk : Nat) => ?_ | intro h))
        repeat' ((first | (apply G.cN (g := 11) (fun a' c' => .tuple #[.slice a' P.length c', .int .i64 0]) (P.map isV); rfl; rfl; exact fun w' hw' => hpt w' hw'.below; intro a3 c3 hn3 hq3) | (apply G.cV (g := 32) (v := .bool true); rfl; rfl; exact fun w' hw' => hct w' (hw'.sl (by exact mm)))) <;> (refine go ?_; and_intros <;> (try exact trivial) <;> repeat (first | refine fun (Bk : Nat) => ?_ | intro h)))
        exact J.fin ih
      · rw [decide_eq_false hm] at hct
        have hpb : e = 8 ∨ (e = 0 ∧ P.length ≤ 1) := by
          rcases he with h | h
          · exact .inr ⟨h, Nat.le_of_not_lt fun h2 => hm (hpb.1 ⟨h, h2⟩)⟩
          · exact .inl h
        clear he
        all_goals (refine go ?_; and_intros <;> (try exact trivial) <;> repeat (first | refine fun (Bk : Nat) => ?_ | intro h))
        repeat' ((first | (apply G.cN (g := 11) (fun a' c' => .tuple #[.slice a' P.length c', .int .i64 e]) (P.map isV); rfl; rfl; exact fun w' hw' => hpt w' hw'.below; intro a3 c3 hn3 hq3) | (apply G.cV (g := 32) (v := .bool false); rfl; rfl; exact fun w' hw' => hct w' (hw'.sl (by exact mm)))) <;> (refine go ?_; and_intros <;> (try exact trivial) <;> repeat (first | refine fun (Bk : Nat) => ?_ | intro h)))
        all_goals exact J.fin ih
    obtain rfl : o = l.length := by omega
    clear ih
    all_goals (refine go ?_; and_intros <;> (try exact trivial) <;> repeat (first | refine fun (Bk : Nat) => ?_ | intro h))
    exact J.fin ihg
end Go.Proofs.YtceaamdomkjmlaaGreatDoor
