/-
  Contracts of rights: all functions of both, for whatever arguments.
-/
import Derived.Test.YteaccaieaigeaaaGreatDoorNB14
import Derived.Test.YteaccaieaigeaaaGreatDoorNB16
import Derived.Test.YteaccaieaigeaaaGreatDoorNB17
import Derived.ProofKit
set_option linter.unusedVariables false
set_option linter.unusedSimpArgs false
set_option linter.unusedSectionVars false
namespace Go.Proofs.YteaccaieaigeaaaGreatDoor
open Go.RowKit Go.Sl Go.Num
def cmO (c : Clm) : Cm := ⟨c.pl.toNat, c.rk.toNat, qR c.am⟩
theorem good_q {q : Q3} (h : natB q = true) : rQ (qR q) = q ∧ 0 ≤ qR q := by
  refine ⟨natB_q h, ?_⟩
  have h1 := natB_rQ (qR q)
  rw [natB_q h, h] at h1
  exact of_decide_eq_true h1.symm
theorem good_sup {R : List Rch} {Gs : List Q3} (h : supE R Gs = 0) (hf : ∀ q ∈ Gs, fewQ 100 q) : SupOk R (Gs.map qR) ∧ (Gs.map qR).map qF = Gs.map qV := by
  rw [supE] at h
  have h1 : rivErr R = 0 := Decidable.not_not.1 fun hc => by rw [if_pos hc] at h; exact hc h
  rw [if_neg (not_not_intro h1)] at h
  have h2 : ¬ (Gs.length ≠ R.length ∨ (Gs.any fun q => !natB q) = true) := fun hc => by rw [if_pos hc] at h; cases h
  have h3 : Gs.length = R.length := Decidable.not_not.1 fun hc => h2 (.inl hc)
  have h4 : ∀ q ∈ Gs, natB q = true := fun q hq => by
    cases hb : natB q with
    | true => rfl
    | false => exact absurd (.inr (List.any_eq_true.2 ⟨q, hq, by rw [hb]; rfl⟩)) h2
  refine ⟨⟨h1, by rw [List.length_map]; exact h3, fun x hx => ?_, fun x hx => ?_⟩, good_map h4⟩
  · obtain ⟨q, hq, rfl⟩ := List.mem_map.1 hx
    exact (good_q (h4 q hq)).2
  · obtain ⟨q, hq, rfl⟩ := List.mem_map.1 hx
    rw [(good_q (h4 q hq)).1]; exact hf q hq
theorem clmE_ok {n : Nat} {c : Clm} (h : clmE n c = 0) : (0 ≤ c.pl ∧ c.pl < n ∧ 0 ≤ c.rk ∧ c.rk ≤ 100) ∧ natB c.am = true := by
  rw [clmE] at h
  by_cases h1 : c.pl < 0 ∨ (n : Int) ≤ c.pl ∨ c.rk < 0 ∨ 100 < c.rk
  · rw [if_pos h1] at h; cases h
  · rw [if_neg h1] at h
    refine ⟨by omega, ?_⟩
    cases hb : natB c.am with
    | true => rfl
    | false => rw [hb] at h; cases h
theorem clmsE_ok {n : Nat} : ∀ {L : List Clm}, clmsE n L = 0 → ∀ c ∈ L, clmE n c = 0
  | x :: L, h, c, hc => by
    rw [clmsE] at h
    by_cases h1 : clmE n x = 0
    · rw [if_neg (not_not_intro h1)] at h
      rcases List.mem_cons.1 hc with rfl | hc
      · exact h1
      · exact clmsE_ok h c hc
    · rw [if_pos h1] at h; exact absurd h h1
theorem good_clm {n : Nat} {L : List Clm} (h : clmsE n L = 0) (hf : ∀ c ∈ L, fewQ 100 c.am) (hl : L.length ≤ 205) : ClOk n (L.map cmO) ∧ (L.map cmO).map cmV = L.map clV := by
  have h1 := fun c hc => clmE_ok (clmsE_ok h c hc)
  refine ⟨⟨by rw [List.length_map]; exact hl, fun c hc => ?_, fun c hc => ?_, fun c hc => ?_, fun c hc => ?_⟩, ?_⟩
  any_goals
    obtain ⟨x, hx, rfl⟩ := List.mem_map.1 hc
    have h2 := h1 x hx
    have h3 := good_q h2.2
  · show x.pl.toNat < n; omega
  · show x.rk.toNat ≤ 100; omega
  · exact h3.2
  · show fewQ 100 (rQ (qR x.am)); rw [h3.1]; exact hf x hx
  · rw [List.map_map]
    refine List.map_congr_left fun x hx => ?_
    have h2 := h1 x hx
    show cmV (cmO x) = clV x
    rw [cmV, qF, cmO]
    dsimp only
    rw [(good_q h2.2).1, Int.toNat_of_nonneg h2.1.1, Int.toNat_of_nonneg h2.1.2.2.1]; rfl
theorem rgtE_ok {R : List Rch} {Gs : List Q3} {L : List Clm} (h : rgtE R Gs L = 0) : supE R Gs = 0 ∧ L.length ≤ 200 ∧ clmsE R.length L = 0 := by
  rw [rgtE] at h
  by_cases h1 : supE R Gs = 0
  · rw [if_neg (not_not_intro h1)] at h
    by_cases h2 : 200 < L.length
    · rw [if_pos h2] at h; cases h
    · rw [if_neg h2] at h; exact ⟨h1, by omega, h⟩
  · rw [if_pos h1] at h; exact absurd h h1
/-- What is known of the arguments. -/
structure Arg (w : World) (ra : Option Addr) (R : List Rch) (ga : Option Addr) (Gs : List Q3) (la : Option Addr) (L : List Clm) : Prop where
  sup : SupAt w ra R ga (Gs.map qV)
  cl : SlAt w la 5 (L.map clV)
  gf : ∀ q ∈ Gs, fewQ 41 q
  cf : ∀ c ∈ L, fewQ 41 c.am
  len : Gs.length ≤ 1000000 ∧ L.length ≤ 1000000
theorem Arg.below {w w' : World} {ra : Option Addr} {R : List Rch} {ga : Option Addr} {Gs : List Q3} {la : Option Addr} {L : List Clm} (h : Arg w ra R ga Gs la L) (hb : Below w.heap.size w w') : Arg w' ra R ga Gs la L := ⟨h.sup.below hb, h.cl.below hb, h.gf, h.cf, h.len⟩
theorem Arg.nil {w : World} {ra : Option Addr} {R : List Rch} {ga : Option Addr} {Gs : List Q3} {la : Option Addr} {L : List Clm} (h : Arg w ra R ga Gs la L) : Arg w ra R ga Gs none [] := ⟨h.sup, SlAt.nil, h.gf, (fun c hc => by cases hc), h.len.1, Nat.zero_le _⟩
theorem Arg.vck {w : World} {ra : Option Addr} {R : List Rch} {ga : Option Addr} {Gs : List Q3} {la : Option Addr} {L : List Clm} (h : Arg w ra R ga Gs la L) (rc gc lc : Nat) (w' : World) (hb : Below w.heap.size w w') :
    Calls Tryz.prog 15 #[.agg #[.slice ra R.length rc, .slice ga Gs.length gc], .slice la L.length lc] w' fun e w2 => e = .returned (.int .i64 (rgtE R Gs L)) ∧ Below w'.heap.size w' w2 :=
  vCheck_holds ra R rc ga Gs gc la L lc w' (h.sup.below hb) (h.cl.below hb) (fun q hq => fewQ_le (h.gf q hq) (by decide)) (fun c hc => fewQ_le (h.cf c hc) (by decide)) h.len
/-! ### Passing -/
def passR (R : List Rch) (Gs : List Q3) : List Rat × Int := if supE R Gs ≠ 0 then ([], supE R Gs) else (gl R.length (sup (onR R) R.length (fsq (Gs.map qR))), 0)
theorem rgt_nil (R : List Rch) (Gs : List Q3) : rgtE R Gs [] = supE R Gs := by
  rw [rgtE]
  split
  · rfl
  · rename_i h
    rw [if_neg (by simp), clmsE]; omega
theorem Arg.vPass {w : World} {ra : Option Addr} {R : List Rch} {ga : Option Addr} {Gs : List Q3} {la : Option Addr} {L : List Clm} (h : Arg w ra R ga Gs la L) (rc gc : Nat) (w' : World) (hb : Below w.heap.size w w') :
    Calls Tryz.prog 11 #[.agg #[.slice ra R.length rc, .slice ga Gs.length gc]] w' (RetQ (fun v => .tuple #[v, .int .i64 (passR R Gs).2]) w' (passR R Gs).1) := by
  have h := h.below hb
  have hck := h.nil.vck rc gc 0
  rw [rgt_nil, List.length_nil] at hck
  rw [passR]
  by_cases h0 : supE R Gs = 0
  · rw [if_neg (not_not_intro h0)]
    obtain ⟨h1, h2⟩ := good_sup h0 fun q hq => fewQ_le (h.gf q hq) (by decide)
    have hs := h.sup
    rw [← h2] at hs
    have h3 := vPassing_holds w' [] w' ra R rc ga (Gs.map qR) gc hs h1 (Sat.start _)
    rw [List.length_map] at h3
    refine h3.mono fun e w2 ⟨B, e1, e2⟩ => ?_
    subst e1
    exact satQ e2 (.head _) (gl_len _ _) fun v => .tuple #[v, .int .i64 0]
  · rw [if_pos h0]
    clear h
    generalize supE R Gs = E at *
    refine enterA [(0, .agg #[.slice ra R.length rc, .slice ga Gs.length gc])] Tryz.func11 Tryz.ntmps11 ?_
    all_goals (refine go ?_; and_intros <;> (try exact trivial) <;> repeat (first | refine fun (Bk : Nat) => ?_ | intro h))
    repeat' ((first | (apply G.cV (g := 15); rfl; rfl; exact fun w' hw => hck w' hw.below)) <;> (refine go ?_; and_intros <;> (try exact trivial) <;> repeat (first | refine fun (Bk : Nat) => ?_ | intro h)))
    (refine ret2 Tryz.func11 Tryz.results11 ?_; intro w' hw)
    exact retQ_nil (fun v => .tuple #[v, .int .i64 E]) hw.below
/-! ### Allot -/
def allR (R : List Rch) (Gs : List Q3) (L : List Clm) : List Rat × Int := if rgtE R Gs L ≠ 0 then ([], rgtE R Gs L) else (allT R (Gs.map qR) (L.map cmO) 101, 0)
/-- Supplies and claims of which Allot is reckoned. -/
def Lim (R : List Rch) (Gs : List Q3) (L : List Clm) : Prop := rgtE R Gs L = 0 → R.length ≤ 12 ∧ L.length ≤ 20
theorem Arg.ok {w : World} {ra : Option Addr} {R : List Rch} {ga : Option Addr} {Gs : List Q3} {la : Option Addr} {L : List Clm} (h : Arg w ra R ga Gs la L) (h0 : rgtE R Gs L = 0) :
    SupOk R (Gs.map qR) ∧ SupAt w ra R ga ((Gs.map qR).map qF) ∧ ClOk R.length (L.map cmO) ∧ SlAt w la 5 ((L.map cmO).map cmV) := by
  obtain ⟨h1, h2, h3⟩ := rgtE_ok h0
  obtain ⟨h4, h5⟩ := good_sup h1 fun q hq => fewQ_le (h.gf q hq) (by decide)
  obtain ⟨h6, h7⟩ := good_clm h3 (fun c hc => fewQ_le (h.cf c hc) (by decide)) (by omega)
  exact ⟨h4, by rw [h5]; exact h.sup, h6, by rw [h7]; exact h.cl⟩
theorem Arg.alo {w : World} {ra : Option Addr} {R : List Rch} {ga : Option Addr} {Gs : List Q3} {la : Option Addr} {L : List Clm} (h : Arg w ra R ga Gs la L) (h0 : rgtE R Gs L = 0) (hl : Lim R Gs L) : Alo R (Gs.map qR) (L.map cmO) := by
  obtain ⟨h1, h2, h3⟩ := rgtE_ok h0
  have hg : ∀ q ∈ Gs, natB q = true := by
    rw [supE] at h1
    by_cases hr : rivErr R = 0
    · rw [if_neg (not_not_intro hr)] at h1
      by_cases hc : Gs.length ≠ R.length ∨ (Gs.any fun q => !natB q) = true
      · rw [if_pos hc] at h1; cases h1
      · intro q hq
        cases hb : natB q with
        | true => rfl
        | false => exact absurd (.inr (List.any_eq_true.2 ⟨q, hq, by rw [hb]; rfl⟩)) hc
    · rw [if_pos hr] at h1; exact absurd h1 hr
  refine ⟨(hl h0).1, by rw [List.length_map]; exact (hl h0).2, fun x hx => ?_, fun c hc => ?_⟩
  · obtain ⟨q, hq, rfl⟩ := List.mem_map.1 hx
    rw [(good_q (hg q hq)).1]; exact h.gf q hq
  · obtain ⟨x, hx, rfl⟩ := List.mem_map.1 hc
    show fewQ 41 (rQ (qR x.am))
    rw [(good_q (clmE_ok (clmsE_ok h3 x hx)).2).1]; exact h.cf x hx
theorem Arg.vAllot {w : World} {ra : Option Addr} {R : List Rch} {ga : Option Addr} {Gs : List Q3} {la : Option Addr} {L : List Clm} (h : Arg w ra R ga Gs la L) (hl : Lim R Gs L) (hso : rgtE R Gs L = 0 → ∀ n, n ≤ L.length → SortsTo n) (rc gc lc : Nat) (w' : World) (hb : Below w.heap.size w w') :
    Calls Tryz.prog 13 #[.agg #[.slice ra R.length rc, .slice ga Gs.length gc], .slice la L.length lc] w' (RetQ (fun v => .tuple #[v, .int .i64 (allR R Gs L).2]) w' (allR R Gs L).1) := by
  have h := h.below hb
  have hck := h.vck rc gc lc
  rw [allR]
  by_cases h0 : rgtE R Gs L = 0
  · rw [if_neg (not_not_intro h0)]
    rw [h0] at hck
    obtain ⟨h1, h2, h3, h4⟩ := h.ok h0
    have h5 := vAllot_holds w' ra R rc ga (Gs.map qR) gc la (L.map cmO) lc h2 h1 h4 h3 (h.alo h0 hl) (by rw [List.length_map]; exact hso h0)
    rw [List.length_map, List.length_map] at h5
    exact h5 hck
  · rw [if_pos h0]
    clear h hl hso
    generalize rgtE R Gs L = E at *
    refine enterA [(0, .agg #[.slice ra R.length rc, .slice ga Gs.length gc]), (1, .slice la L.length lc)] Tryz.func13 Tryz.ntmps13 ?_
    all_goals (refine go ?_; and_intros <;> (try exact trivial) <;> repeat (first | refine fun (Bk : Nat) => ?_ | intro h))
    repeat' ((first | (apply G.cV (g := 15); rfl; rfl; exact fun w' hw => hck w' hw.below)) <;> (refine go ?_; and_intros <;> (try exact trivial) <;> repeat (first | refine fun (Bk : Nat) => ?_ | intro h)))
    (refine ret2 Tryz.func13 Tryz.results13 ?_; intro w' hw)
    exact retQ_nil (fun v => .tuple #[v, .int .i64 E]) hw.below
/-! ### Left -/
def lefR (R : List Rch) (Gs : List Q3) (L : List Clm) (Tq : List Q3) : List Rat × Int := if rgtE R Gs L ≠ 0 then ([], rgtE R Gs L) else
  (if lfE R (Gs.map qR) (L.map cmO) Tq = 0 then gl R.length (rsT R (Gs.map qR) (L.map cmO) (Tq.map qR)) else [], lfE R (Gs.map qR) (L.map cmO) Tq)
theorem Arg.vLeft {w : World} {ra : Option Addr} {R : List Rch} {ga : Option Addr} {Gs : List Q3} {la : Option Addr} {L : List Clm} (h : Arg w ra R ga Gs la L) {ta : Option Addr} {Tq : List Q3} (hT : SlAt w ta 3 (Tq.map qV)) (hf : ∀ q ∈ Tq, fewQ 30000 q) (htl : Tq.length ≤ 1000000) (rc gc lc tc : Nat) (w' : World) (hb : Below w.heap.size w w') :
    Calls Tryz.prog 19 #[.agg #[.slice ra R.length rc, .slice ga Gs.length gc], .slice la L.length lc, .slice ta Tq.length tc] w' (RetQ (fun v => .tuple #[v, .int .i64 (lefR R Gs L Tq).2]) w' (lefR R Gs L Tq).1) := by
  have h := h.below hb
  have hT := hT.below hb
  have hck := h.vck rc gc lc
  rw [lefR]
  by_cases h0 : rgtE R Gs L = 0
  · rw [if_neg (not_not_intro h0)]
    rw [h0] at hck
    obtain ⟨h1, h2, h3, h4⟩ := h.ok h0
    have h5 := vLeft_holds w' ra R rc ga (Gs.map qR) gc la (L.map cmO) lc ta Tq tc h2 h1 h4 h3 hT hf htl
    rw [List.length_map, List.length_map] at h5
    exact h5 hck
  · rw [if_pos h0]
    clear h hT hf htl
    generalize rgtE R Gs L = E at *
    refine enterA [(0, .agg #[.slice ra R.length rc, .slice ga Gs.length gc]), (1, .slice la L.length lc), (2, .slice ta Tq.length tc)] Tryz.func19 Tryz.ntmps19 ?_
    all_goals (refine go ?_; and_intros <;> (try exact trivial) <;> repeat (first | refine fun (Bk : Nat) => ?_ | intro h))
    repeat' ((first | (apply G.cV (g := 15); rfl; rfl; exact fun w' hw => hck w' hw.below)) <;> (refine go ?_; and_intros <;> (try exact trivial) <;> repeat (first | refine fun (Bk : Nat) => ?_ | intro h)))
    (refine ret2 Tryz.func19 Tryz.results19 ?_; intro w' hw)
    exact retQ_nil (fun v => .tuple #[v, .int .i64 E]) hw.below
/-! ### Fair -/
def faiR (R : List Rch) (Gs : List Q3) (L : List Clm) (Tq : List Q3) : Int × List Int := if rgtE R Gs L ≠ 0 then (rgtE R Gs L, []) else frE R (Gs.map qR) (L.map cmO) Tq
theorem Arg.vFair {w : World} {ra : Option Addr} {R : List Rch} {ga : Option Addr} {Gs : List Q3} {la : Option Addr} {L : List Clm} (h : Arg w ra R ga Gs la L) {ta : Option Addr} {Tq : List Q3} (hT : SlAt w ta 3 (Tq.map qV)) (hf : ∀ q ∈ Tq, fewQ 30000 q) (htl : Tq.length ≤ 1000000) (rc gc lc tc : Nat) (w' : World) (hb : Below w.heap.size w w') :
    Calls Tryz.prog 21 #[.agg #[.slice ra R.length rc, .slice ga Gs.length gc], .slice la L.length lc, .slice ta Tq.length tc] w' (RetI (fun v => .tuple #[v, .int .i64 (faiR R Gs L Tq).1]) w' (faiR R Gs L Tq).2) := by
  have h := h.below hb
  have hT := hT.below hb
  have hck := h.vck rc gc lc
  have hlf := h.vLeft hT hf htl rc gc lc tc
  rw [faiR]
  by_cases h0 : rgtE R Gs L = 0
  · rw [if_neg (not_not_intro h0)]
    rw [h0] at hck
    obtain ⟨h1, h2, h3, h4⟩ := h.ok h0
    have h5 := vFair_holds w' ra R rc ga (Gs.map qR) gc la (L.map cmO) lc ta Tq tc h2 h1 h4 h3 hT hf htl
    rw [List.length_map, List.length_map] at h5
    exact h5 hck
  · rw [if_pos h0]
    rw [lefR, if_pos h0] at hlf
    clear h hT hf htl hck
    dsimp only at hlf
    generalize rgtE R Gs L = E at *
    refine enterA [(0, .agg #[.slice ra R.length rc, .slice ga Gs.length gc]), (1, .slice la L.length lc), (2, .slice ta Tq.length tc)] Tryz.func21 Tryz.ntmps21 ?_
    all_goals (refine go ?_; and_intros <;> (try exact trivial) <;> repeat (first | refine fun (Bk : Nat) => ?_ | intro h))
    repeat' ((first | (apply G.cN (g := 19) (fun a' c' => .tuple #[.slice a' 0 c', .int .i64 E]) ([] : List (List Value)); rfl; rfl; exact fun w' hw' => hlf w' hw'.below; intro a1 c1 hp1 hq1)) <;> (refine go ?_; and_intros <;> (try exact trivial) <;> repeat (first | refine fun (Bk : Nat) => ?_ | intro h)))
    (refine ret2 Tryz.func21 Tryz.results21 ?_; intro w' hw)
    exact retI_nil (fun v => .tuple #[v, .int .i64 E]) hw.below
end Go.Proofs.YteaccaieaigeaaaGreatDoor
/-
  Contracts of rights: the law's example.
-/
namespace Go.Sl
open Go.RowKit
variable {C : Ctx} {st : List (Nat × Value)} {M : List Row} {k : List Item} {q q' : Md} {all rest : List Oper} {d : Nat} {ty : TypeId} {pos : String} {after : Array Edge} {gd : Option (Nat × Bool)}
theorem J.cutK {k2 : List Item} {X : Type} (stF : X → List (Nat × Value)) (MF : X → List Row) (h : (∀ x, J C (stF x) (MF x) k2) → J C st M k) (hk : ∀ x, J C (stF x) (MF x) k2) : J C st M k := h hk
/-- A store of a struct that nothing to come leans on. -/
theorem G.sAS {T n : TypeId} {x y : Operand} {vs : List Value} {b j tot : Nat} {e : TypeId} {cs out : List Value} {F : Row → List Row} {M0 : List Row} (hg : wnB all st gd = true) (hq : q.sto = some (M0, q'))
    (hx : evS st x = some (.pointer (some ⟨b, j, none⟩))) (hy : evS st y = some (.agg vs.toArray)) (hm : RAt (.blk b e cs tot) M F) [hT : TSize C.P T n] (hn : vs.length = n) (h1 : vs.all (·.oneCell') = true) (hj : j + vs.length ≤ cs.length) (ho : setL cs j vs = out)
    (hsub : M0.Sublist (F (.blk b e out tot))) (h : G q' C all st (F (.blk b e out tot)) rest k) :
    G q C all st M ({ dst := none, op := .store T x y, type := ty, pos, after, guard := gd } :: rest) k := by
  obtain ⟨i, h5, h6⟩ := hm.idx
  rw [← h6] at h hsub
  exact G.storeS (vs := vs) hg hq hx h5 hy rfl h1 ho hj hn hsub h
/-- The same, the first of a fork. -/
theorem G.sAO {i : Nat} {p : Pt} {T n : TypeId} {x y : Operand} {vs : List Value} {b j tot : Nat} {e : TypeId} {cs out : List Value} {F : Row → List Row} {M0 : List Row} (hg : wnB all st gd = true)
    (hx : evS st x = some (.pointer (some ⟨b, j, none⟩))) (hy : evS st y = some (.agg vs.toArray)) (hm : RAt (.blk b e cs tot) M F) [hT : TSize C.P T n] (hn : vs.length = n) (h1 : vs.all (·.oneCell') = true) (hj : j + vs.length ≤ cs.length) (ho : setL cs j vs = out)
    (hsub : M0.Sublist (F (.blk b e out tot))) (h : G (.anys M0 p) C all st (F (.blk b e out tot)) rest k) :
    G (.ones M0 i p) C all st M ({ dst := none, op := .store T x y, type := ty, pos, after, guard := gd } :: rest) k := by
  obtain ⟨i, h5, h6⟩ := hm.idx
  rw [← h6] at h hsub
  subst ho
  refine G.oneS hg (Eff.unit fun a w hf hw => ?_)
  obtain ⟨w', h2, h3⟩ := hw.setRow h5 hj (fun v hv => List.all_eq_true.1 h1 v hv) C.P
  refine ⟨w', _, ?_, h3, hsub, h⟩
  have hvs : (Value.agg vs.toArray).cells = vs.toArray := rfl
  simp [execOp, hf.eval hx, hf.eval hy, Instr.storeAt, Instr.sureAddr, storeVar, hT.h, hvs, hn, h2]
end Go.Sl
namespace Go.Proofs.YteaccaieaigeaaaGreatDoor
open Go.RowKit Go.Sl Go.Num
def rI (n : Int) : Rat := (n : Rat)
theorem rI_few {n : Int} (h1 : -999999999999999 ≤ n) (h2 : n ≤ 999999999999999) : fewQ 8 (rQ (rI n)) := fewQ_int h1 h2
theorem ints_holds (a : Option Addr) (l : List Int) (c : Nat) (w : World) (hA : SlAt w a 1 (l.map isV)) (hl : l.length ≤ 1000000) (hb : ∀ n ∈ l, -999999999999999 ≤ n ∧ n ≤ 999999999999999) :
    Calls Tryz.prog 32 #[.slice a l.length c] w (RetQ (fun v => v) w (l.map rI)) := by
  refine enterA [(0, .slice a l.length c)] Tryz.func32 Tryz.ntmps32 ?_
  all_goals (refine go ?_; and_intros <;> (try exact trivial) <;> repeat (first | refine fun (Bk : Nat) => ?_ | intro h))
  apply J.nilOwn (E := 51) (size := 3)
  refine J.loop (c := _) ((0, none, 0) : Nat × Option Addr × Nat) (fun s => l.length - s.1) (fun s => [(3, .slice s.2.1 s.1 s.2.2), (6, .slice a l.length c), (7, .int .i64 l.length), (8, .int .i64 s.1)]) (fun s => [.own 0 (.slice s.2.1 s.1 s.2.2) 51 3 s.1 (flat qF ((l.take s.1).map rI))]) (fun s => s.1 ≤ l.length) ?_ sbT sbL ?_
  · exact Nat.zero_le _
  intro ⟨i, au, cu⟩ h1 ih
  dsimp only at h1 ⊢
  by_cases hi : i < l.length
  · obtain ⟨ba, oa, rfl, hra⟩ := SlAt.all hA (by omega)
    have hri := hra i hi
    have hbi := hb _ (List.getElem_mem hi)
    have hin := fun w' => int_holds l[i] w' hbi.1 hbi.2
    have hap : flat qF ((l.take i).map rI) ++ qF (rI l[i]) = flat qF ((l.take i).map rI ++ [rI l[i]]) := flat1 qF _ _
    have ih := fun a2 c2 => ih (i + 1, a2, c2) hi (by dsimp only; omega)
    dsimp only at ih
    simp only [List.take_add_one, List.getElem?_eq_getElem hi, Option.toList, List.map_append, List.map_cons, List.map_nil] at ih
    rw [qF] at hap
    rw [show ((l[i] : Int) : Rat) = rI l[i] from rfl] at hin
    clear hra hb hbi hA
    generalize l[i] = n at *
    generalize rQ (rI n) = Q at *
    obtain ⟨s1, u1, v1⟩ := Q
    dsimp only [qV, qA, isV] at *
    all_goals (refine go ?_; and_intros <;> (try exact trivial) <;> repeat (first | refine fun (Bk : Nat) => ?_ | intro h))
    repeat' ((first | (apply G.cV (g := 33); rfl; rfl; exact fun w' _ => hin w') | (apply G.sliceL; rfl; rfl; rfl; rfl; rfl; rfl; rfl; rfl; intro Bs) | (apply G.apV; rfl; rfl; rfl; (repeat (first | exact RAt.head | apply RAt.tail)); exact SrcV.blk (by exact mm) rfl rfl; exact hap; omega; omega; intro a2 c2)) <;> (refine go ?_; and_intros <;> (try exact trivial) <;> repeat (first | refine fun (Bk : Nat) => ?_ | intro h)))
    exact J.fin (ih a2 c2)
  · obtain rfl : i = l.length := by omega
    rw [List.take_length]
    clear ih
    all_goals (refine go ?_; and_intros <;> (try exact trivial) <;> repeat (first | refine fun (Bk : Nat) => ?_ | intro h))
    (refine ret1 Tryz.func32 Tryz.results32 ?_; intro w' hw)
    exact satO hw (i := 0) rfl (List.length_map _) fun v => v
/-- The river of the documentation. -/
def exR (B : Nat) : List Rch := [⟨2, [1], some ⟨B, 0, none⟩, 1⟩, ⟨2, [1], some ⟨B, 0, none⟩, 1⟩, ⟨-1, [], none, 0⟩]
def exC : List Cm := [⟨2, 1, 5⟩, ⟨0, 2, 4⟩, ⟨1, 2, 4⟩, ⟨0, 3, 3⟩]
def exG (n : Int) : List Int := [n, 2, 1]
set_option maxHeartbeats 16000000 in
theorem example_holds (w0 : World) (M : List Row) (w : World) (n : Int) (h1 : 0 ≤ n) (h2 : n ≤ 1000) (hw : Sat w0 M w) :
    Calls Tryz.prog 31 #[.int .i64 n] w fun e w' => ∃ x : Nat × Nat × Option Addr × Nat × Nat, e = .returned (.tuple #[.agg #[.slice (some ⟨x.2.1, 0, none⟩) 3 3, .slice x.2.2.1 3 x.2.2.2.1], .slice (some ⟨x.2.2.2.2, 0, none⟩) 4 4]) ∧
      Sat w0 ([.blk x.2.2.2.2 54 (flat cmV exC) 20, .blk x.2.1 59 (flat rcV (exR x.1)) 6, slRow w0.heap.size x.2.2.1 3 (((exG n).map rI).map qF), .blk x.1 3 [.int .i64 1] 1] ++ M) w' := by
  have i5 := fun w' => int_holds 5 w' (by decide) (by decide)
  have i4 := fun w' => int_holds 4 w' (by decide) (by decide)
  have i3 := fun w' => int_holds 3 w' (by decide) (by decide)
  have hits := fun a c w' (hA : SlAt w' a 1 ((exG n).map isV)) => ints_holds a (exG n) c w' hA (show 3 ≤ 1000000 by decide) (fun m hm => by
    simp only [exG, List.mem_cons, List.not_mem_nil, or_false] at hm
    omega)
  have hcv : flat cmV exC = .int .i64 2 :: .int .i64 1 :: (qV (rQ 5) ++ .int .i64 0 :: .int .i64 2 :: (qV (rQ 4) ++ .int .i64 1 :: .int .i64 2 :: (qV (rQ 4) ++ .int .i64 0 :: .int .i64 3 :: (qV (rQ 3) ++ [])))) := rfl
  rw [hcv]
  clear hcv
  rw [show ((5 : Int) : Rat) = 5 from rfl] at i5
  rw [show ((4 : Int) : Rat) = 4 from rfl] at i4
  rw [show ((3 : Int) : Rat) = 3 from rfl] at i3
  generalize rQ 5 = q5 at *
  generalize rQ 4 = q4 at *
  generalize rQ 3 = q3 at *
  obtain ⟨s5, u5, v5⟩ := q5
  obtain ⟨s4, u4, v4⟩ := q4
  obtain ⟨s3, u3, v3⟩ := q3
  dsimp only [qA, qV] at *
  dsimp only [List.cons_append, List.nil_append]
  refine enterR [(0, .int .i64 n)] hw Tryz.func31 Tryz.ntmps31 ?_
  all_goals (refine go ?_; and_intros <;> (try exact trivial) <;> repeat (first | refine fun (Bk : Nat) => ?_ | intro h))
  repeat' ((first | (apply G.sliceL; rfl; rfl; rfl; rfl; rfl; rfl; rfl; rfl; intro Bs)) <;> (refine go ?_; and_intros <;> (try exact trivial) <;> repeat (first | refine fun (Bk : Nat) => ?_ | intro h)))
  rename_i B2
  apply J.cutK (X := Nat × Nat × Option Addr × Nat) (fun x => [(2, .pointer (some ⟨B2, 0, none⟩)), (5, .pointer (some ⟨x.1, 0, none⟩))]) (fun x => .blk x.1 25 [.slice (some ⟨x.2.1, 0, none⟩) 3 3, .slice x.2.2.1 3 x.2.2.2] 2 :: .blk x.2.1 59 (flat rcV (exR Bs)) 6 :: slRow w0.heap.size x.2.2.1 3 (((exG n).map rI).map qF) :: .blk Bs 3 [.int .i64 1] 1 :: .blk B2 25 [.slice none 0 0, .slice none 0 0] 2 :: M)
  · intro hk
    have hk := fun a b c d => hk ⟨a, b, c, d⟩
    dsimp only at hk
    all_goals (refine goR ?_; and_intros <;> (try exact trivial) <;> repeat (first | refine fun (Bk : Nat) => ?_ | intro h))
    repeat' ((first | (apply J.regA (.q 0 <| .q 1 <| .q 2 <| .q 3 <| .q 4 <| .q 6 <| .g 5 (.f 7 (.f 8 (.q 9 <| .e 10 <| .r 11 <| .nil) 10 (.e 8 <| .q 9 <| .r 11 <| .nil)) 10 (.e 7 <| .e 8 <| .q 9 <| .r 11 <| .nil)) 7 (.g 5 (.f 8 (.q 9 <| .e 10 <| .r 11 <| .nil) 10 (.e 8 <| .q 9 <| .r 11 <| .nil)) 8 (.f 5 (.q 9 <| .e 10 <| .r 11 <| .nil) 10 (.e 5 <| .q 9 <| .r 11 <| .nil)) 10 (.f 5 (.e 8 <| .q 9 <| .r 11 <| .nil) 8 (.e 5 <| .q 9 <| .r 11 <| .nil))) 10 (.f 5 (.e 7 <| .e 8 <| .q 9 <| .r 11 <| .nil) 7 (.f 5 (.e 8 <| .q 9 <| .r 11 <| .nil) 8 (.e 5 <| .q 9 <| .r 11 <| .nil)))); exact Tryz.mixed; decide +kernel) | (apply G.fork3) | (apply G.fork) | (apply G.sliceL (d := 13); rfl; rfl; rfl; rfl; rfl; rfl; rfl; rfl; intro Br) | (apply G.sliceL (d := 15); rfl; rfl; rfl; rfl; rfl; rfl; rfl; rfl; intro Bi) | (apply G.cN (g := 32) (fun a' c' => .slice a' 3 c') (((exG n).map rI).map qF); rfl; rfl; exact fun w' hw' => hits _ _ w' (blkSlA (f := isV) (l := exG n) hw' isV_len (by exact mm)).1; intro ga gc hp1 hq1) | (apply J.regQ; exact Tryz.mixed; decide +kernel) | (apply J.regL'; exact Tryz.mixed; decide +kernel)) <;> (refine goR ?_; and_intros <;> (try exact trivial) <;> repeat (first | refine fun (Bk : Nat) => ?_ | intro h)))
    all_goals exact J.finS (hk Bk Br ga gc)
  · intro ⟨B5, Br, ga, gc⟩
    dsimp only
    all_goals (refine goR ?_; and_intros <;> (try exact trivial) <;> repeat (first | refine fun (Bk : Nat) => ?_ | intro h))
    repeat' ((first | (apply J.regS (.blk B5 25 [.slice (some ⟨Br, 0, none⟩) 3 3, .slice ga 3 gc] 2 :: .blk Br 59 (flat rcV (exR Bs)) 6 :: slRow w0.heap.size ga 3 (((exG n).map rI).map qF) :: .blk Bs 3 [.int .i64 1] 1 :: M) (.q 0 <| .q 1 <| .q 2 <| .q 3 <| .q 4 <| .q 5 <| .q 6 <| .q 7 <| .q 8 <| .f 9 (.e 10 <| .q 11 <| .nil) 10 (.e 9 <| .q 11 <| .nil)); exact Tryz.mixed; decide +kernel; (repeat' (first | exact List.Sublist.refl _ | apply List.Sublist.cons_cons | apply List.Sublist.cons))) | (apply G.forkS) | (apply G.cV (g := 33) (vs := [.int .i64 5]); rfl; rfl; exact fun w' _ => i5 w') | (apply G.cV (g := 33) (vs := [.int .i64 4]); rfl; rfl; exact fun w' _ => i4 w') | (apply G.cV (g := 33) (vs := [.int .i64 3]); rfl; rfl; exact fun w' _ => i3 w') | (apply G.sliceL (out := [.int .i64 2, .int .i64 1, .bool s5, .string (bs u5), .string (bs v5), .int .i64 0, .int .i64 2, .bool s4, .string (bs u4), .string (bs v4), .int .i64 1, .int .i64 2, .bool s4, .string (bs u4), .string (bs v4), .int .i64 0, .int .i64 3, .bool s3, .string (bs u3), .string (bs v3)]); rfl; rfl; rfl; rfl; rfl; rfl; rfl; kernel_rfl; intro Bc) | (apply G.sAO (vs := [.slice (some ⟨Br, 0, none⟩) 3 3, .slice ga 3 gc]); rfl; rfl; rfl; (repeat (first | exact RAt.head | apply RAt.tail)); rfl; rfl; exact Nat.le_of_ble_eq_true rfl; rfl; (repeat' (first | exact List.Sublist.refl _ | apply List.Sublist.cons_cons | apply List.Sublist.cons))) | (apply G.sAS (vs := [.slice (some ⟨Br, 0, none⟩) 3 3, .slice ga 3 gc]); rfl; rfl; rfl; rfl; (repeat (first | exact RAt.head | apply RAt.tail)); rfl; rfl; exact Nat.le_of_ble_eq_true rfl; rfl; (repeat' (first | exact List.Sublist.refl _ | apply List.Sublist.cons_cons | apply List.Sublist.cons))) | (apply J.regQ; exact Tryz.mixed; decide +kernel) | (apply J.regL'; exact Tryz.mixed; decide +kernel)) <;> (refine goR ?_; and_intros <;> (try exact trivial) <;> repeat (first | refine fun (Bk : Nat) => ?_ | intro h)))
    all_goals
      refine ret2 Tryz.func31 Tryz.results31 ?_
      exact fun w' hw' => ⟨(Bs, Br, ga, gc, Bc), rfl, hw'.forget (.cons_cons _ (.cons _ (.cons_cons _ (.cons_cons _ (.cons_cons _ (.cons _ (List.Sublist.refl _)))))))⟩
end Go.Proofs.YteaccaieaigeaaaGreatDoor
/-
  Contract of rights: the law's examples hold.
-/
namespace Go.Proofs.YteaccaieaigeaaaGreatDoor
open Go.RowKit Go.Sl Go.Num
theorem sameF_holds (a b : Option Addr) (X : List Rat) (c d : Nat) (w : World) (hA : SlAt w a 3 (X.map qF)) (hB : SlAt w b 3 (X.map qF)) (hn : X.length ≤ 1000000) :
    Calls Tryz.prog 17 #[.slice a X.length c, .slice b X.length d] w fun e w' => e = .returned (.bool true) ∧ Below w.heap.size w w' := by
  have h := sameQ_holds a b (X.map rQ) (X.map rQ) c d w (by rw [mapQF]; exact hA) (by rw [mapQF]; exact hB) (by rw [List.length_map]; omega)
  rw [List.length_map, decide_eq_true rfl] at h
  exact h
theorem sameI_holds (a b : Option Addr) (X : List Int) (c d : Nat) (w : World) (hA : SlAt w a 1 (X.map isV)) (hB : SlAt w b 1 (X.map isV)) (hn : X.length ≤ 1000000) :
    Calls Tryz.prog 23 #[.slice a X.length c, .slice b X.length d] w fun e w' => e = .returned (.bool true) ∧ Below w.heap.size w w' := by
  have h := sameInts_holds a b X X c d w hA hB (by omega)
  rw [decide_eq_true rfl] at h
  exact h
def clmQ (c : Cm) : Clm := ⟨c.pl, c.rk, rQ c.am⟩
def GQ (n : Int) : List Q3 := ((exG n).map rI).map rQ
def CQ : List Clm := exC.map clmQ
section
variable (B : Nat)
theorem ex1 : passR (exR B) (GQ 6) = ([6, 2, 9], 0) := by kernel_rfl
theorem ex2 : allR (exR B) (GQ 6) CQ = ([5, 2, 2, 0], 0) := by kernel_rfl
theorem ex3 : allR (exR B) (GQ 10) CQ = ([5, 4, 2, 2], 0) := by kernel_rfl
theorem ex4 : lefR (exR B) (GQ 6) CQ (([5, 2, 2, 0] : List Rat).map rQ) = ([4, 0, 0], 0) := by kernel_rfl
theorem ex5 : faiR (exR B) (GQ 6) CQ (([5, 2, 2, 0] : List Rat).map rQ) = (0, [-1, 2, 1, 2]) := by kernel_rfl
theorem ex6 : faiR (exR B) (GQ 6) CQ ((([5, 2, 1, 1] : List Int).map rI).map rQ) = (22, []) := by kernel_rfl
theorem ex7 : faiR (exR B) (GQ 6) CQ ((([5, 3, 1, 0] : List Int).map rI).map rQ) = (22, []) := by kernel_rfl
theorem ex8 : lefR (exR B) (GQ 6) CQ ((([5, 4, 1, 0] : List Int).map rI).map rQ) = ([], 20) := by kernel_rfl
theorem ex9 : rgtE (exR B) (GQ 6) CQ = 0 := by kernel_rfl
end
theorem few_list {l : List Int} (hb : ∀ n ∈ l, -999999999999999 ≤ n ∧ n ≤ 999999999999999) {k : Nat} (hk : 8 ≤ k) : ∀ q ∈ (l.map rI).map rQ, fewQ k q := fun q hq => by
  obtain ⟨x, hx, rfl⟩ := List.mem_map.1 hq
  obtain ⟨n, hn, rfl⟩ := List.mem_map.1 hx
  exact fewQ_le (rI_few (hb n hn).1 (hb n hn).2) hk
theorem exArg {w0 w : World} {M : List Row} {n : Int} {Bc Br Bw : Nat} {ga : Option Addr} (h1 : 0 ≤ n) (h2 : n ≤ 1000) (hw : Sat w0 M w) (m1 : Row.blk Bc 54 (flat cmV exC) 20 ∈ M) (m2 : Row.blk Br 59 (flat rcV (exR Bw)) 6 ∈ M) (m3 : slRow w0.heap.size ga 3 (((exG n).map rI).map qF) ∈ M) (m4 : Row.blk Bw 3 [.int .i64 1] 1 ∈ M) :
    Arg w (some ⟨Br, 0, none⟩) (exR Bw) ga (GQ n) (some ⟨Bc, 0, none⟩) CQ := by
  refine ⟨⟨(blkSlA (f := rcV) (l := exR Bw) hw rcV_len m2).1, fun r hr => ?_, ?_⟩, ?_, few_list (fun m hm => ?_) (by decide), fun c hc => ?_, show 3 ≤ 1000000 by decide, show 4 ≤ 1000000 by decide⟩
  · simp only [exR, List.mem_cons, List.not_mem_nil, or_false] at hr
    have h3 := (blkSlA (f := isV) (l := [1]) hw isV_len m4).1
    rcases hr with rfl | rfl | rfl
    · exact h3
    · exact h3
    · exact SlAt.nil
  · have h3 := hw.sl m3
    rw [← mapQF] at h3
    exact h3
  · have h3 := (blkSlA (f := cmV) (l := exC) hw cmV_len m1).1
    rw [CQ, List.map_map]
    exact h3
  · simp only [exG, List.mem_cons, List.not_mem_nil, or_false] at hm
    omega
  · obtain ⟨x, hx, rfl⟩ := List.mem_map.1 hc
    simp only [exC, List.mem_cons, List.not_mem_nil, or_false] at hx
    rcases hx with rfl | rfl | rfl | rfl
    · exact fewQ_le (rI_few (n := 5) (by decide) (by decide)) (by decide)
    · exact fewQ_le (rI_few (n := 4) (by decide) (by decide)) (by decide)
    · exact fewQ_le (rI_few (n := 4) (by decide) (by decide)) (by decide)
    · exact fewQ_le (rI_few (n := 3) (by decide) (by decide)) (by decide)
theorem exT {w0 w : World} {M : List Row} {N : Nat} {a : Option Addr} {T : List Rat} (hw : Sat w0 M w) (hm : slRow N a 3 (T.map qF) ∈ M) : SlAt w a 3 ((T.map rQ).map qV) := by rw [mapQF]; exact hw.sl hm
set_option maxHeartbeats 16000000 in
theorem sanity39_holds (w : World) : Calls Tryz.prog 10 #[] w fun e w' => e = .returned (.bool true) ∧ Below w.heap.size w w' := by
  have hex := fun n (h1 : 0 ≤ n) (h2 : n ≤ 1000) M w' (hw' : Sat w M w') => example_holds w M w' n h1 h2 hw'
  have hits := fun (l : List Int) (hl : l.length ≤ 1000000) (hb : ∀ n ∈ l, -999999999999999 ≤ n ∧ n ≤ 999999999999999) a c w' (hA : SlAt w' a 1 (l.map isV)) => ints_holds a l c w' hA hl hb
  have i2 := fun w' => int_holds 2 w' (by decide) (by decide)
  have i5 := fun w' => int_holds 5 w' (by decide) (by decide)
  have hcm := fun w' => vCmp (x := ((2 : Int) : Rat)) (y := ((5 : Int) : Rat)) ((rI_few (n := 2) (by decide) (by decide)).big (by decide)) ((rI_few (n := 5) (by decide) (by decide)).big (by decide)) w'
  rw [show sgnR (((2 : Int) : Rat) - ((5 : Int) : Rat)) = -1 by kernel_rfl] at hcm
  generalize rQ ((2 : Int) : Rat) = q2 at *
  generalize rQ ((5 : Int) : Rat) = q5 at *
  obtain ⟨s2, u2, v2⟩ := q2
  obtain ⟨s5, u5, v5⟩ := q5
  dsimp only [qA] at i2 i5 hcm
  have hfT : ∀ q ∈ ([5, 2, 2, 0] : List Rat).map rQ, fewQ 30000 q := few_list (l := [5, 2, 2, 0]) (by decide) (by decide)
  have hf1 : ∀ q ∈ (([5, 2, 1, 1] : List Int).map rI).map rQ, fewQ 30000 q := few_list (by decide) (by decide)
  have hf2 : ∀ q ∈ (([5, 3, 1, 0] : List Int).map rI).map rQ, fewQ 30000 q := few_list (by decide) (by decide)
  have hf3 : ∀ q ∈ (([5, 4, 1, 0] : List Int).map rI).map rQ, fewQ 30000 q := few_list (by decide) (by decide)
  refine enterA [] Tryz.func10 Tryz.ntmps10 ?_
  all_goals (refine go ?_; and_intros <;> (try exact trivial) <;> repeat (first | refine fun (Bk : Nat) => ?_ | intro h))
  repeat' ((first | (apply G.cR (g := 31) (d := 23) (v := fun x : Nat × Nat × Option Addr × Nat × Nat => .tuple #[.agg #[.slice (some ⟨x.2.1, 0, none⟩) 3 3, .slice x.2.2.1 3 x.2.2.2.1], .slice (some ⟨x.2.2.2.2, 0, none⟩) 4 4]) (Mn := fun x => [.blk x.2.2.2.2 54 (flat cmV exC) 20, .blk x.2.1 59 (flat rcV (exR x.1)) 6, slRow w.heap.size x.2.2.1 3 (((exG 6).map rI).map qF), .blk x.1 3 [.int .i64 1] 1]); rfl; rfl; exact fun w' hw' => hex 6 (by decide) (by decide) _ w' hw'; rintro ⟨Bw, Br, ga, gc, Bc⟩; dsimp only) | (apply G.cR (g := 31) (d := 52) (v := fun x : Nat × Nat × Option Addr × Nat × Nat => .tuple #[.agg #[.slice (some ⟨x.2.1, 0, none⟩) 3 3, .slice x.2.2.1 3 x.2.2.2.1], .slice (some ⟨x.2.2.2.2, 0, none⟩) 4 4]) (Mn := fun x => [.blk x.2.2.2.2 54 (flat cmV exC) 20, .blk x.2.1 59 (flat rcV (exR x.1)) 6, slRow w.heap.size x.2.2.1 3 (((exG 10).map rI).map qF), .blk x.1 3 [.int .i64 1] 1]); rfl; rfl; exact fun w' hw' => hex 10 (by decide) (by decide) _ w' hw'; rintro ⟨Bw2, Br2, ga2, gc2, Bc2⟩; dsimp only) | (apply G.cN (g := 11) (fun a' c' => .tuple #[.slice a' 3 c', .int .i64 0]) (([6, 2, 9] : List Rat).map qF); rfl; rfl; exact fun w' hw' => ex1 Bw ▸ Arg.vPass (exArg (by decide) (by decide) hw' (by exact mm) (by exact mm) (by exact mm) (by exact mm)) 3 gc w' (Below.refl _ _); intro ap cp hp1 hq1) | (apply G.cN (g := 13) (d := 34) (fun a' c' => .tuple #[.slice a' 4 c', .int .i64 0]) (([5, 2, 2, 0] : List Rat).map qF); rfl; rfl; exact fun w' hw' => ex2 Bw ▸ Arg.vAllot (exArg (by decide) (by decide) hw' (by exact mm) (by exact mm) (by exact mm) (by exact mm)) (fun _ => ⟨show 3 ≤ 12 by decide, show 4 ≤ 20 by decide⟩) (fun _ n hn => sortsTo12 (Nat.le_trans hn (show 4 ≤ 12 by decide))) 3 gc 4 w' (Below.refl _ _); intro at1 ct1 hp2 hq2) | (apply G.cN (g := 19) (d := 41) (fun a' c' => .tuple #[.slice a' 3 c', .int .i64 0]) (([4, 0, 0] : List Rat).map qF); rfl; rfl; exact fun w' hw' => ex4 Bw ▸ Arg.vLeft (exArg (by decide) (by decide) hw' (by exact mm) (by exact mm) (by exact mm) (by exact mm)) (exT hw' (by exact mm)) hfT (show 4 ≤ 1000000 by decide) 3 gc 4 ct1 w' (Below.refl _ _); intro al cl hp3 hq3) | (apply G.cN (g := 21) (d := 48) (fun a' c' => .tuple #[.slice a' 4 c', .int .i64 0]) (([-1, 2, 1, 2] : List Int).map isV); rfl; rfl; exact fun w' hw' => ex5 Bw ▸ Arg.vFair (exArg (by decide) (by decide) hw' (by exact mm) (by exact mm) (by exact mm) (by exact mm)) (exT hw' (by exact mm)) hfT (show 4 ≤ 1000000 by decide) 3 gc 4 ct1 w' (Below.refl _ _); intro af cf hp4 hq4) | (apply G.cN (g := 13) (d := 58) (fun a' c' => .tuple #[.slice a' 4 c', .int .i64 0]) (([5, 4, 2, 2] : List Rat).map qF); rfl; rfl; exact fun w' hw' => ex3 Bw2 ▸ Arg.vAllot (exArg (n := 10) (Bw := Bw2) (by decide) (by decide) hw' (by exact mm) (by exact mm) (by exact mm) (by exact mm)) (fun _ => ⟨show 3 ≤ 12 by decide, show 4 ≤ 20 by decide⟩) (fun _ n hn => sortsTo12 (Nat.le_trans hn (show 4 ≤ 12 by decide))) 3 gc2 4 w' (Below.refl _ _); intro au cu hp5 hq5) | (apply J.regA (.q 0 <| .q 1 <| .e 2 <| .e 3 <| .r 4 <| .q 5 <| .q 6 <| .q 7 <| .q 8 <| .q 9 <| .nil); exact Tryz.mixed; decide +kernel) | (apply G.cN (g := 32) (d := 65) (fun a' c' => .slice a' 4 c') ((([5, 2, 1, 1] : List Int).map rI).map qF); rfl; rfl; exact fun w' hw' => hits [5, 2, 1, 1] (by decide) (by decide) _ _ w' (blkSlA (f := isV) (l := [5, 2, 1, 1]) hw' isV_len (by exact mm)).1; intro ax1 cx1 px1 qx1) | (apply G.cN (g := 32) (d := 73) (fun a' c' => .slice a' 4 c') ((([5, 3, 1, 0] : List Int).map rI).map qF); rfl; rfl; exact fun w' hw' => hits [5, 3, 1, 0] (by decide) (by decide) _ _ w' (blkSlA (f := isV) (l := [5, 3, 1, 0]) hw' isV_len (by exact mm)).1; intro ax2 cx2 px2 qx2) | (apply G.cN (g := 32) (d := 81) (fun a' c' => .slice a' 4 c') ((([5, 4, 1, 0] : List Int).map rI).map qF); rfl; rfl; exact fun w' hw' => hits [5, 4, 1, 0] (by decide) (by decide) _ _ w' (blkSlA (f := isV) (l := [5, 4, 1, 0]) hw' isV_len (by exact mm)).1; intro ax3 cx3 px3 qx3) | (apply G.cN (g := 21) (d := 66) (fun a' c' => .tuple #[.slice a' 0 c', .int .i64 22]) ([] : List (List Value)); rfl; rfl; exact fun w' hw' => ex6 Bw ▸ Arg.vFair (exArg (by decide) (by decide) hw' (by exact mm) (by exact mm) (by exact mm) (by exact mm)) (exT hw' (by exact mm)) hf1 (show 4 ≤ 1000000 by decide) 3 gc 4 cx1 w' (Below.refl _ _); intro _ _ _ _) | (apply G.cN (g := 21) (d := 74) (fun a' c' => .tuple #[.slice a' 0 c', .int .i64 22]) ([] : List (List Value)); rfl; rfl; exact fun w' hw' => ex7 Bw ▸ Arg.vFair (exArg (by decide) (by decide) hw' (by exact mm) (by exact mm) (by exact mm) (by exact mm)) (exT hw' (by exact mm)) hf2 (show 4 ≤ 1000000 by decide) 3 gc 4 cx2 w' (Below.refl _ _); intro _ _ _ _) | (apply G.cN (g := 19) (d := 82) (fun a' c' => .tuple #[.slice a' 0 c', .int .i64 20]) ([] : List (List Value)); rfl; rfl; exact fun w' hw' => ex8 Bw ▸ Arg.vLeft (exArg (by decide) (by decide) hw' (by exact mm) (by exact mm) (by exact mm) (by exact mm)) (exT hw' (by exact mm)) hf3 (show 4 ≤ 1000000 by decide) 3 gc 4 cx3 w' (Below.refl _ _); intro _ _ _ _) | (apply G.sliceL; rfl; rfl; rfl; rfl; rfl; rfl; rfl; rfl; intro Bs) | (apply G.cN (g := 32) (d := 119) (fun a' c' => .slice a' 3 c') ((([6, 2, 9] : List Int).map rI).map qF); rfl; rfl; exact fun w' hw' => hits [6, 2, 9] (by decide) (by decide) _ _ w' (blkSlA (f := isV) (l := [6, 2, 9]) hw' isV_len (by exact mm)).1; intro ay1 cy1 py1 qy1) | (apply G.cN (g := 32) (d := 125) (fun a' c' => .slice a' 4 c') ((([5, 2, 2, 0] : List Int).map rI).map qF); rfl; rfl; exact fun w' hw' => hits [5, 2, 2, 0] (by decide) (by decide) _ _ w' (blkSlA (f := isV) (l := [5, 2, 2, 0]) hw' isV_len (by exact mm)).1; intro ay2 cy2 py2 qy2) | (apply G.cN (g := 32) (d := 131) (fun a' c' => .slice a' 3 c') ((([4, 0, 0] : List Int).map rI).map qF); rfl; rfl; exact fun w' hw' => hits [4, 0, 0] (by decide) (by decide) _ _ w' (blkSlA (f := isV) (l := [4, 0, 0]) hw' isV_len (by exact mm)).1; intro ay3 cy3 py3 qy3) | (apply G.cN (g := 32) (d := 142) (fun a' c' => .slice a' 4 c') ((([5, 4, 2, 2] : List Int).map rI).map qF); rfl; rfl; exact fun w' hw' => hits [5, 4, 2, 2] (by decide) (by decide) _ _ w' (blkSlA (f := isV) (l := [5, 4, 2, 2]) hw' isV_len (by exact mm)).1; intro ay4 cy4 py4 qy4) | (apply G.cV (g := 17) (d := 120) (v := .bool true); rfl; rfl; exact fun w' hw' => sameF_holds _ _ ([6, 2, 9] : List Rat) _ _ w' (hw'.sl (by exact mm)) (hw'.sl (M := _) (L := (([6, 2, 9] : List Int).map rI).map qF) (by exact mm)) (show 3 ≤ 1000000 by decide)) | (apply G.cV (g := 17) (d := 126) (v := .bool true); rfl; rfl; exact fun w' hw' => sameF_holds _ _ ([5, 2, 2, 0] : List Rat) _ _ w' (hw'.sl (by exact mm)) (hw'.sl (M := _) (L := (([5, 2, 2, 0] : List Int).map rI).map qF) (by exact mm)) (show 4 ≤ 1000000 by decide)) | (apply G.cV (g := 17) (d := 132) (v := .bool true); rfl; rfl; exact fun w' hw' => sameF_holds _ _ ([4, 0, 0] : List Rat) _ _ w' (hw'.sl (by exact mm)) (hw'.sl (M := _) (L := (([4, 0, 0] : List Int).map rI).map qF) (by exact mm)) (show 3 ≤ 1000000 by decide)) | (apply G.cV (g := 17) (d := 143) (v := .bool true); rfl; rfl; exact fun w' hw' => sameF_holds _ _ ([5, 4, 2, 2] : List Rat) _ _ w' (hw'.sl (by exact mm)) (hw'.sl (M := _) (L := (([5, 4, 2, 2] : List Int).map rI).map qF) (by exact mm)) (show 4 ≤ 1000000 by decide)) | (apply G.cV (g := 23) (v := .bool true); rfl; rfl; exact fun w' hw' => sameI_holds _ _ [-1, 2, 1, 2] _ _ w' (hw'.sl (by exact mm)) (blkSlA (f := isV) (l := [-1, 2, 1, 2]) hw' isV_len (by exact mm)).1 (by decide)) | (apply G.cV (g := 33) (d := 146); rfl; rfl; exact fun w' _ => i2 w') | (apply G.cV (g := 33) (d := 147); rfl; rfl; exact fun w' _ => i5 w') | (apply G.cV (g := 25); rfl; rfl; exact fun w' _ => hcm w') | (apply G.cV (g := 15); rfl; rfl; exact fun w' hw' => ex9 Bw ▸ Arg.vck (exArg (by decide) (by decide) hw' (by exact mm) (by exact mm) (by exact mm) (by exact mm)) 3 gc 4 w' (Below.refl _ _))) <;> (refine go ?_; and_intros <;> (try exact trivial) <;> repeat (first | refine fun (Bk : Nat) => ?_ | intro h)))
  all_goals refine ret1b Tryz.func10 Tryz.results10 ?_
  all_goals rfl
end Go.Proofs.YteaccaieaigeaaaGreatDoor
/-
  The laws RightsAllotAsSpecified and RightsFairAsSpecified.
-/
namespace Go.Proofs.YteaccaieaigeaaaGreatDoor
open Go.RowKit Go.Sl Go.Num
theorem faiR_len {R : List Rch} {Gs : List Q3} {L : List Clm} {Tq : List Q3} (hL : L.length ≤ 1000) : (faiR R Gs L Tq).2.length ≤ 1000000 := by
  rw [faiR]
  split
  · exact Nat.zero_le _
  · rw [frE]
    split
    · exact Nat.zero_le _
    · split
      · exact Nat.zero_le _
      · rename_i h
        have h1 := congrArg List.length (allO_some.1 h)
        rw [List.length_map, List.length_map, List.length_zip, List.length_map] at h1
        dsimp only
        omega
end Go.Proofs.YteaccaieaigeaaaGreatDoor
/-
  How the arguments of the laws of rights read.
-/
namespace Go.Proofs.YteaccaieaigeaaaGreatDoor
open Go.RowKit Go.Sl Go.Num Go.ChangeShapes Go.WideShapes
theorem rKer9 : Reads Tryz.prog 57 (fun s : Sld Int => [s.v]) (fun w s => SlAt w s.ad 1 (s.l.map isV)) := (Reads.struct1 (n := 1) Tryz.underlying57 (by kernel_rfl) (by kernel_rfl) rInts).mono fun _ _ h => h.1
theorem rRch9 : Reads Tryz.prog 59 rcV (fun w r => SlAt w r.adr 1 (r.ws.map isV)) := (Reads.struct2 (n := 2) Tryz.underlying59 (by kernel_rfl) (by kernel_rfl) rInt rKer9).turn fun _ a h => ⟨⟨a.1, a.2.l, a.2.ad, a.2.cap⟩, rfl, h.2⟩
theorem rRchs9 : Reads Tryz.prog 22 (fun s : Sld Rch => [s.v]) (fun w s => SlAt w s.ad 2 (s.l.map rcV) ∧ KerAt w s.l) := (Reads.slice (sz := 2) Tryz.underlying22 (by kernel_rfl) (by decide) rRch9).mono fun _ _ h => ⟨h.1, h.2.2.2⟩
theorem rQs9 : Reads Tryz.prog 23 (fun s : Sld Q3 => [s.v]) (fun w s => SlAt w s.ad 3 (s.l.map qV)) := rRats
theorem rSup9 : Reads Tryz.prog 25 (fun s : Sld Rch × Sld Q3 => [s.1.v, s.2.v]) (fun w s => SupAt w s.1.ad s.1.l s.2.ad (s.2.l.map qV)) := (Reads.struct2 (n := 2) Tryz.underlying25 (by kernel_rfl) (by kernel_rfl) rRchs9 rQs9).mono fun _ _ h => ⟨h.1.1, h.1.2, h.2⟩
theorem rClm9 : Reads Tryz.prog 54 clV (fun _ _ => True) := (Reads.struct3 (n := 5) Tryz.underlying54 (by kernel_rfl) (by kernel_rfl) rInt rInt rRat).turn fun _ a h => ⟨⟨a.1, a.2.1, a.2.2⟩, rfl, trivial⟩
theorem rClms9 : Reads Tryz.prog 26 (fun s : Sld Clm => [s.v]) (fun w s => SlAt w s.ad 5 (s.l.map clV)) := (Reads.slice (sz := 5) Tryz.underlying26 (by kernel_rfl) (by decide) rClm9).mono fun _ _ h => h.1
set_option maxRecDepth 100000 in
theorem argU9 {H : Type} {enc : TypeId × Value → H} {W : World} {r : Reach} {base : Nat} {v : Value} {d : DataW H} {ps : List MemPlace} (hk : Value.okWide Tryz.prog W r base 5 v) (hv : DataW.Trod enc Tryz.prog W 0 (fun _ => true) true 5 v d ps) : ∃ n : Nat, v = .int .u8 n ∧ n ≤ 255 := by
  obtain ⟨i, rfl⟩ := okWide_int Tryz.underlying5 hk
  obtain ⟨n, h1, h2⟩ := rU8.arg hv
  have h3 : [Value.int .u8 i] = [Value.int .u8 n] := h1
  cases h3
  exact ⟨n, rfl, h2⟩
end Go.Proofs.YteaccaieaigeaaaGreatDoor
/-
  Plain laws of rights: allotting is the one fair way; seniors, growth, order.
-/
namespace Go.Proofs.YteaccaieaigeaaaGreatDoor
open Go.RowKit Go.Sl Go.Num
/-- What Allot hands out is fair. -/
theorem all_fair {R : List Rch} {Gs : List Rat} {L : List Cm} (hA : Alo R Gs L) (hs : SupOk R Gs) (hC : ClOk R.length L) : Fair (onR R) R.length (fsq Gs) (L.zip (allT R Gs L 101)) :=
  (rk_all hA hs hC 101).done.fair fun z hz => by have := hC.rk _ (List.of_mem_zip hz).1; omega
theorem zip3_1 {L : List Cm} {T U : List Rat} (h1 : T.length = L.length) (h2 : U.length = L.length) : (L.zip (T.zip U)).map (fun x => (x.1, x.2.1)) = L.zip T := by
  apply List.ext_getElem
  · simp only [List.length_map, List.length_zip]; omega
  · intro i q1 q2; simp only [List.getElem_map, List.getElem_zip]
theorem zip3_2 {L : List Cm} {T U : List Rat} (h1 : T.length = L.length) (h2 : U.length = L.length) : (L.zip (T.zip U)).map (fun x => (x.1, x.2.2)) = L.zip U := by
  apply List.ext_getElem
  · simp only [List.length_map, List.length_zip]; omega
  · intro i q1 q2; simp only [List.getElem_map, List.getElem_zip]
/-- With more water no claim gets less. -/
theorem fair_le {on : Nat → Nat → Bool} (W : Wy on) {n : Nat} {gn gn' : Nat → Rat} {L : List Cm} {T U : List Rat} (h1 : T.length = L.length) (h2 : U.length = L.length)
    (hT : Fair on n gn (L.zip T)) (hU : Fair on n gn' (L.zip U)) (hg : ∀ p, p < n → gn p ≤ gn' p) (k : Nat) (k1 : k < T.length) (k2 : k < U.length) : T[k] ≤ U[k] := by
  have := mono W (L.zip (T.zip U)) [] (by rw [zip3_1 h1 h2, List.append_nil]; exact hT) (by rw [zip3_2 h1 h2]; exact hU) hg ((L.zip (T.zip U))[k]'(by rw [List.length_zip, List.length_zip]; omega)) (List.getElem_mem _)
  simpa only [List.getElem_zip] using this
/-- There is one fair way only. -/
theorem fair_one {on : Nat → Nat → Bool} (W : Wy on) {n : Nat} {gn : Nat → Rat} {L : List Cm} {T U : List Rat} (h1 : T.length = L.length) (h2 : U.length = L.length)
    (hT : Fair on n gn (L.zip T)) (hU : Fair on n gn (L.zip U)) : T = U :=
  List.ext_getElem (by omega) fun k k1 k2 => Rat.le_antisymm (fair_le W h1 h2 hT hU (fun _ _ => Rat.le_refl) k k1 k2) (fair_le W h2 h1 hU hT (fun _ _ => Rat.le_refl) k k2 k1)
theorem all_one {R : List Rch} {Gs : List Rat} {L : List Cm} (hA : Alo R Gs L) (hs : SupOk R Gs) (hC : ClOk R.length L) {T : List Rat} (h1 : T.length = L.length) (hT : Fair (onR R) R.length (fsq Gs) (L.zip T)) : T = allT R Gs L 101 :=
  fair_one (wyR (riv_of hs.riv)) h1 (allT_len 101) hT (all_fair hA hs hC)
/-! ### seniors -/
theorem used_le {on : Nat → Nat → Bool} {zs : List (Cm × Rat)} (hn : ∀ z ∈ zs, 0 ≤ z.2) (p : Cm × Rat → Bool) (g : Nat) : used on (zs.filter p) g ≤ used on zs g := by
  rw [used, used, qs_filter]
  refine qs_le fun z hz => ?_
  have := hn z hz
  split
  · exact Rat.le_refl
  · split
    · exact this
    · exact Rat.le_refl
theorem used_eq {on : Nat → Nat → Bool} {zs : List (Cm × Rat)} {p : Cm × Rat → Bool} {g : Nat} (h : ∀ z ∈ zs, on z.1.pl g = true → p z = false → z.2 = 0) : used on (zs.filter p) g = used on zs g := by
  rw [used, used, qs_filter]
  refine qs_congr fun z hz => ?_
  cases hp : p z with
  | true => rw [if_pos rfl]
  | false =>
    rw [if_neg (by decide)]
    split
    · rename_i ho; exact (h z hz ho hp).symm
    · rfl
/-- Without the claims of greater ranks those of lesser ones get the same. -/
theorem fair_sen {on : Nat → Nat → Bool} {n : Nat} {gn : Nat → Rat} {zs : List (Cm × Rat)} (h : Fair on n gn zs) (r : Nat) : Fair on n gn (zs.filter fun z => decide (z.1.rk ≤ r)) := by
  have mem := fun {z} (hz : z ∈ zs.filter fun z => decide (z.1.rk ≤ r)) => List.mem_filter.1 hz
  refine ⟨fun z hz => h.nn z (mem hz).1, fun g hg => Rat.le_trans (used_le (fun z hz => (h.nn z hz).1) _ g) (h.ok g hg), fun z hz he => ?_⟩
  obtain ⟨hz1, hz2⟩ := mem hz
  have hz2 := of_decide_eq_true hz2
  obtain ⟨g, b1, b2, b3, b4, b5⟩ := h.bd z hz1 he
  refine ⟨g, b1, b2, ?_, fun y hy => b4 y (mem hy).1, fun y hy => b5 y (mem hy).1⟩
  rw [used_eq]
  · exact b3
  · intro y hy ho hp
    have := of_decide_eq_false hp
    exact b4 y hy ho (by omega)
/-! ### multiplied -/
/-! ### a claim less -/
end Go.Proofs.YteaccaieaigeaaaGreatDoor
