/-
  Contracts of rights: all functions of both, for whatever arguments.
-/
import Derived.Test.YtcdgibkbbcekhaaGreatDoorGR11
import Derived.Test.YtcdgibkbbcekhaaGreatDoorGR13
set_option linter.unusedVariables false
set_option linter.unusedSimpArgs false
set_option linter.unusedSectionVars false
namespace Go.Proofs.YtcdgibkbbcekhaaGreatDoor
open Go.RowKit Go.Sl Go.Num
def cmO (c : Clm) : Cm := ⟨c.pl.toNat, c.rk.toNat, qR c.am⟩
theorem good_q {q : Q3} (h : natB q = true) : rQ (qR q) = q ∧ 0 ≤ qR q := by
  refine ⟨natB_q h, ?_⟩
  have h1 := natB_rQ (qR q)
  rw [natB_q h, h] at h1
  exact of_decide_eq_true h1.symm
theorem good_sup {R : List Rch} {Gs : List Q3} (h : supE R Gs = 0) (hf : ∀ q ∈ Gs, fewQ 100 q) : SupOk R (Gs.map qR) ∧ (Gs.map qR).map qF = Gs.map qV := by
  rw [supE] at h
  have h1 : rivErr R = 0 := Decidable.not_not.1 fun hc => by rw [if_pos hc] at h; exact hc h
  rw [if_neg (not_not_intro h1)] at h
  have h2 : ¬ (Gs.length ≠ R.length ∨ (Gs.any fun q => !natB q) = true) := fun hc => by rw [if_pos hc] at h; cases h
  have h3 : Gs.length = R.length := Decidable.not_not.1 fun hc => h2 (.inl hc)
  have h4 : ∀ q ∈ Gs, natB q = true := fun q hq => by
    cases hb : natB q with
    | true => rfl
    | false => exact absurd (.inr (List.any_eq_true.2 ⟨q, hq, by rw [hb]; rfl⟩)) h2
  refine ⟨⟨h1, by rw [List.length_map]; exact h3, fun x hx => ?_, fun x hx => ?_⟩, good_map h4⟩
  · obtain ⟨q, hq, rfl⟩ := List.mem_map.1 hx
    exact (good_q (h4 q hq)).2
  · obtain ⟨q, hq, rfl⟩ := List.mem_map.1 hx
    rw [(good_q (h4 q hq)).1]; exact hf q hq
theorem clmE_ok {n : Nat} {c : Clm} (h : clmE n c = 0) : (0 ≤ c.pl ∧ c.pl < n ∧ 0 ≤ c.rk ∧ c.rk ≤ 100) ∧ natB c.am = true := by
  rw [clmE] at h
  by_cases h1 : c.pl < 0 ∨ (n : Int) ≤ c.pl ∨ c.rk < 0 ∨ 100 < c.rk
  · rw [if_pos h1] at h; cases h
  · rw [if_neg h1] at h
    refine ⟨by omega, ?_⟩
    cases hb : natB c.am with
    | true => rfl
    | false => rw [hb] at h; cases h
theorem clmsE_ok {n : Nat} : ∀ {L : List Clm}, clmsE n L = 0 → ∀ c ∈ L, clmE n c = 0
  | x :: L, h, c, hc => by
    rw [clmsE] at h
    by_cases h1 : clmE n x = 0
    · rw [if_neg (not_not_intro h1)] at h
      rcases List.mem_cons.1 hc with rfl | hc
      · exact h1
      · exact clmsE_ok h c hc
    · rw [if_pos h1] at h; exact absurd h h1
theorem good_clm {n : Nat} {L : List Clm} (h : clmsE n L = 0) (hf : ∀ c ∈ L, fewQ 100 c.am) (hl : L.length ≤ 205) : ClOk n (L.map cmO) ∧ (L.map cmO).map cmV = L.map clV := by
  have h1 := fun c hc => clmE_ok (clmsE_ok h c hc)
  refine ⟨⟨by rw [List.length_map]; exact hl, fun c hc => ?_, fun c hc => ?_, fun c hc => ?_, fun c hc => ?_⟩, ?_⟩
  any_goals
    obtain ⟨x, hx, rfl⟩ := List.mem_map.1 hc
    have h2 := h1 x hx
    have h3 := good_q h2.2
  · show x.pl.toNat < n; omega
  · show x.rk.toNat ≤ 100; omega
  · exact h3.2
  · show fewQ 100 (rQ (qR x.am)); rw [h3.1]; exact hf x hx
  · rw [List.map_map]
    refine List.map_congr_left fun x hx => ?_
    have h2 := h1 x hx
    show cmV (cmO x) = clV x
    rw [cmV, qF, cmO]
    dsimp only
    rw [(good_q h2.2).1, Int.toNat_of_nonneg h2.1.1, Int.toNat_of_nonneg h2.1.2.2.1]; rfl
theorem rgtE_ok {R : List Rch} {Gs : List Q3} {L : List Clm} (h : rgtE R Gs L = 0) : supE R Gs = 0 ∧ L.length ≤ 200 ∧ clmsE R.length L = 0 := by
  rw [rgtE] at h
  by_cases h1 : supE R Gs = 0
  · rw [if_neg (not_not_intro h1)] at h
    by_cases h2 : 200 < L.length
    · rw [if_pos h2] at h; cases h
    · rw [if_neg h2] at h; exact ⟨h1, by omega, h⟩
  · rw [if_pos h1] at h; exact absurd h h1
/-- What is known of the arguments. -/
structure Arg (w : World) (ra : Option Addr) (R : List Rch) (ga : Option Addr) (Gs : List Q3) (la : Option Addr) (L : List Clm) : Prop where
  sup : SupAt w ra R ga (Gs.map qV)
  cl : SlAt w la 5 (L.map clV)
  gf : ∀ q ∈ Gs, fewQ 41 q
  cf : ∀ c ∈ L, fewQ 41 c.am
  len : Gs.length ≤ 1000000 ∧ L.length ≤ 1000000
theorem Arg.below {w w' : World} {ra : Option Addr} {R : List Rch} {ga : Option Addr} {Gs : List Q3} {la : Option Addr} {L : List Clm} (h : Arg w ra R ga Gs la L) (hb : Below w.heap.size w w') : Arg w' ra R ga Gs la L := ⟨h.sup.below hb, h.cl.below hb, h.gf, h.cf, h.len⟩
theorem Arg.nil {w : World} {ra : Option Addr} {R : List Rch} {ga : Option Addr} {Gs : List Q3} {la : Option Addr} {L : List Clm} (h : Arg w ra R ga Gs la L) : Arg w ra R ga Gs none [] := ⟨h.sup, SlAt.nil, h.gf, (fun c hc => by cases hc), h.len.1, Nat.zero_le _⟩
theorem Arg.vck {w : World} {ra : Option Addr} {R : List Rch} {ga : Option Addr} {Gs : List Q3} {la : Option Addr} {L : List Clm} (h : Arg w ra R ga Gs la L) (rc gc lc : Nat) (w' : World) (hb : Below w.heap.size w w') :
    Calls Tryz.prog 48 #[.agg #[.slice ra R.length rc, .slice ga Gs.length gc], .slice la L.length lc] w' fun e w2 => e = .returned (.int .i64 (rgtE R Gs L)) ∧ Below w'.heap.size w' w2 :=
  vCheck_holds ra R rc ga Gs gc la L lc w' (h.sup.below hb) (h.cl.below hb) (fun q hq => fewQ_le (h.gf q hq) (by decide)) (fun c hc => fewQ_le (h.cf c hc) (by decide)) h.len
/-! ### Passing -/
def passR (R : List Rch) (Gs : List Q3) : List Rat × Int := if supE R Gs ≠ 0 then ([], supE R Gs) else (gl R.length (sup (onR R) R.length (fsq (Gs.map qR))), 0)
theorem rgt_nil (R : List Rch) (Gs : List Q3) : rgtE R Gs [] = supE R Gs := by
  rw [rgtE]
  split
  · rfl
  · rename_i h
    rw [if_neg (by simp), clmsE]; omega
theorem Arg.vPass {w : World} {ra : Option Addr} {R : List Rch} {ga : Option Addr} {Gs : List Q3} {la : Option Addr} {L : List Clm} (h : Arg w ra R ga Gs la L) (rc gc : Nat) (w' : World) (hb : Below w.heap.size w w') :
    Calls Tryz.prog 53 #[.agg #[.slice ra R.length rc, .slice ga Gs.length gc]] w' (RetQ (fun v => .tuple #[v, .int .i64 (passR R Gs).2]) w' (passR R Gs).1) := by
  have h := h.below hb
  have hck := h.nil.vck rc gc 0
  rw [rgt_nil, List.length_nil] at hck
  rw [passR]
  by_cases h0 : supE R Gs = 0
  · rw [if_neg (not_not_intro h0)]
    obtain ⟨h1, h2⟩ := good_sup h0 fun q hq => fewQ_le (h.gf q hq) (by decide)
    have hs := h.sup
    rw [← h2] at hs
    have h3 := vPassing_holds w' [] w' ra R rc ga (Gs.map qR) gc hs h1 (Sat.start _)
    rw [List.length_map] at h3
    refine h3.mono fun e w2 ⟨B, e1, e2⟩ => ?_
    subst e1
    exact satQ e2 (.head _) (gl_len _ _) fun v => .tuple #[v, .int .i64 0]
  · rw [if_pos h0]
    clear h
    generalize supE R Gs = E at *
    refine enterA [(0, .agg #[.slice ra R.length rc, .slice ga Gs.length gc])] Tryz.func53 Tryz.ntmps53 ?_
    all_goals (refine go ?_; and_intros <;> (try exact trivial) <;> repeat (first | refine fun (Bk : Nat) => ?_ | intro h))
    repeat' ((first | (apply G.cV (g := 48); rfl; rfl; exact fun w' hw => hck w' hw.below)) <;> (refine go ?_; and_intros <;> (try exact trivial) <;> repeat (first | refine fun (Bk : Nat) => ?_ | intro h)))
    (refine ret2 Tryz.func53 Tryz.results53 ?_; intro w' hw)
    exact retQ_nil (fun v => .tuple #[v, .int .i64 E]) hw.below
/-! ### Allot -/
def allR (R : List Rch) (Gs : List Q3) (L : List Clm) : List Rat × Int := if rgtE R Gs L ≠ 0 then ([], rgtE R Gs L) else (allT R (Gs.map qR) (L.map cmO) 101, 0)
/-- Supplies and claims of which Allot is reckoned. -/
def Lim (R : List Rch) (Gs : List Q3) (L : List Clm) : Prop := rgtE R Gs L = 0 → R.length ≤ 12 ∧ L.length ≤ 20
theorem Arg.ok {w : World} {ra : Option Addr} {R : List Rch} {ga : Option Addr} {Gs : List Q3} {la : Option Addr} {L : List Clm} (h : Arg w ra R ga Gs la L) (h0 : rgtE R Gs L = 0) :
    SupOk R (Gs.map qR) ∧ SupAt w ra R ga ((Gs.map qR).map qF) ∧ ClOk R.length (L.map cmO) ∧ SlAt w la 5 ((L.map cmO).map cmV) := by
  obtain ⟨h1, h2, h3⟩ := rgtE_ok h0
  obtain ⟨h4, h5⟩ := good_sup h1 fun q hq => fewQ_le (h.gf q hq) (by decide)
  obtain ⟨h6, h7⟩ := good_clm h3 (fun c hc => fewQ_le (h.cf c hc) (by decide)) (by omega)
  exact ⟨h4, by rw [h5]; exact h.sup, h6, by rw [h7]; exact h.cl⟩
theorem Arg.alo {w : World} {ra : Option Addr} {R : List Rch} {ga : Option Addr} {Gs : List Q3} {la : Option Addr} {L : List Clm} (h : Arg w ra R ga Gs la L) (h0 : rgtE R Gs L = 0) (hl : Lim R Gs L) : Alo R (Gs.map qR) (L.map cmO) := by
  obtain ⟨h1, h2, h3⟩ := rgtE_ok h0
  have hg : ∀ q ∈ Gs, natB q = true := by
    rw [supE] at h1
    by_cases hr : rivErr R = 0
    · rw [if_neg (not_not_intro hr)] at h1
      by_cases hc : Gs.length ≠ R.length ∨ (Gs.any fun q => !natB q) = true
      · rw [if_pos hc] at h1; cases h1
      · intro q hq
        cases hb : natB q with
        | true => rfl
        | false => exact absurd (.inr (List.any_eq_true.2 ⟨q, hq, by rw [hb]; rfl⟩)) hc
    · rw [if_pos hr] at h1; exact absurd h1 hr
  refine ⟨(hl h0).1, by rw [List.length_map]; exact (hl h0).2, fun x hx => ?_, fun c hc => ?_⟩
  · obtain ⟨q, hq, rfl⟩ := List.mem_map.1 hx
    rw [(good_q (hg q hq)).1]; exact h.gf q hq
  · obtain ⟨x, hx, rfl⟩ := List.mem_map.1 hc
    show fewQ 41 (rQ (qR x.am))
    rw [(good_q (clmE_ok (clmsE_ok h3 x hx)).2).1]; exact h.cf x hx
theorem Arg.vAllot {w : World} {ra : Option Addr} {R : List Rch} {ga : Option Addr} {Gs : List Q3} {la : Option Addr} {L : List Clm} (h : Arg w ra R ga Gs la L) (hl : Lim R Gs L) (hso : rgtE R Gs L = 0 → ∀ n, n ≤ L.length → SortsTo n) (rc gc lc : Nat) (w' : World) (hb : Below w.heap.size w w') :
    Calls Tryz.prog 14 #[.agg #[.slice ra R.length rc, .slice ga Gs.length gc], .slice la L.length lc] w' (RetQ (fun v => .tuple #[v, .int .i64 (allR R Gs L).2]) w' (allR R Gs L).1) := by
  have h := h.below hb
  have hck := h.vck rc gc lc
  rw [allR]
  by_cases h0 : rgtE R Gs L = 0
  · rw [if_neg (not_not_intro h0)]
    rw [h0] at hck
    obtain ⟨h1, h2, h3, h4⟩ := h.ok h0
    have h5 := vAllot_holds w' ra R rc ga (Gs.map qR) gc la (L.map cmO) lc h2 h1 h4 h3 (h.alo h0 hl) (by rw [List.length_map]; exact hso h0)
    rw [List.length_map, List.length_map] at h5
    exact h5 hck
  · rw [if_pos h0]
    clear h hl hso
    generalize rgtE R Gs L = E at *
    refine enterA [(0, .agg #[.slice ra R.length rc, .slice ga Gs.length gc]), (1, .slice la L.length lc)] Tryz.func14 Tryz.ntmps14 ?_
    all_goals (refine go ?_; and_intros <;> (try exact trivial) <;> repeat (first | refine fun (Bk : Nat) => ?_ | intro h))
    repeat' ((first | (apply G.cV (g := 48); rfl; rfl; exact fun w' hw => hck w' hw.below)) <;> (refine go ?_; and_intros <;> (try exact trivial) <;> repeat (first | refine fun (Bk : Nat) => ?_ | intro h)))
    (refine ret2 Tryz.func14 Tryz.results14 ?_; intro w' hw)
    exact retQ_nil (fun v => .tuple #[v, .int .i64 E]) hw.below
/-! ### Left -/
def lefR (R : List Rch) (Gs : List Q3) (L : List Clm) (Tq : List Q3) : List Rat × Int := if rgtE R Gs L ≠ 0 then ([], rgtE R Gs L) else
  (if lfE R (Gs.map qR) (L.map cmO) Tq = 0 then gl R.length (rsT R (Gs.map qR) (L.map cmO) (Tq.map qR)) else [], lfE R (Gs.map qR) (L.map cmO) Tq)
theorem Arg.vLeft {w : World} {ra : Option Addr} {R : List Rch} {ga : Option Addr} {Gs : List Q3} {la : Option Addr} {L : List Clm} (h : Arg w ra R ga Gs la L) {ta : Option Addr} {Tq : List Q3} (hT : SlAt w ta 3 (Tq.map qV)) (hf : ∀ q ∈ Tq, fewQ 30000 q) (htl : Tq.length ≤ 1000000) (rc gc lc tc : Nat) (w' : World) (hb : Below w.heap.size w w') :
    Calls Tryz.prog 54 #[.agg #[.slice ra R.length rc, .slice ga Gs.length gc], .slice la L.length lc, .slice ta Tq.length tc] w' (RetQ (fun v => .tuple #[v, .int .i64 (lefR R Gs L Tq).2]) w' (lefR R Gs L Tq).1) := by
  have h := h.below hb
  have hT := hT.below hb
  have hck := h.vck rc gc lc
  rw [lefR]
  by_cases h0 : rgtE R Gs L = 0
  · rw [if_neg (not_not_intro h0)]
    rw [h0] at hck
    obtain ⟨h1, h2, h3, h4⟩ := h.ok h0
    have h5 := vLeft_holds w' ra R rc ga (Gs.map qR) gc la (L.map cmO) lc ta Tq tc h2 h1 h4 h3 hT hf htl
    rw [List.length_map, List.length_map] at h5
    exact h5 hck
  · rw [if_pos h0]
    clear h hT hf htl
    generalize rgtE R Gs L = E at *
    refine enterA [(0, .agg #[.slice ra R.length rc, .slice ga Gs.length gc]), (1, .slice la L.length lc), (2, .slice ta Tq.length tc)] Tryz.func54 Tryz.ntmps54 ?_
    all_goals (refine go ?_; and_intros <;> (try exact trivial) <;> repeat (first | refine fun (Bk : Nat) => ?_ | intro h))
    repeat' ((first | (apply G.cV (g := 48); rfl; rfl; exact fun w' hw => hck w' hw.below)) <;> (refine go ?_; and_intros <;> (try exact trivial) <;> repeat (first | refine fun (Bk : Nat) => ?_ | intro h)))
    (refine ret2 Tryz.func54 Tryz.results54 ?_; intro w' hw)
    exact retQ_nil (fun v => .tuple #[v, .int .i64 E]) hw.below
/-! ### Fair -/
def faiR (R : List Rch) (Gs : List Q3) (L : List Clm) (Tq : List Q3) : Int × List Int := if rgtE R Gs L ≠ 0 then (rgtE R Gs L, []) else frE R (Gs.map qR) (L.map cmO) Tq
theorem Arg.vFair {w : World} {ra : Option Addr} {R : List Rch} {ga : Option Addr} {Gs : List Q3} {la : Option Addr} {L : List Clm} (h : Arg w ra R ga Gs la L) {ta : Option Addr} {Tq : List Q3} (hT : SlAt w ta 3 (Tq.map qV)) (hf : ∀ q ∈ Tq, fewQ 30000 q) (htl : Tq.length ≤ 1000000) (rc gc lc tc : Nat) (w' : World) (hb : Below w.heap.size w w') :
    Calls Tryz.prog 55 #[.agg #[.slice ra R.length rc, .slice ga Gs.length gc], .slice la L.length lc, .slice ta Tq.length tc] w' (RetI (fun v => .tuple #[v, .int .i64 (faiR R Gs L Tq).1]) w' (faiR R Gs L Tq).2) := by
  have h := h.below hb
  have hT := hT.below hb
  have hck := h.vck rc gc lc
  have hlf := h.vLeft hT hf htl rc gc lc tc
  rw [faiR]
  by_cases h0 : rgtE R Gs L = 0
  · rw [if_neg (not_not_intro h0)]
    rw [h0] at hck
    obtain ⟨h1, h2, h3, h4⟩ := h.ok h0
    have h5 := vFair_holds w' ra R rc ga (Gs.map qR) gc la (L.map cmO) lc ta Tq tc h2 h1 h4 h3 hT hf htl
    rw [List.length_map, List.length_map] at h5
    exact h5 hck
  · rw [if_pos h0]
    rw [lefR, if_pos h0] at hlf
    clear h hT hf htl hck
    dsimp only at hlf
    generalize rgtE R Gs L = E at *
    refine enterA [(0, .agg #[.slice ra R.length rc, .slice ga Gs.length gc]), (1, .slice la L.length lc), (2, .slice ta Tq.length tc)] Tryz.func55 Tryz.ntmps55 ?_
    all_goals (refine go ?_; and_intros <;> (try exact trivial) <;> repeat (first | refine fun (Bk : Nat) => ?_ | intro h))
    repeat' ((first | (apply G.cN (g := 54) (fun a' c' => .tuple #[.slice a' 0 c', .int .i64 E]) ([] : List (List Value)); rfl; rfl; exact fun w' hw' => hlf w' hw'.below; intro a1 c1 hp1 hq1)) <;> (refine go ?_; and_intros <;> (try exact trivial) <;> repeat (first | refine fun (Bk : Nat) => ?_ | intro h)))
    (refine ret2 Tryz.func55 Tryz.results55 ?_; intro w' hw)
    exact retI_nil (fun v => .tuple #[v, .int .i64 E]) hw.below
end Go.Proofs.YtcdgibkbbcekhaaGreatDoor
