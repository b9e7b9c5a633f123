/-
  Contract of rights: what the laws call small.
-/
import Derived.Test.YteaccaieaigeaaaGreatDoorNB18
set_option linter.unusedVariables false
set_option linter.unusedSimpArgs false
set_option linter.unusedSectionVars false
namespace Go.Proofs.YteaccaieaigeaaaGreatDoor
open Go.RowKit Go.Sl Go.Num
theorem sorts (n m : Nat) (h : n ≤ m) (hm : m ≤ 1000000) : SortsTo n := fun w0 M w au cu S hw hn => sort_holds w0 M w au n cu S hw hn (by omega)
def smallB (R : List Rch) (Gs : List Q3) (L : List Clm) : Bool := decide (R.length ≤ 12 ∧ Gs.length = R.length ∧ L.length ≤ 20) && (briefB Gs && (briefB (L.map (·.am)) && decide (rgtE R Gs L = 0)))
theorem satOQ {w0 w : World} {M : List Row} {E base : Nat} {a : Option Addr} {n c : Nat} {L : List Q3} (hw : Sat w0 M w) (hm : Row.own base (.slice a n c) E 3 n (flat qV L) ∈ M) (hn : L.length = n) : SlAt w a 3 (L.map qV) := SlAt.ofOwn (fun _ => rfl) (hw.hold _ hm) hn
theorem small39_holds (ra : Option Addr) (R : List Rch) (rc : Nat) (ga : Option Addr) (Gs : List Q3) (gc : Nat) (la : Option Addr) (L : List Clm) (lc : Nat) (w : World) (hS : SupAt w ra R ga (Gs.map qV)) (hL : SlAt w la 5 (L.map clV)) :
    Calls Tryz.prog 24 #[.agg #[.slice ra R.length rc, .slice ga Gs.length gc], .slice la L.length lc] w fun e w' => e = .returned (.bool (smallB R Gs L)) ∧ Below w.heap.size w w' := by
  have hbg := fun w' (hb : Below w.heap.size w w') => brief_holds ga Gs gc w' (hS.gns.below hb)
  rw [smallB]
  by_cases h1 : R.length ≤ 12 ∧ Gs.length = R.length ∧ L.length ≤ 20
  case neg =>
    rw [decide_eq_false h1, Bool.false_and]
    clear hS hL
    by_cases h2 : R.length ≤ 12
    · by_cases h3 : Gs.length = R.length
      · have h4 : 20 < L.length := by omega
        refine enterA [(0, .agg #[.slice ra R.length rc, .slice ga Gs.length gc]), (1, .slice la L.length lc)] Tryz.func24 Tryz.ntmps24 ?_
        all_goals (refine go ?_; and_intros <;> (try exact trivial) <;> repeat (first | refine fun (Bk : Nat) => ?_ | intro h))
        repeat' ((first | (apply G.cV (g := 18) (vs := [.slice ga Gs.length gc]); rfl; rfl; exact fun w' hw' => hbg w' hw'.below)) <;> (refine go ?_; and_intros <;> (try exact trivial) <;> repeat (first | refine fun (Bk : Nat) => ?_ | intro h)))
        all_goals refine ret1b Tryz.func24 Tryz.results24 ?_
        all_goals rfl
      · skip
        refine enterA [(0, .agg #[.slice ra R.length rc, .slice ga Gs.length gc]), (1, .slice la L.length lc)] Tryz.func24 Tryz.ntmps24 ?_
        all_goals (refine go ?_; and_intros <;> (try exact trivial) <;> repeat (first | refine fun (Bk : Nat) => ?_ | intro h))
        repeat' ((first | (apply G.cV (g := 18) (vs := [.slice ga Gs.length gc]); rfl; rfl; exact fun w' hw' => hbg w' hw'.below)) <;> (refine go ?_; and_intros <;> (try exact trivial) <;> repeat (first | refine fun (Bk : Nat) => ?_ | intro h)))
        all_goals refine ret1b Tryz.func24 Tryz.results24 ?_
        all_goals rfl
    · skip
      refine enterA [(0, .agg #[.slice ra R.length rc, .slice ga Gs.length gc]), (1, .slice la L.length lc)] Tryz.func24 Tryz.ntmps24 ?_
      all_goals (refine go ?_; and_intros <;> (try exact trivial) <;> repeat (first | refine fun (Bk : Nat) => ?_ | intro h))
      repeat' ((first | (apply G.cV (g := 18) (vs := [.slice ga Gs.length gc]); rfl; rfl; exact fun w' hw' => hbg w' hw'.below)) <;> (refine go ?_; and_intros <;> (try exact trivial) <;> repeat (first | refine fun (Bk : Nat) => ?_ | intro h)))
      all_goals refine ret1b Tryz.func24 Tryz.results24 ?_
      all_goals rfl
  rw [decide_eq_true h1, Bool.true_and]
  obtain ⟨h2, h3, h4⟩ := h1
  have hgf := briefB_few (l := Gs)
  cases hbb : briefB Gs
  · rw [hbb] at hbg
    rw [Bool.false_and]
    clear hS hL hgf hbb
    refine enterA [(0, .agg #[.slice ra R.length rc, .slice ga Gs.length gc]), (1, .slice la L.length lc)] Tryz.func24 Tryz.ntmps24 ?_
    all_goals (refine go ?_; and_intros <;> (try exact trivial) <;> repeat (first | refine fun (Bk : Nat) => ?_ | intro h))
    repeat' ((first | (apply G.cV (g := 18) (vs := [.slice ga Gs.length gc]); rfl; rfl; exact fun w' hw' => hbg w' hw'.below)) <;> (refine go ?_; and_intros <;> (try exact trivial) <;> repeat (first | refine fun (Bk : Nat) => ?_ | intro h)))
    all_goals refine ret1b Tryz.func24 Tryz.results24 ?_
    all_goals rfl
  have hgf := (hgf.1 hbb).2
  rw [hbb] at hbg
  rw [Bool.true_and]
  clear hbb
  have hcf := briefB_few (l := L.map (·.am))
  have hck : briefB (L.map (·.am)) = true → ∀ w', Below w.heap.size w w' → Calls Tryz.prog 15 #[.agg #[.slice ra R.length rc, .slice ga Gs.length gc], .slice la L.length lc] w' fun e w2 => e = .returned (.int .i64 (rgtE R Gs L)) ∧ Below w'.heap.size w' w2 := fun h =>
    Arg.vck ⟨hS, hL, fun q hq => fewQ_le (hgf q hq) (by decide), fun c hc => fewQ_le ((hcf.1 h).2 _ (List.mem_map.2 ⟨c, hc, rfl⟩)) (by decide), by omega, by omega⟩ rc gc lc
  clear hgf hcf hS
  refine enterA [(0, .agg #[.slice ra R.length rc, .slice ga Gs.length gc]), (1, .slice la L.length lc)] Tryz.func24 Tryz.ntmps24 ?_
  all_goals (refine go ?_; and_intros <;> (try exact trivial) <;> repeat (first | refine fun (Bk : Nat) => ?_ | intro h))
  repeat' ((first | (apply G.cV (g := 18) (vs := [.slice ga Gs.length gc]); rfl; rfl; exact fun w' hw' => hbg w' hw'.below)) <;> (refine go ?_; and_intros <;> (try exact trivial) <;> repeat (first | refine fun (Bk : Nat) => ?_ | intro h)))
  clear hbg
  apply J.nilOwn (E := 51) (size := 3)
  refine J.loop (c := _) ((0, none, 0) : Nat × Option Addr × Nat) (fun s => L.length - s.1) (fun s => [(1, .slice la L.length lc), (2, .pointer (some ⟨Bk, 0, none⟩)), (5, .slice s.2.1 s.1 s.2.2), (32, .slice la L.length lc), (33, .int .i64 L.length), (34, .int .i64 s.1)]) (fun s => [.own 0 (.slice s.2.1 s.1 s.2.2) 51 3 s.1 (flat qV ((L.take s.1).map (·.am))), .blk Bk 25 [.slice ra R.length rc, .slice ga Gs.length gc] 2]) (fun s => s.1 ≤ L.length) ?_ sbT sbL ?_
  · exact Nat.zero_le _
  intro ⟨i, au, cu⟩ k1 ih
  dsimp only at k1 ⊢
  by_cases hi : i < L.length
  · obtain ⟨ba, oa, rfl, hra⟩ := SlAt.all hL (by omega)
    have hri := hra i hi
    have hap : flat qV ((L.take i).map (·.am)) ++ qV L[i].am = flat qV ((L.take i).map (·.am) ++ [L[i].am]) := flat1 qV _ _
    have ih := fun a2 c2 => ih (i + 1, a2, c2) hi (by dsimp only; omega)
    dsimp only at ih
    simp only [List.take_add_one, List.getElem?_eq_getElem hi, Option.toList, List.map_append, List.map_cons, List.map_nil] at ih
    clear hra hL hck
    generalize L[i] = cl at *
    obtain ⟨pl, rk, am⟩ := cl
    obtain ⟨s1, u1, v1⟩ := am
    dsimp only [qV, qA, clV] at *
    all_goals (refine go ?_; and_intros <;> (try exact trivial) <;> repeat (first | refine fun (Bk : Nat) => ?_ | intro h))
    repeat' ((first | (apply G.sliceL; rfl; rfl; rfl; rfl; rfl; rfl; rfl; rfl; intro Bs) | (apply G.apV; rfl; rfl; rfl; (repeat (first | exact RAt.head | apply RAt.tail)); exact SrcV.blk (by exact mm) rfl rfl; exact hap; omega; omega; intro a2 c2)) <;> (refine go ?_; and_intros <;> (try exact trivial) <;> repeat (first | refine fun (Bk : Nat) => ?_ | intro h)))
    exact J.fin (ih a2 c2)
  obtain rfl : i = L.length := by omega
  rw [List.take_length]
  have hle : (L.map (·.am)).length = L.length := List.length_map _
  have hba := fun c w' (h : SlAt w' au 3 ((L.map (·.am)).map qV)) => brief_holds au (L.map (·.am)) c w' h
  rw [hle] at hba
  clear ih
  generalize L.map (·.am) = AM at *
  generalize rgtE R Gs L = E at *
  cases hbb : briefB AM
  · rw [hbb] at hba
    rw [Bool.false_and]
    clear hck
    all_goals (refine go ?_; and_intros <;> (try exact trivial) <;> repeat (first | refine fun (Bk : Nat) => ?_ | intro h))
    repeat' ((first | (apply G.cV (g := 18); rfl; rfl; exact fun w' hw' => hba _ w' (satOQ hw' (by exact mm) hle))) <;> (refine go ?_; and_intros <;> (try exact trivial) <;> repeat (first | refine fun (Bk : Nat) => ?_ | intro h)))
    all_goals refine ret1b Tryz.func24 Tryz.results24 ?_
    all_goals rfl
  rw [hbb] at hba
  rw [Bool.true_and]
  have hck := hck hbb
  by_cases h0 : E = 0
  · rw [decide_eq_true h0]
    all_goals (refine go ?_; and_intros <;> (try exact trivial) <;> repeat (first | refine fun (Bk : Nat) => ?_ | intro h))
    repeat' ((first | (apply G.cV (g := 15); rfl; rfl; exact fun w' hw' => hck w' hw'.below) | (apply G.cV (g := 18); rfl; rfl; exact fun w' hw' => hba _ w' (satOQ hw' (by exact mm) hle))) <;> (refine go ?_; and_intros <;> (try exact trivial) <;> repeat (first | refine fun (Bk : Nat) => ?_ | intro h)))
    all_goals refine ret1b Tryz.func24 Tryz.results24 ?_
    all_goals rfl
  · rw [decide_eq_false h0]
    all_goals (refine go ?_; and_intros <;> (try exact trivial) <;> repeat (first | refine fun (Bk : Nat) => ?_ | intro h))
    repeat' ((first | (apply G.cV (g := 15); rfl; rfl; exact fun w' hw' => hck w' hw'.below) | (apply G.cV (g := 18); rfl; rfl; exact fun w' hw' => hba _ w' (satOQ hw' (by exact mm) hle))) <;> (refine go ?_; and_intros <;> (try exact trivial) <;> repeat (first | refine fun (Bk : Nat) => ?_ | intro h)))
    all_goals refine ret1b Tryz.func24 Tryz.results24 ?_
    all_goals rfl
end Go.Proofs.YteaccaieaigeaaaGreatDoor
/-
  Plain laws of rights: what Allot hands out is served; how long its numbers are.
-/
namespace Go.Proofs.YteaccaieaigeaaaGreatDoor
open Go.RowKit Go.Sl Go.Num
/-! ### sizes -/
structure Den (Gs : List Rat) (T : List Rat) (K : Nat) : Prop where
  pos : 0 < K
  lt : 256 ^ 43 * K < 256 ^ eK
  t : ∀ t ∈ T, Iq (t * ((K : Int) : Rat))
  g : ∀ p, Iq (fsq Gs p * ((K : Int) : Rat))
theorem den_all {R : List Rch} {Gs : List Rat} {L : List Cm} (hA : Alo R Gs L) (hs : SupOk R Gs) (hC : ClOk R.length L) : ∃ K, Den Gs (allT R Gs L 101) K := by
  obtain ⟨j, j1, E, e0, e1, e2⟩ := (rk_all hA hs hC 101).sz
  have hE : E ≤ 256 ^ (eB * 20) := by
    refine Nat.le_trans e1 ?_
    rw [← Nat.pow_mul]
    exact Nat.pow_le_pow_right (by decide) (Nat.mul_le_mul_left _ (by omega))
  refine ⟨dnA Gs L * E, Nat.mul_pos (dnA_pos _ _) e0, ?_, fun t ht => ?_, fun p => ?_⟩
  · have : 256 ^ 43 * (dnA Gs L * E) ≤ 256 ^ 43 * (256 ^ eD * 256 ^ (eB * 20)) := Nat.mul_le_mul_left _ (Nat.mul_le_mul (dnA_le hA hs.len) hE)
    rw [← Nat.pow_add, ← Nat.pow_add] at this
    exact Nat.lt_of_le_of_lt this (Nat.pow_lt_pow_right (by decide) (by rw [eD, eB, eK]; decide))
  · rw [Int.natCast_mul, Rat.intCast_mul, ← Rat.mul_assoc]; exact e2 t ht
  · rw [Int.natCast_mul, Rat.intCast_mul, ← Rat.mul_assoc]; exact (dnA_g Gs L p).mul (Iq.int _)
theorem Den.few {Gs T : List Rat} {K : Nat} (h : Den Gs T K) {x : Rat} (h1 : Iq (x * ((K : Int) : Rat))) (h2 : 0 ≤ x) (h3 : x ≤ (((256 ^ 43 : Nat) : Int) : Rat)) : fewQ 30000 (rQ x) := by
  have h4 : Fr K (256 ^ 43 * K) x := fr_of h1 h2 h3
  have h5 : fewQ eK (rQ x) := h4.few h.pos (Nat.lt_of_le_of_lt (Nat.le_mul_of_pos_left _ (Nat.pow_pos (by decide))) h.lt) h.lt
  exact h5
theorem Den.used {Gs T : List Rat} {K : Nat} (h : Den Gs T K) (on : Nat → Nat → Bool) (L : List Cm) (g : Nat) : Iq (Go.Proofs.YteaccaieaigeaaaGreatDoor.used on (L.zip T) g * ((K : Int) : Rat)) := by
  rw [Go.Proofs.YteaccaieaigeaaaGreatDoor.used, qs_mulr]
  refine Iq.qs fun z hz => ?_
  split
  · exact h.t _ (List.of_mem_zip hz).2
  · rw [Rat.zero_mul]; exact Iq.zero
theorem Den.sup {Gs T : List Rat} {K : Nat} (h : Den Gs T K) (on : Nat → Nat → Bool) (n g : Nat) : Iq (Go.Proofs.YteaccaieaigeaaaGreatDoor.sup on n (fsq Gs) g * ((K : Int) : Rat)) := by
  rw [Go.Proofs.YteaccaieaigeaaaGreatDoor.sup, qs_mulr]
  refine Iq.qs fun z hz => ?_
  split
  · exact h.g _
  · rw [Rat.zero_mul]; exact Iq.zero
theorem Den.rs {R : List Rch} {Gs T : List Rat} {K : Nat} (h : Den Gs T K) (L : List Cm) (g : Nat) : Iq (rsT R Gs L T g * ((K : Int) : Rat)) := by
  rw [rsT, show ∀ a b c : Rat, (a - b) * c = a * c - b * c by intros; grind]
  exact (h.sup _ _ _).sub (h.used _ _ _)
/-! ### served -/
theorem qR_map (T : List Rat) : (T.map rQ).map qR = T := by
  rw [List.map_map]
  exact (List.map_congr_left fun t _ => qR_rQ t).trans (List.map_id _)
theorem lf_ok {R : List Rch} {Gs : List Rat} {L : List Cm} {T : List Rat} (h1 : T.length = L.length) (h2 : ∀ z ∈ L.zip T, 0 ≤ z.2 ∧ z.2 ≤ z.1.am) (h3 : ∀ g, g < R.length → used (onR R) (L.zip T) g ≤ sup (onR R) R.length (fsq Gs) g) : lfE R Gs L (T.map rQ) = 0 := by
  rw [lfE, if_neg (by rw [List.length_map]; exact not_not_intro h1), if_neg, if_neg]
  · rw [qR_map, Bool.not_eq_true, List.any_eq_false]
    intro g hg hc
    have := of_decide_eq_true hc
    have := h3 g (List.mem_range.1 hg)
    rw [rsT] at *
    grind
  · rw [Bool.not_eq_true, List.any_eq_false]
    intro z hz hb
    obtain ⟨i, hi, rfl⟩ := List.getElem_of_mem hz
    rw [List.length_zip, List.length_map] at hi
    have hz2 := h2 (L[i]'(by omega), T[i]'(by omega)) (by rw [← List.getElem_zip (h := by rw [List.length_zip]; omega)]; exact List.getElem_mem _)
    rw [badT, List.getElem_zip, List.getElem_map] at hb
    dsimp only at hb hz2
    rw [natB_rQ, qR_rQ, decide_eq_true hz2.1, decide_eq_true hz2.2] at hb
    cases hb
theorem fr_ok {R : List Rch} {Gs : List Rat} {L : List Cm} {T : List Rat} (hs : SupOk R Gs) (hC : ClOk R.length L) (h1 : T.length = L.length) (hf : Fair (onR R) R.length (fsq Gs) (L.zip T)) :
    ∃ A : List Int, lfE R Gs L (T.map rQ) = 0 ∧ frE R Gs L (T.map rQ) = (0, A) ∧ (L.zip T).map (atZ R (fsq Gs) (L.zip T)) = A.map some := by
  have h2 := lf_ok (R := R) (Gs := Gs) h1 hf.nn hf.ok
  have hp : ∀ z ∈ L.zip T, z.1.pl < R.length := fun z hz => hC.pl _ (List.of_mem_zip hz).1
  have h3 := (fair_iff (riv_of hs.riv) hp ⟨hf.nn, hf.ok⟩).1 hf
  obtain ⟨A, hA⟩ := Option.isSome_iff_exists.1 h3
  refine ⟨A, h2, ?_, allO_some.1 hA⟩
  rw [frE, if_neg (not_not_intro h2), qR_map, hA]
theorem fr_one {R : List Rch} {Gs : List Rat} {L : List Cm} (hA : Alo R Gs L) (hs : SupOk R Gs) (hC : ClOk R.length L) (other : List Q3) : (frE R Gs L other).1 = 0 ↔ other = (allT R Gs L 101).map rQ := by
  constructor
  · intro h
    rw [frE] at h
    by_cases h0 : lfE R Gs L other = 0
    · rw [if_neg (not_not_intro h0)] at h
      obtain ⟨h1, h2, h3⟩ := lfE_ok h0
      have h4 := good_all h1 h2
      have h5 : (other.map qR).length = L.length := by rw [List.length_map]; exact h1
      have hnn : ∀ z ∈ L.zip (other.map qR), 0 ≤ z.2 ∧ z.2 ≤ z.1.am := fun z hz => by
        obtain ⟨i, hi, rfl⟩ := List.getElem_of_mem hz
        rw [List.length_zip, List.length_map] at hi
        have hi2 : i < (L.zip other).length := by rw [List.length_zip]; omega
        have h6 := List.any_eq_false.1 h2 _ (List.getElem_mem hi2)
        rw [badT, List.getElem_zip] at h6
        rw [List.getElem_zip, List.getElem_map]
        dsimp only at h6 ⊢
        have h7 := h4 _ (List.getElem_mem (show i < other.length by omega))
        rw [h7, Bool.true_and, Bool.not_eq_true', decide_eq_false_iff_not, Decidable.not_not] at h6
        have h8 := natB_rQ (qR other[i])
        rw [natB_q h7, h7] at h8
        exact ⟨of_decide_eq_true h8.symm, h6⟩
      have hp : ∀ z ∈ L.zip (other.map qR), z.1.pl < R.length := fun z hz => hC.pl _ (List.of_mem_zip hz).1
      have hok : ∀ g, g < R.length → used (onR R) (L.zip (other.map qR)) g ≤ sup (onR R) R.length (fsq Gs) g := fun g hg => by
        have := h3 g hg
        rw [rsT] at this; grind
      have hf : Fair (onR R) R.length (fsq Gs) (L.zip (other.map qR)) := (fair_iff (riv_of hs.riv) hp ⟨hnn, hok⟩).2 (by
        cases hfz : fairZ R (fsq Gs) (L.zip (other.map qR)) with
        | none => rw [hfz] at h; cases h
        | some l => rfl)
      have h6 := all_one hA hs hC h5 hf
      rw [← h6, List.map_map]
      exact ((List.map_congr_left fun q hq => natB_q (h4 q hq)).trans (List.map_id _)).symm
    · rw [if_pos h0] at h; exact absurd h h0
  · rintro rfl
    obtain ⟨A, _, h2, _⟩ := fr_ok hs hC (allT_len 101) (all_fair hA hs hC)
    rw [h2]
/-- What a claim gets, and where it is bound. -/
theorem at_neg {R : List Rch} {Gs : List Rat} {L : List Cm} {T : List Rat} {A : List Int} (h1 : T.length = L.length) (h : (L.zip T).map (atZ R (fsq Gs) (L.zip T)) = A.map some) : A.length = L.length ∧ ∀ k (k1 : k < L.length) (k2 : k < T.length) (k3 : k < A.length), A[k] = -1 ↔ T[k] = L[k].am := by
  have hl := congrArg List.length h
  rw [List.length_map, List.length_map, List.length_zip] at hl
  refine ⟨by omega, fun k k1 k2 k3 => ?_⟩
  have h2 : ((L.zip T).map (atZ R (fsq Gs) (L.zip T)))[k]'(by rw [List.length_map, List.length_zip]; omega) = (A.map some)[k]'(by rw [List.length_map]; exact k3) := by simp only [h]
  rw [List.getElem_map, List.getElem_map, List.getElem_zip] at h2
  have h3 := atZ_neg (R := R) (gn := fsq Gs) (zs := L.zip T) (z := (L[k], T[k]))
  rw [h2, Option.some.injEq] at h3
  exact h3
theorem at_bnd {R : List Rch} {Gs : List Rat} {L : List Cm} {T : List Rat} {A : List Int} (hs : SupOk R Gs) (hC : ClOk R.length L) (hf : Fair (onR R) R.length (fsq Gs) (L.zip T)) (h1 : T.length = L.length) (h : (L.zip T).map (atZ R (fsq Gs) (L.zip T)) = A.map some) (k : Nat) (k1 : k < L.length) (k2 : k < T.length) (k3 : k < A.length) (g : Nat) (hg : A[k] = (g : Int)) :
    Bnd (onR R) R.length (fsq Gs) (L.zip T) (L[k], T[k]) g := by
  have h2 : ((L.zip T).map (atZ R (fsq Gs) (L.zip T)))[k]'(by rw [List.length_map, List.length_zip]; omega) = (A.map some)[k]'(by rw [List.length_map]; exact k3) := by simp only [h]
  rw [List.getElem_map, List.getElem_map, List.getElem_zip, hg] at h2
  refine atZ_bnd (riv_of hs.riv) (fun z hz => hC.pl _ (List.of_mem_zip hz).1) ⟨hf.nn, hf.ok⟩ ?_ h2
  rw [← List.getElem_zip (h := by rw [List.length_zip]; omega)]
  exact List.getElem_mem _
end Go.Proofs.YteaccaieaigeaaaGreatDoor
/-
  The law RightsAreServed.
-/
namespace Go.Proofs.YteaccaieaigeaaaGreatDoor
open Go.RowKit Go.Sl Go.Num
theorem qs_pre {α : Type} {f : α → Rat} {L : List α} (h : ∀ x ∈ L, 0 ≤ f x) (k : Nat) : qs (L.take k) f ≤ qs L f := by
  have h1 := qs_app f (L.take k) (L.drop k)
  rw [List.take_append_drop] at h1
  have h2 := qs_nn (L := L.drop k) (f := f) fun x hx => h x (List.mem_of_mem_drop hx)
  grind
theorem qs_snd {L : List Cm} {T : List Rat} (h : T.length = L.length) : (qs (L.zip T) fun z => z.2) = qs T fun t => t := by
  have h1 : (L.zip T).map Prod.snd = T := List.map_snd_zip (by omega)
  conv => rhs; rw [← h1, qs_map]
/-- What is taken, and what is left at the outlets of the first g gauges. -/
def tkS (R : List Rch) (Gs : List Rat) (L : List Cm) (T : List Rat) (g : Nat) : Rat := (qs T fun t => t) + qs (List.range g) fun g => if dnOf R (g : Int) < 0 then rsT R Gs L T g else 0
theorem tkS_succ (R : List Rch) (Gs : List Rat) (L : List Cm) (T : List Rat) (g : Nat) : tkS R Gs L T (g + 1) = tkS R Gs L T g + if dnOf R (g : Int) < 0 then rsT R Gs L T g else 0 := by
  rw [tkS, tkS, List.range_succ, qs_app, qs_cons, qs_nil, Rat.add_zero, Rat.add_assoc]
def cmS (Gs : List Rat) (g : Nat) : Rat := qs (List.range g) (fsq Gs)
theorem cmS_succ (Gs : List Rat) (g : Nat) : cmS Gs (g + 1) = cmS Gs g + fsq Gs g := by
  rw [cmS, cmS, List.range_succ, qs_app, qs_cons, qs_nil, Rat.add_zero]
theorem tkS_all {R : List Rch} {Gs : List Rat} {L : List Cm} {T : List Rat} (hs : SupOk R Gs) (hC : ClOk R.length L) (h1 : T.length = L.length) : tkS R Gs L T R.length = cmS Gs R.length := by
  have h := conserve (riv_of hs.riv) (fsq Gs) (L.zip T) fun z hz => hC.pl _ (List.of_mem_zip hz).1
  rw [qs_snd h1] at h
  exact h
structure Srv (R : List Rch) (Gs : List Rat) (L : List Cm) (T : List Rat) : Prop where
  t : ∀ k, fewQ 30000 (rQ (qs (T.take k) fun t => t))
  tk : ∀ t ∈ T, fewQ 30000 (rQ t)
  nn : ∀ t ∈ T, 0 ≤ t
  rs : ∀ g, g < R.length → fewQ 30000 (rQ (rsT R Gs L T g))
  tt : ∀ g, g ≤ R.length → fewQ 30000 (rQ (tkS R Gs L T g))
  cm : ∀ g, g ≤ R.length → fewQ 30000 (rQ (cmS Gs g))
theorem srv_all {R : List Rch} {Gs : List Rat} {L : List Cm} (hA : Alo R Gs L) (hs : SupOk R Gs) (hC : ClOk R.length L) : Srv R Gs L (allT R Gs L 101) := by
  obtain ⟨K, hK⟩ := den_all hA hs hC
  have hT := allT_len (R := R) (Gs := Gs) (L := L) 101
  have hf := all_fair hA hs hC
  generalize allT R Gs L 101 = T at *
  have hnn : ∀ t ∈ T, 0 ≤ t := fun t ht => by
    obtain ⟨i, hi, rfl⟩ := List.getElem_of_mem ht
    exact (hf.nn (L[i]'(by omega), T[i]) (by rw [← List.getElem_zip (h := by rw [List.length_zip]; omega)]; exact List.getElem_mem _)).1
  have hrs : ∀ g, g < R.length → 0 ≤ rsT R Gs L T g := fun g hg => by
    have := hf.ok g hg
    rw [rsT]; grind
  have htot : cmS Gs R.length ≤ (((256 ^ 43 : Nat) : Int) : Rat) := by
    have h1 : cmS Gs R.length ≤ (((List.range R.length).length : Int) : Rat) * (((256 ^ 41 : Nat) : Int) : Rat) := qs_bound fun p _ => by
      rcases Nat.lt_or_ge p Gs.length with h | h
      · rw [fsq_lt h]; exact few_val (hA.g _ (List.getElem_mem h)) (hs.nn _ (List.getElem_mem h))
      · rw [fsq_ge h]; exact pow_nn 41
    rw [List.length_range] at h1
    refine Rat.le_trans h1 ?_
    rw [← Rat.intCast_mul]
    refine Rat.intCast_le_intCast.2 ?_
    have h2 : R.length * 256 ^ 41 ≤ 256 ^ 43 := by
      have : R.length * 256 ^ 41 ≤ 12 * 256 ^ 41 := Nat.mul_le_mul_right _ hA.n
      exact Nat.le_trans this (by decide)
    exact_mod_cast h2
  have h0 := tkS_all hs hC hT
  have hIt : ∀ k, Iq ((qs (T.take k) fun t => t) * ((K : Int) : Rat)) := fun k => by
    rw [qs_mulr]
    exact Iq.qs fun t ht => hK.t t (List.mem_of_mem_take ht)
  have hz : ∀ g ∈ List.range R.length, 0 ≤ if dnOf R (g : Int) < 0 then rsT R Gs L T g else 0 := fun g hg => by
    split
    · exact hrs g (List.mem_range.1 hg)
    · exact Rat.le_refl
  have htk : ∀ g, g ≤ R.length → 0 ≤ tkS R Gs L T g ∧ tkS R Gs L T g ≤ (((256 ^ 43 : Nat) : Int) : Rat) := fun g hg => by
    have h1 := qs_nn (L := T) (f := fun t => t) hnn
    have h2 := qs_pre hz g
    have h3 := qs_nn (L := (List.range R.length).take g) (f := fun g : Nat => if dnOf R (g : Int) < 0 then rsT R Gs L T g else 0) fun x hx => hz x (List.mem_of_mem_take hx)
    rw [List.take_range, Nat.min_eq_left hg] at h2 h3
    rw [tkS] at h0 ⊢
    grind
  have hqt : (qs T fun t => t) ≤ (((256 ^ 43 : Nat) : Int) : Rat) := by
    have := (htk 0 (Nat.zero_le _)).2
    rw [tkS, List.range_zero, qs_nil, Rat.add_zero] at this
    exact this
  refine ⟨fun k => hK.few (hIt k) (qs_nn fun t ht => hnn t (List.mem_of_mem_take ht)) (Rat.le_trans (qs_pre hnn k) hqt), fun t ht => hK.few (hK.t t ht) (hnn t ht) (Rat.le_trans (qs_mem (f := fun t => t) hnn ht) hqt), hnn, fun g hg => ?_, fun g hg => hK.few ?_ (htk g hg).1 (htk g hg).2, fun g hg => hK.few ?_ (qs_nn fun p _ => (hs.fsq p).2) ?_⟩
  · refine hK.few (hK.rs L g) (hrs g hg) ?_
    have h1 : rsT R Gs L T g ≤ cmS Gs R.length := by
      have h2 : sup (onR R) R.length (fsq Gs) g ≤ cmS Gs R.length := qs_le fun p _ => by
        split
        · exact Rat.le_refl
        · exact (hs.fsq p).2
      have h3 : 0 ≤ used (onR R) (L.zip T) g := qs_nn fun z hz => by
        split
        · exact (hf.nn z hz).1
        · exact Rat.le_refl
      rw [rsT]; grind
    exact Rat.le_trans h1 htot
  · rw [tkS, show ∀ a b c : Rat, (a + b) * c = a * c + b * c by intros; grind]
    refine Iq.add ?_ ?_
    · have := hIt T.length
      rwa [List.take_length] at this
    · rw [qs_mulr]
      refine Iq.qs fun x _ => ?_
      split
      · exact hK.rs L x
      · rw [Rat.zero_mul]; exact Iq.zero
  · rw [cmS, qs_mulr]
    exact Iq.qs fun p _ => hK.g p
  · have h1 := qs_pre (L := List.range R.length) (f := fsq Gs) (fun p _ => (hs.fsq p).2) g
    rw [List.take_range, Nat.min_eq_left hg] at h1
    exact Rat.le_trans h1 htot
end Go.Proofs.YteaccaieaigeaaaGreatDoor
/-
  The law RightsAreServed.
-/
namespace Go.Proofs.YteaccaieaigeaaaGreatDoor
open Go.RowKit Go.Sl Go.Num
theorem smallB_ok {R : List Rch} {Gs : List Q3} {L : List Clm} (h : smallB R Gs L = true) : R.length ≤ 12 ∧ L.length ≤ 20 ∧ Gs.length = R.length ∧ (∀ q ∈ Gs, fewQ 20 q) ∧ (∀ c ∈ L, fewQ 20 c.am) ∧ rgtE R Gs L = 0 := by
  rw [smallB, Bool.and_eq_true, Bool.and_eq_true, Bool.and_eq_true, decide_eq_true_eq, decide_eq_true_eq] at h
  obtain ⟨⟨h1, h2, h3⟩, h4, h5, h6⟩ := h
  exact ⟨h1, h3, h2, (briefB_few.1 h4).2, fun c hc => (briefB_few.1 h5).2 _ (List.mem_map.2 ⟨c, hc, rfl⟩), h6⟩
theorem smallB_arg {w : World} {ra : Option Addr} {R : List Rch} {ga : Option Addr} {Gs : List Q3} {la : Option Addr} {L : List Clm} (hS : SupAt w ra R ga (Gs.map qV)) (hL : SlAt w la 5 (L.map clV)) (h : smallB R Gs L = true) : Arg w ra R ga Gs la L ∧ Lim R Gs L := by
  obtain ⟨h1, h2, h3, h4, h5, h6⟩ := smallB_ok h
  exact ⟨⟨hS, hL, fun q hq => fewQ_le (h4 q hq) (by decide), fun c hc => fewQ_le (h5 c hc) (by decide), by omega, by omega⟩, fun _ => ⟨h1, h2⟩⟩
theorem RetQ.len {F : Value → Value} {w w' : World} {L : List Rat} {n : Nat} {e : Ending} (hn : L.length = n) (h : RetQ F w L e w') : ∃ a' c', e = .returned (F (.slice a' n c')) ∧ SlAt w' a' 3 (L.map qF) ∧ (∀ p, a' = some p → w.heap.size ≤ p.block) ∧ Below w.heap.size w w' := by subst hn; exact h
theorem RetI.len {F : Value → Value} {w w' : World} {L : List Int} {n : Nat} {e : Ending} (hn : L.length = n) (h : RetI F w L e w') : ∃ a' c', e = .returned (F (.slice a' n c')) ∧ SlAt w' a' 1 (L.map isV) ∧ (∀ p, a' = some p → w.heap.size ≤ p.block) ∧ Below w.heap.size w w' := by subst hn; exact h
set_option maxHeartbeats 16000000 in
theorem law3_holds (w : World) (ra : Option Addr) (R : List Rch) (rc : Nat) (ga : Option Addr) (Gs : List Q3) (gc : Nat) (la : Option Addr) (L : List Clm) (lc : Nat) (oa : Option Addr) (Oq : List Q3) (oc : Nat) (hS : SupAt w ra R ga (Gs.map qV)) (hL : SlAt w la 5 (L.map clV)) (hO : SlAt w oa 3 (Oq.map qV)) :
    Calls Tryz.prog 5 #[.agg #[.slice ra R.length rc, .slice ga Gs.length gc], .slice la L.length lc, .slice oa Oq.length oc] w fun e w' => e = .returned (.bool true) ∧ Below w.heap.size w w' := by
  have hsm := fun w' (hb : Below w.heap.size w w') => small39_holds ra R rc ga Gs gc la L lc w' (hS.below hb) (hL.below hb)
  have hbr := fun w' (hb : Below w.heap.size w w') => brief_holds oa Oq oc w' (hO.below hb)
  have hsan := fun w' => sanity39_holds w'
  cases hfe : smallB R Gs L
  · rw [hfe] at hsm
    generalize briefB Oq = bb at *
    refine enterA [(0, .agg #[.slice ra R.length rc, .slice ga Gs.length gc]), (1, .slice la L.length lc), (2, .slice oa Oq.length oc)] Tryz.func5 Tryz.ntmps5 ?_
    all_goals (refine go ?_; and_intros <;> (try exact trivial) <;> repeat (first | refine fun (Bk : Nat) => ?_ | intro h))
    repeat' ((first | (apply G.cV (g := 24); rfl; rfl; exact fun w' hw' => hsm w' hw'.below) | (apply G.cV (g := 10); rfl; rfl; exact fun w' _ => hsan w') | (apply G.cV (g := 18); rfl; rfl; exact fun w' hw' => hbr w' hw'.below)) <;> (refine go ?_; and_intros <;> (try exact trivial) <;> repeat (first | refine fun (Bk : Nat) => ?_ | intro h)))
    all_goals refine ret1b Tryz.func5 Tryz.results5 ?_
    all_goals rfl
  cases hbe : briefB Oq
  · rw [hfe] at hsm
    rw [hbe] at hbr
    refine enterA [(0, .agg #[.slice ra R.length rc, .slice ga Gs.length gc]), (1, .slice la L.length lc), (2, .slice oa Oq.length oc)] Tryz.func5 Tryz.ntmps5 ?_
    all_goals (refine go ?_; and_intros <;> (try exact trivial) <;> repeat (first | refine fun (Bk : Nat) => ?_ | intro h))
    repeat' ((first | (apply G.cV (g := 24); rfl; rfl; exact fun w' hw' => hsm w' hw'.below) | (apply G.cV (g := 10); rfl; rfl; exact fun w' _ => hsan w') | (apply G.cV (g := 18); rfl; rfl; exact fun w' hw' => hbr w' hw'.below)) <;> (refine go ?_; and_intros <;> (try exact trivial) <;> repeat (first | refine fun (Bk : Nat) => ?_ | intro h)))
    all_goals refine ret1b Tryz.func5 Tryz.results5 ?_
    all_goals rfl
  obtain ⟨hA, hLim⟩ := smallB_arg hS hL hfe
  obtain ⟨f1, f2, f3, f4, f5, f6⟩ := smallB_ok hfe
  obtain ⟨t1, t2⟩ := briefB_few.1 hbe
  have t2 := fun q hq => fewQ_le (t2 q hq) (by decide : 20 ≤ 30000)
  rw [hfe] at hsm
  rw [hbe] at hbr
  obtain ⟨o1, o2, o3, o4⟩ := hA.ok f6
  have hAl := hA.alo f6 hLim
  have hva := fun w' hb => hA.vAllot hLim (fun _ n hn => sorts n L.length hn (by omega)) rc gc lc w' hb
  have hsv := srv_all hAl o1 o3
  have hf := all_fair hAl o1 o3
  have hone := fr_one hAl o1 o3 Oq
  have hTl := allT_len (R := R) (Gs := Gs.map qR) (L := L.map cmO) 101
  rw [allR, if_neg (not_not_intro f6)] at hva
  dsimp only at hva
  generalize allT R (Gs.map qR) (L.map cmO) 101 = T at *
  have hTm : ∀ q ∈ T.map rQ, fewQ 30000 q := fun q hq => by
    obtain ⟨t, ht, rfl⟩ := List.mem_map.1 hq
    exact hsv.tk t ht
  rw [List.length_map] at hTl
  obtain ⟨A, q1, q2, q3⟩ := fr_ok o1 o3 (by rw [List.length_map]; exact hTl) hf
  have hvl := fun a c w' hb (hT : SlAt w' a 3 ((T.map rQ).map qV)) => (hA.below hb).vLeft hT hTm (by rw [List.length_map]; omega) rc gc lc c w' (Below.refl _ _)
  have hvf := fun a c w' hb (hT : SlAt w' a 3 ((T.map rQ).map qV)) => (hA.below hb).vFair hT hTm (by rw [List.length_map]; omega) rc gc lc c w' (Below.refl _ _)
  have hvo := fun w' hb => hA.vFair hO t2 (by omega) rc gc lc oc w' hb
  have hsa := fun a c w' hb (hT : SlAt w' a 3 ((T.map rQ).map qV)) => sameQ_holds oa a Oq (T.map rQ) oc c w' (hO.below hb) hT (by omega)
  rw [lefR, if_neg (not_not_intro f6), q1, if_pos rfl, qR_map] at hvl
  rw [faiR, if_neg (not_not_intro f6), q2] at hvf
  rw [faiR, if_neg (not_not_intro f6)] at hvo
  dsimp only at hvl hvf hvo
  rw [mapQF] at hvl hvf hsa
  rw [List.length_map] at hvl hvf hsa
  have q4 := at_neg (R := R) (by rw [List.length_map]; exact hTl) q3
  obtain ⟨q5, q6⟩ := q4
  rw [List.length_map] at q5
  have hvl := fun (a : Option Addr) (c : Nat) (w' : World) (hb : Below w.heap.size w w') (hT : SlAt w' a 3 (T.map qF)) => (hvl a c w' hb hT).mono fun e w2 h => RetQ.len (gl_len _ _) h
  have hvf := fun (a : Option Addr) (c : Nat) (w' : World) (hb : Below w.heap.size w w') (hT : SlAt w' a 3 (T.map qF)) => (hvf a c w' hb hT).mono fun e w2 h => RetI.len q5 h
  have hall := tkS_all o1 o3 (T := T) (by rw [List.length_map]; exact hTl)
  have hXl := faiR_len (R := R) (Gs := Gs) (L := L) (Tq := Oq) (by omega)
  rw [faiR, if_neg (not_not_intro f6)] at hXl
  have hnn := hf.nn
  clear hf q1 q2 q3 hA hLim hAl hfe hbe t1 t2 hTm
  generalize frE R (Gs.map qR) (L.map cmO) Oq = fo at *
  obtain ⟨eo, X⟩ := fo
  dsimp only at hvo hone hXl
  refine enterA [(0, .agg #[.slice ra R.length rc, .slice ga Gs.length gc]), (1, .slice la L.length lc), (2, .slice oa Oq.length oc)] Tryz.func5 Tryz.ntmps5 ?_
  obtain ⟨bq, hbq⟩ : ∃ bq, decide (Oq = T.map rQ) = bq := ⟨_, rfl⟩
  rw [hbq] at hsa
  have heo : eo = 0 ∧ bq = true ∨ eo ≠ 0 ∧ bq = false := by
    by_cases h : eo = 0
    · exact .inl ⟨h, by rw [← hbq, decide_eq_true (hone.1 h)]⟩
    · exact .inr ⟨h, by rw [← hbq, decide_eq_false (fun e => h (hone.2 e))]⟩
  clear hone hbq
  rcases heo with ⟨rfl, rfl⟩ | ⟨he, rfl⟩
  all_goals
    all_goals (refine go ?_; and_intros <;> (try exact trivial) <;> repeat (first | refine fun (Bk : Nat) => ?_ | intro h))
    repeat' ((first | (apply G.cV (g := 24); rfl; rfl; exact fun w' hw' => hsm w' hw'.below) | (apply G.cV (g := 10); rfl; rfl; exact fun w' _ => hsan w') | (apply G.cV (g := 18); rfl; rfl; exact fun w' hw' => hbr w' hw'.below) | (apply G.cN (g := 13) (fun a' c' => .tuple #[.slice a' T.length c', .int .i64 0]) (T.map qF); rfl; rfl; exact fun w' hw' => hva w' hw'.below; intro a1 c1 hp1 hq1) | (apply G.cN (g := 19) (fun a' c' => .tuple #[.slice a' R.length c', .int .i64 0]) ((gl R.length (rsT R (Gs.map qR) (L.map cmO) T)).map qF); rfl; rfl; exact fun w' hw' => hvl _ _ w' hw'.below (hw'.sl (by exact mm)); intro a2 c2 hp2 hq2) | (apply G.cN (g := 21) (d := 48) (fun a' c' => .tuple #[.slice a' L.length c', .int .i64 0]) (A.map isV); rfl; rfl; exact fun w' hw' => hvf _ _ w' hw'.below (hw'.sl (by exact mm)); intro a3 c3 hp3 hq3) | (apply G.cN (g := 21) (d := 87) (fun a' c' => .tuple #[.slice a' X.length c', .int .i64 _]) (X.map isV); rfl; rfl; exact fun w' hw' => hvo w' hw'.below; intro a4 c4 hp4 hq4) | (apply G.cV (g := 17); rfl; rfl; exact fun w' hw' => hsa _ _ w' hw'.below (hw'.sl (by exact mm)))) <;> (refine go ?_; and_intros <;> (try exact trivial) <;> repeat (first | refine fun (Bk : Nat) => ?_ | intro h)))
  all_goals
    rename_i B3 _ _ _ _ _ _ B15
    revert Bk; intro B16
    clear hsm hbr hva hvl hvf hvo hsa hO hq1 hq2 hq3 hq4 hp4 hXl f4 f5 f6 hL hS
    have z0 : (qs (T.take 0) fun t => t) = 0 := rfl
    refine J.loop (c := _) ((0, zero3) : Nat × Q3) (fun s => T.length - s.1) (fun s => [(1, .slice la L.length lc), (3, .pointer (some ⟨B3, 0, none⟩)), (9, .slice a2 R.length c2), (11, .slice a3 L.length c3), (15, .pointer (some ⟨B15, 0, none⟩)), (16, .pointer (some ⟨B16, 0, none⟩)), (98, .slice a1 T.length c1), (99, .int .i64 T.length), (100, .int .i64 s.1)]) (fun s => [.blk B16 51 (qV zero3) 3, .blk B15 51 (qV s.2) 3, slRow w.heap.size a3 1 (A.map isV), slRow w.heap.size a2 3 ((gl R.length (rsT R (Gs.map qR) (L.map cmO) T)).map qF), slRow w.heap.size a1 3 (T.map qF), .blk B3 25 [.slice ra R.length rc, .slice ga Gs.length gc] 2]) (fun s => s.1 ≤ T.length ∧ s.2 = rQ (qs (T.take s.1) fun t => t)) ?_ sbT sbL ?_
    · exact ⟨Nat.zero_le _, by rw [z0]; rfl⟩
    intro ⟨k, q⟩ ⟨k1, k2⟩ ih
    dsimp only at k1 k2 ⊢
    by_cases hk : k < T.length
    · have hkL : k < (L.map cmO).length := by rw [List.length_map]; omega
      have hkA : k < A.length := by omega
      obtain ⟨b1, x1, rfl⟩ := hp1 (by rw [List.length_map]; omega)
      obtain ⟨b3, x3, rfl⟩ := hp3 (by rw [List.length_map]; omega)
      obtain ⟨bl, ol, rfl, hrl⟩ := SlAt.all o4 (by omega)
      have hrk := hrl k hkL
      have hq6 := q6 k hkL hk hkA
      have hz := hnn ((L.map cmO)[k], T[k]) (by rw [← List.getElem_zip (h := by rw [List.length_zip]; omega)]; exact List.getElem_mem _)
      have hfT := hsv.tk _ (List.getElem_mem hk)
      have hfa := o3.few _ (List.getElem_mem hkL)
      have hneg := rQ_neg_iff T[k]
      have hcm := vCmp (hfT.big (by decide)) (hfa.big (by decide))
      have had := vAdd ((hsv.t k).big (by decide)) (hfT.big (by decide))
      have hsg := sgn_le (a := T[k]) (b := (L.map cmO)[k].am)
      have hsu := qs_take (fun t : Rat => t) hk
      have hld1 := fun {C : Ctx} {M} [TAgg C.P 51 3] (hm : slRow w.heap.size (some ⟨b1, x1, none⟩) 3 (T.map qF) ∈ M) => LdV.aggSl (C := C) (M := M) (T := 51) (f := qF) (l := T) hm hk rfl
      have hld3 := fun {C M} (hm : slRow w.heap.size (some ⟨b3, x3, none⟩) 1 (A.map isV) ∈ M) => CellV.sl0 (C := C) (M := M) (f := isV) (l := A) hm hkA rfl
      have ihN := ih (k + 1, rQ (qs (T.take (k + 1)) fun t => t)) ⟨hk, rfl⟩ (by dsimp only; omega)
      dsimp only at ihN hz
      rw [hsu] at ihN
      rw [decide_eq_false (by grind)] at hneg
      have hsg := hsg.2 hz.2
      have hqe : rQ T[k] = rQ (L.map cmO)[k].am ↔ T[k] = (L.map cmO)[k].am := ⟨fun e => by have := congrArg qR e; rwa [qR_rQ, qR_rQ] at this, fun e => by rw [e]⟩
      rw [← k2] at had
      clear ih hsu k2 hsv hrl q6 hnn o1 o2 o3 o4 hall hz hfT hfa z0
      generalize rQ ((qs (T.take k) fun t => t) + T[k]) = q7 at *
      generalize sgnR (T[k] - (L.map cmO)[k].am) = sg at *
      generalize (L.map cmO)[k] = cl at *
      generalize T[k] = t at *
      generalize A[k] = ak at *
      obtain ⟨pl, rk, am⟩ := cl
      rw [cmV, qF] at hrk
      rw [qF] at hld1
      dsimp only at *
      rw [← hqe] at hq6
      clear hqe
      generalize rQ am = q1 at *
      generalize rQ t = q2 at *
      obtain ⟨s1, u1, v1⟩ := q1
      obtain ⟨s2, u2, v2⟩ := q2
      obtain ⟨s3, u3, v3⟩ := q
      obtain ⟨s7, u7, v7⟩ := q7
      dsimp only [qV, qA, isV] at *
      subst hneg
      by_cases he : ak = -1
      · subst he
        have hq6 := hq6.1 rfl
        all_goals (refine go ?_; and_intros <;> (try exact trivial) <;> repeat (first | refine fun (Bk : Nat) => ?_ | intro h))
        repeat' ((first | (apply G.ld; rfl; exact hld1 (by exact mm); rfl) | (apply G.ld; rfl; (apply LdV.one; exact hld3 (by exact mm)); rfl) | (apply G.cV (g := 25); rfl; rfl; exact fun w' _ => hcm w') | (apply G.cV (g := 26); rfl; rfl; exact fun w' _ => had w') | (apply G.eqR ⟨false, u2, v2⟩ ⟨s1, u1, v1⟩; rfl; rfl; rfl; all_goals intro h; all_goals try (exact absurd hq6 h))) <;> (refine go ?_; and_intros <;> (try exact trivial) <;> repeat (first | refine fun (Bk : Nat) => ?_ | intro h)))
        exact J.finS ihN
      · have hq6 : ¬ _ := fun e => he (hq6.2 e)
        all_goals (refine go ?_; and_intros <;> (try exact trivial) <;> repeat (first | refine fun (Bk : Nat) => ?_ | intro h))
        repeat' ((first | (apply G.ld; rfl; exact hld1 (by exact mm); rfl) | (apply G.ld; rfl; (apply LdV.one; exact hld3 (by exact mm)); rfl) | (apply G.cV (g := 25); rfl; rfl; exact fun w' _ => hcm w') | (apply G.cV (g := 26); rfl; rfl; exact fun w' _ => had w') | (apply G.eqR ⟨false, u2, v2⟩ ⟨s1, u1, v1⟩; rfl; rfl; rfl; all_goals intro h; all_goals try (exact absurd h hq6))) <;> (refine go ?_; and_intros <;> (try exact trivial) <;> repeat (first | refine fun (Bk : Nat) => ?_ | intro h)))
        exact J.finS ihN
    obtain rfl : k = T.length := by omega
    rw [List.take_length] at k2
    have e0 : tkS R (Gs.map qR) (L.map cmO) T 0 = qs T fun t => t := by rw [tkS, List.range_zero, qs_nil, Rat.add_zero]
    rw [← e0] at k2
    have hGl : (Gs.map qR).length = Gs.length := List.length_map _
    have hgn := o2.gns
    have hrv := o2.riv
    clear ih q6 hnn o3 o4 hp1 hp3 e0 z0 o2
    have htn := fun g => tkS_succ R (Gs.map qR) (L.map cmO) T g
    have hcn := fun g => cmS_succ (Gs.map qR) g
    have hrs := hsv.rs
    have htt := hsv.tt
    have hcc := hsv.cm
    have hfg := fun p => (o1.fsq p).1
    have hc0 : cmS (Gs.map qR) 0 = 0 := rfl
    clear hsv o1
    generalize rsT R (Gs.map qR) (L.map cmO) T = rs at *
    generalize tkS R (Gs.map qR) (L.map cmO) T = tk at *
    generalize cmS (Gs.map qR) = cm at *
    generalize Gs.map qR = Gr at *
    all_goals (refine go ?_; and_intros <;> (try exact trivial) <;> repeat (first | refine fun (Bk : Nat) => ?_ | intro h))
    refine J.loop (c := _) ((0, q, zero3) : Nat × Q3 × Q3) (fun s => Gs.length - s.1) (fun s => [(3, .pointer (some ⟨B3, 0, none⟩)), (9, .slice a2 R.length c2), (15, .pointer (some ⟨B15, 0, none⟩)), (16, .pointer (some ⟨B16, 0, none⟩)), (137, .slice ga Gs.length gc), (138, .int .i64 Gs.length), (139, .int .i64 s.1)]) (fun s => [.blk B16 51 (qV s.2.2) 3, .blk B15 51 (qV s.2.1) 3, slRow w.heap.size a2 3 ((gl R.length rs).map qF), .blk B3 25 [.slice ra R.length rc, .slice ga Gs.length gc] 2]) (fun s => s.1 ≤ Gs.length ∧ s.2.1 = rQ (tk s.1) ∧ s.2.2 = rQ (cm s.1)) ?_ sbT sbL ?_
    · exact ⟨Nat.zero_le _, k2, by rw [hc0]; rfl⟩
    clear k1 k2 hc0
    intro ⟨g, q1, q2⟩ ⟨k1, k2, k3⟩ ih
    dsimp only at k1 k2 k3 ⊢
    by_cases hg : g < Gs.length
    · have hgR : g < R.length := by omega
      have hgG : g < Gr.length := by omega
      obtain ⟨b2, x2, rfl⟩ := hp2 (by rw [List.length_map, gl_len]; omega)
      obtain ⟨bg, og, rfl, hrg⟩ := SlAt.all hgn (by omega)
      obtain ⟨br, or, rfl, hrr⟩ := SlAt.all hrv (by omega)
      have hrg := hrg g hgG
      have hrr := hrr g hgR
      have htn := htn g
      have hcn := hcn g
      have had1 := vAdd ((hcc g (by omega)).big (by decide)) ((hfg g).big (by decide))
      have had2 := vAdd ((htt g (by omega)).big (by decide)) ((hrs g hgR).big (by decide))
      have hld := fun {C : Ctx} {M} [TAgg C.P 51 3] (hm : slRow w.heap.size (some ⟨b2, x2, none⟩) 3 ((gl R.length rs).map qF) ∈ M) => LdV.aggSl (C := C) (M := M) (T := 51) (f := qF) (l := gl R.length rs) hm (i := g) (by rw [gl_len]; exact hgR) rfl
      rw [gl_get] at hld
      have ihN := ih (g + 1, rQ (tk (g + 1)), rQ (cm (g + 1))) ⟨hg, rfl, rfl⟩ (by dsimp only; omega)
      dsimp only at ihN
      rw [hcn] at ihN
      rw [dnOf_at hgR] at htn
      rw [fsq_lt hgG] at ihN had1
      rw [← k2] at had2
      rw [← k3] at had1
      clear ih hcn hrs htt hcc hfg hgn hrv hall hp2 k3
      generalize rQ (cm g + Gr[g]) = q7 at *
      generalize Gr[g] = gg at *
      generalize R[g] = r at *
      obtain ⟨dn, ws, adr, cap⟩ := r
      rw [qF] at hrg hld
      generalize rQ gg = q3 at *
      obtain ⟨s3, u3, v3⟩ := q3
      obtain ⟨s7, u7, v7⟩ := q7
      dsimp only [rcV] at *
      by_cases hd : dn < 0
      · rw [if_pos hd] at htn
        rw [htn] at ihN
        clear k2 htn
        generalize rQ (tk g + rs g) = q8 at *
        generalize rQ (rs g) = q4 at *
        obtain ⟨s1, u1, v1⟩ := q1
        obtain ⟨s2, u2, v2⟩ := q2
        obtain ⟨s4, u4, v4⟩ := q4
        obtain ⟨s8, u8, v8⟩ := q8
        dsimp only [qV, qA] at *
        all_goals (refine goR ?_; and_intros <;> (try exact trivial) <;> repeat (first | refine fun (Bk : Nat) => ?_ | intro h))
        repeat' ((first | (apply J.regA (.q 0 <| .q 1 <| .q 2 <| .q 3 <| .q 4 <| .q 5 <| .r 6 <| .nil); exact Tryz.mixed; decide +kernel) | (apply G.ld; rfl; exact hld (by exact mm); rfl) | (apply G.cV (g := 26) (d := 146); rfl; rfl; exact fun w' _ => had1 w') | (apply G.cV (g := 26) (d := 159); rfl; rfl; exact fun w' _ => had2 w') | (apply J.regQ; exact Tryz.mixed; decide +kernel) | (apply J.regL'; exact Tryz.mixed; decide +kernel)) <;> (refine goR ?_; and_intros <;> (try exact trivial) <;> repeat (first | refine fun (Bk : Nat) => ?_ | intro h)))
        exact J.finS ihN
      · rw [if_neg hd, Rat.add_zero] at htn
        rw [htn, ← k2] at ihN
        clear k2 htn had2
        obtain ⟨s1, u1, v1⟩ := q1
        obtain ⟨s2, u2, v2⟩ := q2
        dsimp only [qV, qA] at *
        all_goals (refine go ?_; and_intros <;> (try exact trivial) <;> repeat (first | refine fun (Bk : Nat) => ?_ | intro h))
        repeat' ((first | (apply G.cV (g := 26) (d := 146); rfl; rfl; exact fun w' _ => had1 w')) <;> (refine go ?_; and_intros <;> (try exact trivial) <;> repeat (first | refine fun (Bk : Nat) => ?_ | intro h)))
        exact J.finS ihN
    obtain rfl : g = Gs.length := by omega
    rw [f3, hall, ← f3, ← k3] at k2
    subst k2
    obtain ⟨s1, u1, v1⟩ := q1
    dsimp only [qV]
    clear ih k3
    all_goals (refine go ?_; and_intros <;> (try exact trivial) <;> repeat (first | refine fun (Bk : Nat) => ?_ | intro h))
    repeat' ((first | (apply G.cV (g := 10); rfl; rfl; exact fun w' _ => hsan w') | (apply G.eqR ⟨s1, u1, v1⟩ ⟨s1, u1, v1⟩; rfl; rfl; rfl; all_goals intro h; all_goals try (exact absurd rfl h))) <;> (refine go ?_; and_intros <;> (try exact trivial) <;> repeat (first | refine fun (Bk : Nat) => ?_ | intro h)))
    all_goals refine ret1b Tryz.func5 Tryz.results5 ?_
    all_goals rfl
end Go.Proofs.YteaccaieaigeaaaGreatDoor
