/-
  Contract of rights: what the laws call small.
-/
import Derived.Test.YtcdgibkbbcekhaaGreatDoorGR17
import Derived.Test.YtcdgibkbbcekhaaGreatDoorGR18
set_option linter.unusedVariables false
set_option linter.unusedSimpArgs false
set_option linter.unusedSectionVars false
namespace Go.Proofs.YtcdgibkbbcekhaaGreatDoor
open Go.RowKit Go.Sl Go.Num
theorem sorts (n m : Nat) (h : n ≤ m) (hm : m ≤ 1000000) : SortsTo n := fun w0 M w au cu S hw hn => sort_holds w0 M w au n cu S hw hn (by omega)
def smallB (R : List Rch) (Gs : List Q3) (L : List Clm) : Bool := decide (R.length ≤ 12 ∧ Gs.length = R.length ∧ L.length ≤ 20) && (briefB Gs && (briefB (L.map (·.am)) && decide (rgtE R Gs L = 0)))
theorem satOQ {w0 w : World} {M : List Row} {E base : Nat} {a : Option Addr} {n c : Nat} {L : List Q3} (hw : Sat w0 M w) (hm : Row.own base (.slice a n c) E 3 n (flat qV L) ∈ M) (hn : L.length = n) : SlAt w a 3 (L.map qV) := SlAt.ofOwn (fun _ => rfl) (hw.hold _ hm) hn
theorem small39_holds (ra : Option Addr) (R : List Rch) (rc : Nat) (ga : Option Addr) (Gs : List Q3) (gc : Nat) (la : Option Addr) (L : List Clm) (lc : Nat) (w : World) (hS : SupAt w ra R ga (Gs.map qV)) (hL : SlAt w la 5 (L.map clV)) :
    Calls Tryz.prog 10 #[.agg #[.slice ra R.length rc, .slice ga Gs.length gc], .slice la L.length lc] w fun e w' => e = .returned (.bool (smallB R Gs L)) ∧ Below w.heap.size w w' := by
  have hbg := fun w' (hb : Below w.heap.size w w') => brief_holds ga Gs gc w' (hS.gns.below hb)
  rw [smallB]
  by_cases h1 : R.length ≤ 12 ∧ Gs.length = R.length ∧ L.length ≤ 20
  case neg =>
    rw [decide_eq_false h1, Bool.false_and]
    clear hS hL
    by_cases h2 : R.length ≤ 12
    · by_cases h3 : Gs.length = R.length
      · have h4 : 20 < L.length := by omega
        refine enterA [(0, .agg #[.slice ra R.length rc, .slice ga Gs.length gc]), (1, .slice la L.length lc)] Tryz.func10 Tryz.ntmps10 ?_
        all_goals (refine go ?_; and_intros <;> (try exact trivial) <;> repeat (first | refine fun (Bk : Nat) => ?_ | intro h))
        repeat' ((first | (apply G.cV (g := 11) (vs := [.slice ga Gs.length gc]); rfl; rfl; exact fun w' hw' => hbg w' hw'.below)) <;> (refine go ?_; and_intros <;> (try exact trivial) <;> repeat (first | refine fun (Bk : Nat) => ?_ | intro h)))
        all_goals refine ret1b Tryz.func10 Tryz.results10 ?_
        all_goals rfl
      · skip
        refine enterA [(0, .agg #[.slice ra R.length rc, .slice ga Gs.length gc]), (1, .slice la L.length lc)] Tryz.func10 Tryz.ntmps10 ?_
        all_goals (refine go ?_; and_intros <;> (try exact trivial) <;> repeat (first | refine fun (Bk : Nat) => ?_ | intro h))
        repeat' ((first | (apply G.cV (g := 11) (vs := [.slice ga Gs.length gc]); rfl; rfl; exact fun w' hw' => hbg w' hw'.below)) <;> (refine go ?_; and_intros <;> (try exact trivial) <;> repeat (first | refine fun (Bk : Nat) => ?_ | intro h)))
        all_goals refine ret1b Tryz.func10 Tryz.results10 ?_
        all_goals rfl
    · skip
      refine enterA [(0, .agg #[.slice ra R.length rc, .slice ga Gs.length gc]), (1, .slice la L.length lc)] Tryz.func10 Tryz.ntmps10 ?_
      all_goals (refine go ?_; and_intros <;> (try exact trivial) <;> repeat (first | refine fun (Bk : Nat) => ?_ | intro h))
      repeat' ((first | (apply G.cV (g := 11) (vs := [.slice ga Gs.length gc]); rfl; rfl; exact fun w' hw' => hbg w' hw'.below)) <;> (refine go ?_; and_intros <;> (try exact trivial) <;> repeat (first | refine fun (Bk : Nat) => ?_ | intro h)))
      all_goals refine ret1b Tryz.func10 Tryz.results10 ?_
      all_goals rfl
  rw [decide_eq_true h1, Bool.true_and]
  obtain ⟨h2, h3, h4⟩ := h1
  have hgf := briefB_few (l := Gs)
  cases hbb : briefB Gs
  · rw [hbb] at hbg
    rw [Bool.false_and]
    clear hS hL hgf hbb
    refine enterA [(0, .agg #[.slice ra R.length rc, .slice ga Gs.length gc]), (1, .slice la L.length lc)] Tryz.func10 Tryz.ntmps10 ?_
    all_goals (refine go ?_; and_intros <;> (try exact trivial) <;> repeat (first | refine fun (Bk : Nat) => ?_ | intro h))
    repeat' ((first | (apply G.cV (g := 11) (vs := [.slice ga Gs.length gc]); rfl; rfl; exact fun w' hw' => hbg w' hw'.below)) <;> (refine go ?_; and_intros <;> (try exact trivial) <;> repeat (first | refine fun (Bk : Nat) => ?_ | intro h)))
    all_goals refine ret1b Tryz.func10 Tryz.results10 ?_
    all_goals rfl
  have hgf := (hgf.1 hbb).2
  rw [hbb] at hbg
  rw [Bool.true_and]
  clear hbb
  have hcf := briefB_few (l := L.map (·.am))
  have hck : briefB (L.map (·.am)) = true → ∀ w', Below w.heap.size w w' → Calls Tryz.prog 48 #[.agg #[.slice ra R.length rc, .slice ga Gs.length gc], .slice la L.length lc] w' fun e w2 => e = .returned (.int .i64 (rgtE R Gs L)) ∧ Below w'.heap.size w' w2 := fun h =>
    Arg.vck ⟨hS, hL, fun q hq => fewQ_le (hgf q hq) (by decide), fun c hc => fewQ_le ((hcf.1 h).2 _ (List.mem_map.2 ⟨c, hc, rfl⟩)) (by decide), by omega, by omega⟩ rc gc lc
  clear hgf hcf hS
  refine enterA [(0, .agg #[.slice ra R.length rc, .slice ga Gs.length gc]), (1, .slice la L.length lc)] Tryz.func10 Tryz.ntmps10 ?_
  all_goals (refine go ?_; and_intros <;> (try exact trivial) <;> repeat (first | refine fun (Bk : Nat) => ?_ | intro h))
  repeat' ((first | (apply G.cV (g := 11) (vs := [.slice ga Gs.length gc]); rfl; rfl; exact fun w' hw' => hbg w' hw'.below)) <;> (refine go ?_; and_intros <;> (try exact trivial) <;> repeat (first | refine fun (Bk : Nat) => ?_ | intro h)))
  clear hbg
  apply J.nilOwn (E := 29) (size := 3)
  refine J.loop (c := _) ((0, none, 0) : Nat × Option Addr × Nat) (fun s => L.length - s.1) (fun s => [(1, .slice la L.length lc), (2, .pointer (some ⟨Bk, 0, none⟩)), (5, .slice s.2.1 s.1 s.2.2), (32, .slice la L.length lc), (33, .int .i64 L.length), (34, .int .i64 s.1)]) (fun s => [.own 0 (.slice s.2.1 s.1 s.2.2) 29 3 s.1 (flat qV ((L.take s.1).map (·.am))), .blk Bk 25 [.slice ra R.length rc, .slice ga Gs.length gc] 2]) (fun s => s.1 ≤ L.length) ?_ sbT sbL ?_
  · exact Nat.zero_le _
  intro ⟨i, au, cu⟩ k1 ih
  dsimp only at k1 ⊢
  by_cases hi : i < L.length
  · obtain ⟨ba, oa, rfl, hra⟩ := SlAt.all hL (by omega)
    have hri := hra i hi
    have hap : flat qV ((L.take i).map (·.am)) ++ qV L[i].am = flat qV ((L.take i).map (·.am) ++ [L[i].am]) := flat1 qV _ _
    have ih := fun a2 c2 => ih (i + 1, a2, c2) hi (by dsimp only; omega)
    dsimp only at ih
    simp only [List.take_add_one, List.getElem?_eq_getElem hi, Option.toList, List.map_append, List.map_cons, List.map_nil] at ih
    clear hra hL hck
    generalize L[i] = cl at *
    obtain ⟨pl, rk, am⟩ := cl
    obtain ⟨s1, u1, v1⟩ := am
    dsimp only [qV, qA, clV] at *
    all_goals (refine go ?_; and_intros <;> (try exact trivial) <;> repeat (first | refine fun (Bk : Nat) => ?_ | intro h))
    repeat' ((first | (apply G.sliceL; rfl; rfl; rfl; rfl; rfl; rfl; rfl; rfl; intro Bs) | (apply G.apV; rfl; rfl; rfl; (repeat (first | exact RAt.head | apply RAt.tail)); exact SrcV.blk (by exact mm) rfl rfl; exact hap; omega; omega; intro a2 c2)) <;> (refine go ?_; and_intros <;> (try exact trivial) <;> repeat (first | refine fun (Bk : Nat) => ?_ | intro h)))
    exact J.fin (ih a2 c2)
  obtain rfl : i = L.length := by omega
  rw [List.take_length]
  have hle : (L.map (·.am)).length = L.length := List.length_map _
  have hba := fun c w' (h : SlAt w' au 3 ((L.map (·.am)).map qV)) => brief_holds au (L.map (·.am)) c w' h
  rw [hle] at hba
  clear ih
  generalize L.map (·.am) = AM at *
  generalize rgtE R Gs L = E at *
  cases hbb : briefB AM
  · rw [hbb] at hba
    rw [Bool.false_and]
    clear hck
    all_goals (refine go ?_; and_intros <;> (try exact trivial) <;> repeat (first | refine fun (Bk : Nat) => ?_ | intro h))
    repeat' ((first | (apply G.cV (g := 11); rfl; rfl; exact fun w' hw' => hba _ w' (satOQ hw' (by exact mm) hle))) <;> (refine go ?_; and_intros <;> (try exact trivial) <;> repeat (first | refine fun (Bk : Nat) => ?_ | intro h)))
    all_goals refine ret1b Tryz.func10 Tryz.results10 ?_
    all_goals rfl
  rw [hbb] at hba
  rw [Bool.true_and]
  have hck := hck hbb
  by_cases h0 : E = 0
  · rw [decide_eq_true h0]
    all_goals (refine go ?_; and_intros <;> (try exact trivial) <;> repeat (first | refine fun (Bk : Nat) => ?_ | intro h))
    repeat' ((first | (apply G.cV (g := 48); rfl; rfl; exact fun w' hw' => hck w' hw'.below) | (apply G.cV (g := 11); rfl; rfl; exact fun w' hw' => hba _ w' (satOQ hw' (by exact mm) hle))) <;> (refine go ?_; and_intros <;> (try exact trivial) <;> repeat (first | refine fun (Bk : Nat) => ?_ | intro h)))
    all_goals refine ret1b Tryz.func10 Tryz.results10 ?_
    all_goals rfl
  · rw [decide_eq_false h0]
    all_goals (refine go ?_; and_intros <;> (try exact trivial) <;> repeat (first | refine fun (Bk : Nat) => ?_ | intro h))
    repeat' ((first | (apply G.cV (g := 48); rfl; rfl; exact fun w' hw' => hck w' hw'.below) | (apply G.cV (g := 11); rfl; rfl; exact fun w' hw' => hba _ w' (satOQ hw' (by exact mm) hle))) <;> (refine go ?_; and_intros <;> (try exact trivial) <;> repeat (first | refine fun (Bk : Nat) => ?_ | intro h)))
    all_goals refine ret1b Tryz.func10 Tryz.results10 ?_
    all_goals rfl
end Go.Proofs.YtcdgibkbbcekhaaGreatDoor
/-
  Plain laws of rights: what Allot hands out is served; how long its numbers are.
-/
namespace Go.Proofs.YtcdgibkbbcekhaaGreatDoor
open Go.RowKit Go.Sl Go.Num
/-! ### sizes -/
structure Den (Gs : List Rat) (T : List Rat) (K : Nat) : Prop where
  pos : 0 < K
  lt : 256 ^ 43 * K < 256 ^ eK
  t : ∀ t ∈ T, Iq (t * ((K : Int) : Rat))
  g : ∀ p, Iq (fsq Gs p * ((K : Int) : Rat))
theorem den_all {R : List Rch} {Gs : List Rat} {L : List Cm} (hA : Alo R Gs L) (hs : SupOk R Gs) (hC : ClOk R.length L) : ∃ K, Den Gs (allT R Gs L 101) K := by
  obtain ⟨j, j1, E, e0, e1, e2⟩ := (rk_all hA hs hC 101).sz
  have hE : E ≤ 256 ^ (eB * 20) := by
    refine Nat.le_trans e1 ?_
    rw [← Nat.pow_mul]
    exact Nat.pow_le_pow_right (by decide) (Nat.mul_le_mul_left _ (by omega))
  refine ⟨dnA Gs L * E, Nat.mul_pos (dnA_pos _ _) e0, ?_, fun t ht => ?_, fun p => ?_⟩
  · have : 256 ^ 43 * (dnA Gs L * E) ≤ 256 ^ 43 * (256 ^ eD * 256 ^ (eB * 20)) := Nat.mul_le_mul_left _ (Nat.mul_le_mul (dnA_le hA hs.len) hE)
    rw [← Nat.pow_add, ← Nat.pow_add] at this
    exact Nat.lt_of_le_of_lt this (Nat.pow_lt_pow_right (by decide) (by rw [eD, eB, eK]; decide))
  · rw [Int.natCast_mul, Rat.intCast_mul, ← Rat.mul_assoc]; exact e2 t ht
  · rw [Int.natCast_mul, Rat.intCast_mul, ← Rat.mul_assoc]; exact (dnA_g Gs L p).mul (Iq.int _)
theorem Den.few {Gs T : List Rat} {K : Nat} (h : Den Gs T K) {x : Rat} (h1 : Iq (x * ((K : Int) : Rat))) (h2 : 0 ≤ x) (h3 : x ≤ (((256 ^ 43 : Nat) : Int) : Rat)) : fewQ 30000 (rQ x) := by
  have h4 : Fr K (256 ^ 43 * K) x := fr_of h1 h2 h3
  have h5 : fewQ eK (rQ x) := h4.few h.pos (Nat.lt_of_le_of_lt (Nat.le_mul_of_pos_left _ (Nat.pow_pos (by decide))) h.lt) h.lt
  exact h5
theorem Den.used {Gs T : List Rat} {K : Nat} (h : Den Gs T K) (on : Nat → Nat → Bool) (L : List Cm) (g : Nat) : Iq (Go.Proofs.YtcdgibkbbcekhaaGreatDoor.used on (L.zip T) g * ((K : Int) : Rat)) := by
  rw [Go.Proofs.YtcdgibkbbcekhaaGreatDoor.used, qs_mulr]
  refine Iq.qs fun z hz => ?_
  split
  · exact h.t _ (List.of_mem_zip hz).2
  · rw [Rat.zero_mul]; exact Iq.zero
theorem Den.sup {Gs T : List Rat} {K : Nat} (h : Den Gs T K) (on : Nat → Nat → Bool) (n g : Nat) : Iq (Go.Proofs.YtcdgibkbbcekhaaGreatDoor.sup on n (fsq Gs) g * ((K : Int) : Rat)) := by
  rw [Go.Proofs.YtcdgibkbbcekhaaGreatDoor.sup, qs_mulr]
  refine Iq.qs fun z hz => ?_
  split
  · exact h.g _
  · rw [Rat.zero_mul]; exact Iq.zero
theorem Den.rs {R : List Rch} {Gs T : List Rat} {K : Nat} (h : Den Gs T K) (L : List Cm) (g : Nat) : Iq (rsT R Gs L T g * ((K : Int) : Rat)) := by
  rw [rsT, show ∀ a b c : Rat, (a - b) * c = a * c - b * c by intros; grind]
  exact (h.sup _ _ _).sub (h.used _ _ _)
/-! ### served -/
end Go.Proofs.YtcdgibkbbcekhaaGreatDoor
/-
  The law RightsAreServed.
-/
namespace Go.Proofs.YtcdgibkbbcekhaaGreatDoor
open Go.RowKit Go.Sl Go.Num
theorem qs_pre {α : Type} {f : α → Rat} {L : List α} (h : ∀ x ∈ L, 0 ≤ f x) (k : Nat) : qs (L.take k) f ≤ qs L f := by
  have h1 := qs_app f (L.take k) (L.drop k)
  rw [List.take_append_drop] at h1
  have h2 := qs_nn (L := L.drop k) (f := f) fun x hx => h x (List.mem_of_mem_drop hx)
  grind
theorem qs_snd {L : List Cm} {T : List Rat} (h : T.length = L.length) : (qs (L.zip T) fun z => z.2) = qs T fun t => t := by
  have h1 : (L.zip T).map Prod.snd = T := List.map_snd_zip (by omega)
  conv => rhs; rw [← h1, qs_map]
/-- What is taken, and what is left at the outlets of the first g gauges. -/
def tkS (R : List Rch) (Gs : List Rat) (L : List Cm) (T : List Rat) (g : Nat) : Rat := (qs T fun t => t) + qs (List.range g) fun g => if dnOf R (g : Int) < 0 then rsT R Gs L T g else 0
def cmS (Gs : List Rat) (g : Nat) : Rat := qs (List.range g) (fsq Gs)
theorem tkS_all {R : List Rch} {Gs : List Rat} {L : List Cm} {T : List Rat} (hs : SupOk R Gs) (hC : ClOk R.length L) (h1 : T.length = L.length) : tkS R Gs L T R.length = cmS Gs R.length := by
  have h := conserve (riv_of hs.riv) (fsq Gs) (L.zip T) fun z hz => hC.pl _ (List.of_mem_zip hz).1
  rw [qs_snd h1] at h
  exact h
structure Srv (R : List Rch) (Gs : List Rat) (L : List Cm) (T : List Rat) : Prop where
  t : ∀ k, fewQ 30000 (rQ (qs (T.take k) fun t => t))
  tk : ∀ t ∈ T, fewQ 30000 (rQ t)
  nn : ∀ t ∈ T, 0 ≤ t
  rs : ∀ g, g < R.length → fewQ 30000 (rQ (rsT R Gs L T g))
  tt : ∀ g, g ≤ R.length → fewQ 30000 (rQ (tkS R Gs L T g))
  cm : ∀ g, g ≤ R.length → fewQ 30000 (rQ (cmS Gs g))
theorem srv_all {R : List Rch} {Gs : List Rat} {L : List Cm} (hA : Alo R Gs L) (hs : SupOk R Gs) (hC : ClOk R.length L) : Srv R Gs L (allT R Gs L 101) := by
  obtain ⟨K, hK⟩ := den_all hA hs hC
  have hT := allT_len (R := R) (Gs := Gs) (L := L) 101
  have hf := all_fair hA hs hC
  generalize allT R Gs L 101 = T at *
  have hnn : ∀ t ∈ T, 0 ≤ t := fun t ht => by
    obtain ⟨i, hi, rfl⟩ := List.getElem_of_mem ht
    exact (hf.nn (L[i]'(by omega), T[i]) (by rw [← List.getElem_zip (h := by rw [List.length_zip]; omega)]; exact List.getElem_mem _)).1
  have hrs : ∀ g, g < R.length → 0 ≤ rsT R Gs L T g := fun g hg => by
    have := hf.ok g hg
    rw [rsT]; grind
  have htot : cmS Gs R.length ≤ (((256 ^ 43 : Nat) : Int) : Rat) := by
    have h1 : cmS Gs R.length ≤ (((List.range R.length).length : Int) : Rat) * (((256 ^ 41 : Nat) : Int) : Rat) := qs_bound fun p _ => by
      rcases Nat.lt_or_ge p Gs.length with h | h
      · rw [fsq_lt h]; exact few_val (hA.g _ (List.getElem_mem h)) (hs.nn _ (List.getElem_mem h))
      · rw [fsq_ge h]; exact pow_nn 41
    rw [List.length_range] at h1
    refine Rat.le_trans h1 ?_
    rw [← Rat.intCast_mul]
    refine Rat.intCast_le_intCast.2 ?_
    have h2 : R.length * 256 ^ 41 ≤ 256 ^ 43 := by
      have : R.length * 256 ^ 41 ≤ 12 * 256 ^ 41 := Nat.mul_le_mul_right _ hA.n
      exact Nat.le_trans this (by decide)
    exact_mod_cast h2
  have h0 := tkS_all hs hC hT
  have hIt : ∀ k, Iq ((qs (T.take k) fun t => t) * ((K : Int) : Rat)) := fun k => by
    rw [qs_mulr]
    exact Iq.qs fun t ht => hK.t t (List.mem_of_mem_take ht)
  have hz : ∀ g ∈ List.range R.length, 0 ≤ if dnOf R (g : Int) < 0 then rsT R Gs L T g else 0 := fun g hg => by
    split
    · exact hrs g (List.mem_range.1 hg)
    · exact Rat.le_refl
  have htk : ∀ g, g ≤ R.length → 0 ≤ tkS R Gs L T g ∧ tkS R Gs L T g ≤ (((256 ^ 43 : Nat) : Int) : Rat) := fun g hg => by
    have h1 := qs_nn (L := T) (f := fun t => t) hnn
    have h2 := qs_pre hz g
    have h3 := qs_nn (L := (List.range R.length).take g) (f := fun g : Nat => if dnOf R (g : Int) < 0 then rsT R Gs L T g else 0) fun x hx => hz x (List.mem_of_mem_take hx)
    rw [List.take_range, Nat.min_eq_left hg] at h2 h3
    rw [tkS] at h0 ⊢
    grind
  have hqt : (qs T fun t => t) ≤ (((256 ^ 43 : Nat) : Int) : Rat) := by
    have := (htk 0 (Nat.zero_le _)).2
    rw [tkS, List.range_zero, qs_nil, Rat.add_zero] at this
    exact this
  refine ⟨fun k => hK.few (hIt k) (qs_nn fun t ht => hnn t (List.mem_of_mem_take ht)) (Rat.le_trans (qs_pre hnn k) hqt), fun t ht => hK.few (hK.t t ht) (hnn t ht) (Rat.le_trans (qs_mem (f := fun t => t) hnn ht) hqt), hnn, fun g hg => ?_, fun g hg => hK.few ?_ (htk g hg).1 (htk g hg).2, fun g hg => hK.few ?_ (qs_nn fun p _ => (hs.fsq p).2) ?_⟩
  · refine hK.few (hK.rs L g) (hrs g hg) ?_
    have h1 : rsT R Gs L T g ≤ cmS Gs R.length := by
      have h2 : sup (onR R) R.length (fsq Gs) g ≤ cmS Gs R.length := qs_le fun p _ => by
        split
        · exact Rat.le_refl
        · exact (hs.fsq p).2
      have h3 : 0 ≤ used (onR R) (L.zip T) g := qs_nn fun z hz => by
        split
        · exact (hf.nn z hz).1
        · exact Rat.le_refl
      rw [rsT]; grind
    exact Rat.le_trans h1 htot
  · rw [tkS, show ∀ a b c : Rat, (a + b) * c = a * c + b * c by intros; grind]
    refine Iq.add ?_ ?_
    · have := hIt T.length
      rwa [List.take_length] at this
    · rw [qs_mulr]
      refine Iq.qs fun x _ => ?_
      split
      · exact hK.rs L x
      · rw [Rat.zero_mul]; exact Iq.zero
  · rw [cmS, qs_mulr]
    exact Iq.qs fun p _ => hK.g p
  · have h1 := qs_pre (L := List.range R.length) (f := fsq Gs) (fun p _ => (hs.fsq p).2) g
    rw [List.take_range, Nat.min_eq_left hg] at h1
    exact Rat.le_trans h1 htot
end Go.Proofs.YtcdgibkbbcekhaaGreatDoor
