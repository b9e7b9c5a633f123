/-
  Contracts of the rational numbers: Div and Min of both; short forms over rationals.
-/
import Derived.Test.YtcdgibkbbcekhaaGreatDoorGR7
set_option linter.unusedVariables false
set_option linter.unusedSimpArgs false
set_option linter.unusedSectionVars false
namespace Go.Proofs.YtcdgibkbbcekhaaGreatDoor
open Go.RowKit Go.Sl Go.Num
/-- A number of moderate length. -/
def big (x : Rat) : Prop := fewQ 60000000 (rQ x)
theorem big.a {x : Rat} (h : big x) : (rQ x).num.length ≤ 134217000 ∧ (rQ x).den.length ≤ 134217000 := ⟨Nat.le_trans h.1 (by decide), Nat.le_trans h.2 (by decide)⟩
theorem fewQ.big {x : Rat} {k : Nat} (h : fewQ k (rQ x)) (hk : k ≤ 60000000) : big x := fewQ_le h hk
theorem vAdd {x y : Rat} (hx : big x) (hy : big y) (w : World) : Calls Tryz.prog 15 #[qA (rQ x), qA (rQ y)] w fun e w' => e = .returned (qA (rQ (x + y))) ∧ Below w.heap.size w w' := by
  have h := ratAdd_holds (rQ x) (rQ y) w (by have := hx.a; omega) (by have := hx.a; omega) (by have := hy.a; omega) (by have := hy.a; omega)
  rwa [qR_rQ, qR_rQ] at h
theorem vSub {x y : Rat} (hx : big x) (hy : big y) (w : World) : Calls Tryz.prog 67 #[qA (rQ x), qA (rQ y)] w fun e w' => e = .returned (qA (rQ (x - y))) ∧ Below w.heap.size w w' := by
  have h := ratSub_holds (rQ x) (rQ y) w (by have := hx.a; omega) (by have := hx.a; omega) (by have := hy.a; omega) (by have := hy.a; omega)
  rwa [qR_rQ, qR_rQ] at h
theorem vMul {x y : Rat} (hx : big x) (hy : big y) (w : World) : Calls Tryz.prog 17 #[qA (rQ x), qA (rQ y)] w fun e w' => e = .returned (qA (rQ (x * y))) ∧ Below w.heap.size w w' := by
  have h := ratMul_holds (rQ x) (rQ y) w (by have := hx.a; omega) (by have := hx.a; omega) (by have := hy.a; omega) (by have := hy.a; omega)
  rwa [qR_rQ, qR_rQ] at h
theorem vCmp {x y : Rat} (hx : big x) (hy : big y) (w : World) : Calls Tryz.prog 16 #[qA (rQ x), qA (rQ y)] w fun e w' => e = .returned (.int .i64 (sgnR (x - y))) ∧ Below w.heap.size w w' := by
  have h := ratCmp_holds (rQ x) (rQ y) w (by have := hx.a; omega) (by have := hx.a; omega) (by have := hy.a; omega) (by have := hy.a; omega)
  rwa [qR_rQ, qR_rQ] at h
theorem rQ_nil {x : Rat} : (rQ x).num = [] ↔ x = 0 := by
  constructor
  · intro h
    have h1 := rQ_valid x
    rcases h1 with h1 | h1
    · have := congrArg qR h1
      rwa [qR_rQ] at this
    · exact absurd h h1.1
  · rintro rfl; rfl
end Go.Proofs.YtcdgibkbbcekhaaGreatDoor
/-
  Contracts of rights: zero, natural, Check of both.
-/
namespace Go.Proofs.YtcdgibkbbcekhaaGreatDoor
open Go.RowKit Go.Sl Go.Num
/-- A claim as it comes. -/
structure Clm where
  pl : Int
  rk : Int
  am : Q3
def clV (c : Clm) : List Value := [.int .i64 c.pl, .int .i64 c.rk, .bool c.am.neg, .string (bs c.am.num), .string (bs c.am.den)]
def natB (q : Q3) : Bool := decide (validQ q) && !q.neg
theorem zero_holds (w : World) : Calls Tryz.prog 61 #[] w fun e w' => e = .returned (qA zero3) ∧ Below w.heap.size w w' := by
  refine enterA [] Tryz.func61 Tryz.ntmps61 ?_
  all_goals (refine go ?_; and_intros <;> (try exact trivial) <;> repeat (first | refine fun (Bk : Nat) => ?_ | intro h))
  all_goals refine ret1b Tryz.func61 Tryz.results61 ?_
  all_goals rfl
theorem vNatural_holds (a : Q3) (w : World) (hf : fewQ 1000 a) : Calls Tryz.prog 116 #[qA a] w fun e w' => e = .returned (.bool (natB a)) ∧ Below w.heap.size w w' := by
  have hv := fun w' => ratValid_holds a w' (Nat.le_trans hf.1 (by decide)) (Nat.le_trans hf.2 (by decide))
  rw [natB]
  generalize decide (validQ a) = b at *
  obtain ⟨s, n, d⟩ := a
  dsimp only [qA] at *
  refine enterA [(0, .agg #[.bool s, .string (bs n), .string (bs d)])] Tryz.func116 Tryz.ntmps116 ?_
  cases b <;> cases s
  all_goals
    all_goals (refine go ?_; and_intros <;> (try exact trivial) <;> repeat (first | refine fun (Bk : Nat) => ?_ | intro h))
    repeat' ((first | (apply G.cV (g := 12); rfl; rfl; exact fun w' _ => hv w')) <;> (refine go ?_; and_intros <;> (try exact trivial) <;> repeat (first | refine fun (Bk : Nat) => ?_ | intro h)))
    all_goals refine ret1b Tryz.func116 Tryz.results116 ?_
    all_goals rfl
theorem vCheck1_holds (a : Q3) (w : World) (hf : fewQ 1000 a) : Calls Tryz.prog 115 #[qA a] w fun e w' => e = .returned (.bool (!natB a)) ∧ Below w.heap.size w w' := by
  have hv := fun w' => vNatural_holds a w' hf
  generalize natB a = b at *
  obtain ⟨s, n, d⟩ := a
  dsimp only [qA] at *
  refine enterA [(0, .agg #[.bool s, .string (bs n), .string (bs d)])] Tryz.func115 Tryz.ntmps115 ?_
  cases b
  all_goals
    all_goals (refine go ?_; and_intros <;> (try exact trivial) <;> repeat (first | refine fun (Bk : Nat) => ?_ | intro h))
    repeat' ((first | (apply G.cV (g := 116); rfl; rfl; exact fun w' _ => hv w')) <;> (refine go ?_; and_intros <;> (try exact trivial) <;> repeat (first | refine fun (Bk : Nat) => ?_ | intro h)))
    all_goals refine ret1b Tryz.func115 Tryz.results115 ?_
    all_goals rfl
def idxQ (l : List Q3) (p : Q3 → Bool) : Int := if l.findIdx p < l.length then (l.findIdx p : Int) else -1
theorem indexFuncQ_holds (g : FuncId) [hF : Fun Tryz.prog g] (p : Q3 → Bool) (a : Option Addr) (l : List Q3) (c : Nat) (w : World) (hA : SlAt w a 3 (l.map qV)) (hl : l.length ≤ 1000000000)
    (hf : ∀ s ∈ l, ∀ w', Calls Tryz.prog g (#[qA s] ++ #[]) w' fun e w2 => e = .returned (.bool (p s)) ∧ Below w'.heap.size w' w2) :
    Calls Tryz.prog 160 #[.slice a l.length c, .func (.func g) #[] #[]] w fun e w' => e = .returned (.int .i64 (idxQ l p)) ∧ Below w.heap.size w w' := by
  have hle : l.findIdx p ≤ l.length := List.findIdx_le_length
  refine enterA [(0, .slice a l.length c), (1, .func (.func g) #[] #[])] Tryz.func160 Tryz.ntmps160 ?_
  all_goals (refine go ?_; and_intros <;> (try exact trivial) <;> repeat (first | refine fun (Bk : Nat) => ?_ | intro h))
  refine J.loop (c := _) (0 : Nat) (fun s => l.length - s) (fun s => [(0, .slice a l.length c), (1, .func (.func g) #[] #[]), (7, .int .i64 l.length), (8, .int .i64 s)]) (fun s => []) (fun s => s ≤ l.findIdx p) ?_ sbT sbL ?_
  · exact Nat.zero_le _
  intro k h1 ih
  by_cases hk : k < l.length
  · obtain ⟨ba, oa, rfl, hra⟩ := SlAt.all hA (by omega)
    have hr := hra k hk
    have hfk := hf l[k] (List.getElem_mem hk)
    by_cases hq : l.findIdx p = k
    · have hp : p l[k] = true := by
        have := List.findIdx_getElem (w := (show l.findIdx p < l.length by omega))
        simpa only [hq] using this
      rw [idxQ, if_pos (by omega), hq]
      rw [hp] at hfk
      clear hra hf
      generalize l[k] = q at *
      obtain ⟨s, n, d⟩ := q
      dsimp only [qV, qA] at *
      all_goals (refine go ?_; and_intros <;> (try exact trivial) <;> repeat (first | refine fun (Bk : Nat) => ?_ | intro h))
      repeat' ((first | (apply G.callVf (g := g); rfl; rfl; rfl; rfl; rfl; exact fun w' _ => hfk w')) <;> (refine go ?_; and_intros <;> (try exact trivial) <;> repeat (first | refine fun (Bk : Nat) => ?_ | intro h)))
      all_goals refine ret1b Tryz.func160 Tryz.results160 ?_
      all_goals rfl
    · have hp : p l[k] = false := by
        have := List.not_of_lt_findIdx (show k < l.findIdx p by omega)
        simpa using this
      rw [hp] at hfk
      have ih := ih (k + 1) (by omega) (by omega)
      clear hra hf
      generalize l[k] = q at *
      obtain ⟨s, n, d⟩ := q
      dsimp only [qV, qA] at *
      all_goals (refine go ?_; and_intros <;> (try exact trivial) <;> repeat (first | refine fun (Bk : Nat) => ?_ | intro h))
      repeat' ((first | (apply G.callVf (g := g); rfl; rfl; rfl; rfl; rfl; exact fun w' _ => hfk w')) <;> (refine go ?_; and_intros <;> (try exact trivial) <;> repeat (first | refine fun (Bk : Nat) => ?_ | intro h)))
      exact J.fin ih
  · rw [idxQ, if_neg (by omega)]
    all_goals (refine go ?_; and_intros <;> (try exact trivial) <;> repeat (first | refine fun (Bk : Nat) => ?_ | intro h))
    all_goals refine ret1b Tryz.func160 Tryz.results160 ?_
    all_goals rfl
theorem containsFuncQ_holds (g : FuncId) [hF : Fun Tryz.prog g] (p : Q3 → Bool) (a : Option Addr) (l : List Q3) (c : Nat) (w : World) (hA : SlAt w a 3 (l.map qV)) (hl : l.length ≤ 1000000000)
    (hf : ∀ s ∈ l, ∀ w', Calls Tryz.prog g (#[qA s] ++ #[]) w' fun e w2 => e = .returned (.bool (p s)) ∧ Below w'.heap.size w' w2) :
    Calls Tryz.prog 114 #[.slice a l.length c, .func (.func g) #[] #[]] w fun e w' => e = .returned (.bool (l.any p)) ∧ Below w.heap.size w w' := by
  have hi := fun w' (hb : Below w.heap.size w w') => indexFuncQ_holds g p a l c w' (hA.below hb) hl hf
  have hlt : l.findIdx p < l.length ↔ l.any p = true := by rw [List.findIdx_lt_length, List.any_eq_true]
  rw [idxQ] at hi
  generalize l.any p = b at *
  by_cases h : l.findIdx p < l.length
  · rw [if_pos h] at hi
    have hb := hlt.1 h
    subst hb
    generalize l.findIdx p = j at *
    refine enterA [(0, .slice a l.length c), (1, .func (.func g) #[] #[])] Tryz.func114 Tryz.ntmps114 ?_
    all_goals (refine go ?_; and_intros <;> (try exact trivial) <;> repeat (first | refine fun (Bk : Nat) => ?_ | intro h))
    repeat' ((first | (apply G.cV (g := 160); rfl; rfl; exact fun w' hw => hi w' hw.below)) <;> (refine go ?_; and_intros <;> (try exact trivial) <;> repeat (first | refine fun (Bk : Nat) => ?_ | intro h)))
    all_goals refine ret1b Tryz.func114 Tryz.results114 ?_
    all_goals rfl
  · rw [if_neg h] at hi
    have hb : b = false := by cases b <;> simp_all
    subst hb
    refine enterA [(0, .slice a l.length c), (1, .func (.func g) #[] #[])] Tryz.func114 Tryz.ntmps114 ?_
    all_goals (refine go ?_; and_intros <;> (try exact trivial) <;> repeat (first | refine fun (Bk : Nat) => ?_ | intro h))
    repeat' ((first | (apply G.cV (g := 160); rfl; rfl; exact fun w' hw => hi w' hw.below)) <;> (refine go ?_; and_intros <;> (try exact trivial) <;> repeat (first | refine fun (Bk : Nat) => ?_ | intro h)))
    all_goals refine ret1b Tryz.func114 Tryz.results114 ?_
    all_goals rfl
/-! ### Check -/
def clmE (n : Nat) (c : Clm) : Int := if c.pl < 0 ∨ (n : Int) ≤ c.pl ∨ c.rk < 0 ∨ 100 < c.rk then 3 else if natB c.am = true then 0 else 1
def clmsE (n : Nat) : List Clm → Int
  | [] => 0
  | c :: t => if clmE n c ≠ 0 then clmE n c else clmsE n t
def supE (R : List Rch) (Gs : List Q3) : Int := if rivErr R ≠ 0 then rivErr R else if Gs.length ≠ R.length ∨ Gs.any (fun q => !natB q) = true then 1 else 0
/-- The error of a supply and claims. -/
def rgtE (R : List Rch) (Gs : List Q3) (L : List Clm) : Int := if supE R Gs ≠ 0 then supE R Gs else if 200 < L.length then 2 else clmsE R.length L
theorem clmsE_step {n i : Nat} {l : List Clm} (hi : i < l.length) : clmsE n (l.drop i) = if clmE n l[i] ≠ 0 then clmE n l[i] else clmsE n (l.drop (i + 1)) := by
  rw [List.drop_eq_getElem_cons hi, clmsE]
structure SupAt (w : World) (ra : Option Addr) (R : List Rch) (ga : Option Addr) (Gs : List (List Value)) : Prop where
  riv : SlAt w ra 2 (R.map rcV)
  ker : KerAt w R
  gns : SlAt w ga 3 Gs
theorem SupAt.below {w w' : World} {ra : Option Addr} {R : List Rch} {ga : Option Addr} {Gs : List (List Value)} (h : SupAt w ra R ga Gs) (hb : Below w.heap.size w w') : SupAt w' ra R ga Gs := ⟨h.riv.below hb, h.ker.below hb, h.gns.below hb⟩
theorem vCheck_holds (ra : Option Addr) (R : List Rch) (rc : Nat) (ga : Option Addr) (Gs : List Q3) (gc : Nat) (la : Option Addr) (L : List Clm) (lc : Nat) (w : World) (hS : SupAt w ra R ga (Gs.map qV)) (hL : SlAt w la 5 (L.map clV))
    (hG : ∀ q ∈ Gs, fewQ 1000 q) (hC : ∀ c ∈ L, fewQ 1000 c.am) (hl : Gs.length ≤ 1000000 ∧ L.length ≤ 1000000) :
    Calls Tryz.prog 48 #[.agg #[.slice ra R.length rc, .slice ga Gs.length gc], .slice la L.length lc] w fun e w' => e = .returned (.int .i64 (rgtE R Gs L)) ∧ Below w.heap.size w w' := by
  have hrc := fun w' (hb : Below w.heap.size w w') => vCheckR_holds ra R rc w' (hS.riv.below hb) (hS.ker.below hb)
  have hcf := fun w' (hb : Below w.heap.size w w') => containsFuncQ_holds 115 (fun q => !natB q) ga Gs gc w' (hS.gns.below hb) (by omega) (fun q hq w2 => by rw [Array.append_empty]; exact vCheck1_holds q w2 (hG q hq))
  rw [rgtE, supE]
  clear hS hG
  refine enterA [(0, .agg #[.slice ra R.length rc, .slice ga Gs.length gc]), (1, .slice la L.length lc)] Tryz.func48 Tryz.ntmps48 ?_
  by_cases h1 : rivErr R = 0
  case neg =>
    rw [if_pos h1, if_pos h1]
    generalize rivErr R = re at *
    all_goals (refine go ?_; and_intros <;> (try exact trivial) <;> repeat (first | refine fun (Bk : Nat) => ?_ | intro h))
    repeat' ((first | (apply G.cV (g := 113); rfl; rfl; exact fun w' hw => hrc w' hw.below)) <;> (refine go ?_; and_intros <;> (try exact trivial) <;> repeat (first | refine fun (Bk : Nat) => ?_ | intro h)))
    all_goals refine ret1b Tryz.func48 Tryz.results48 ?_
    all_goals rfl
  rw [h1] at hrc
  rw [if_neg (not_not_intro h1)]
  generalize Gs.any (fun q => !natB q) = bb at *
  by_cases h2 : Gs.length ≠ R.length ∨ bb = true
  · rw [if_pos h2, if_pos (by decide)]
    have h2 : Gs.length ≠ R.length ∨ Gs.length = R.length ∧ bb = true := by
      by_cases h3 : Gs.length = R.length
      · exact .inr ⟨h3, h2.resolve_left fun h => h h3⟩
      · exact .inl h3
    rcases h2 with h2 | ⟨h2, rfl⟩
    all_goals
      all_goals (refine go ?_; and_intros <;> (try exact trivial) <;> repeat (first | refine fun (Bk : Nat) => ?_ | intro h))
      repeat' ((first | (apply G.cV (g := 113); rfl; rfl; exact fun w' hw => hrc w' hw.below) | (apply G.cV (g := 114); rfl; rfl; exact fun w' hw => hcf w' hw.below)) <;> (refine go ?_; and_intros <;> (try exact trivial) <;> repeat (first | refine fun (Bk : Nat) => ?_ | intro h)))
      all_goals refine ret1b Tryz.func48 Tryz.results48 ?_
      all_goals rfl
  rw [if_neg h2, if_neg (by decide)]
  obtain ⟨h3, h4⟩ : Gs.length = R.length ∧ bb = false := by
    refine ⟨Decidable.not_not.1 fun h => h2 (.inl h), ?_⟩
    cases bb
    · rfl
    · exact absurd (.inr rfl) h2
  subst h4
  clear h2
  by_cases h5 : 200 < L.length
  · rw [if_pos h5]
    all_goals (refine go ?_; and_intros <;> (try exact trivial) <;> repeat (first | refine fun (Bk : Nat) => ?_ | intro h))
    repeat' ((first | (apply G.cV (g := 113); rfl; rfl; exact fun w' hw => hrc w' hw.below) | (apply G.cV (g := 114); rfl; rfl; exact fun w' hw => hcf w' hw.below)) <;> (refine go ?_; and_intros <;> (try exact trivial) <;> repeat (first | refine fun (Bk : Nat) => ?_ | intro h)))
    all_goals refine ret1b Tryz.func48 Tryz.results48 ?_
    all_goals rfl
  rw [if_neg h5]
  all_goals (refine go ?_; and_intros <;> (try exact trivial) <;> repeat (first | refine fun (Bk : Nat) => ?_ | intro h))
  repeat' ((first | (apply G.cV (g := 113); rfl; rfl; exact fun w' hw => hrc w' hw.below) | (apply G.cV (g := 114); rfl; rfl; exact fun w' hw => hcf w' hw.below)) <;> (refine go ?_; and_intros <;> (try exact trivial) <;> repeat (first | refine fun (Bk : Nat) => ?_ | intro h)))
  refine J.loop (c := _) (0 : Nat) (fun s => L.length - s) (fun s => [(2, .pointer (some ⟨Bk, 0, none⟩)), (29, .slice la L.length lc), (30, .int .i64 L.length), (31, .int .i64 s)]) (fun s => [.blk Bk 25 [.slice ra R.length rc, .slice ga Gs.length gc] 2]) (fun s => s ≤ L.length ∧ clmsE R.length L = clmsE R.length (L.drop s)) ?_ sbT sbL ?_
  · exact ⟨Nat.zero_le _, rfl⟩
  intro i ⟨i1, i2⟩ ih
  by_cases hi : i < L.length
  · obtain ⟨ba, oa, rfl, hra⟩ := SlAt.all hL (by omega)
    have hr := hra i hi
    have hn := fun w' => vNatural_holds L[i].am w' (hC _ (List.getElem_mem hi))
    rw [clmsE_step hi] at i2
    have ih := fun (h : clmE R.length L[i] = 0) => ih (i + 1) ⟨hi, by rw [if_neg (fun h2 => h2 h)] at i2; exact i2⟩ (by omega)
    have he : clmE R.length L[i] ≠ 0 → clmsE R.length L = clmE R.length L[i] := fun h => by rw [if_pos h] at i2; exact i2
    clear hra i2 hL hC hrc hcf
    generalize L[i] = cl at *
    obtain ⟨pl, rk, am⟩ := cl
    dsimp only [clV, clmE] at *
    generalize natB am = nb at *
    generalize clmsE R.length L = res at *
    obtain ⟨s, nu, d⟩ := am
    dsimp only [qA] at *
    by_cases c1 : pl < 0 ∨ (R.length : Int) ≤ pl ∨ rk < 0 ∨ 100 < rk
    · rw [if_pos c1] at he
      obtain rfl := he (by decide)
      clear ih he
      all_goals (refine go ?_; and_intros <;> (try exact trivial) <;> repeat (first | refine fun (Bk : Nat) => ?_ | intro h))
      all_goals
        all_goals refine ret1b Tryz.func48 Tryz.results48 ?_
        all_goals rfl
    · rw [if_neg c1] at he ih
      cases nb
      · obtain rfl := he (by decide)
        clear ih he
        all_goals (refine go ?_; and_intros <;> (try exact trivial) <;> repeat (first | refine fun (Bk : Nat) => ?_ | intro h))
        repeat' ((first | (apply G.cV (g := 116); rfl; rfl; exact fun w' _ => hn w')) <;> (refine go ?_; and_intros <;> (try exact trivial) <;> repeat (first | refine fun (Bk : Nat) => ?_ | intro h)))
        all_goals refine ret1b Tryz.func48 Tryz.results48 ?_
        all_goals rfl
      · have ih := ih rfl
        clear he
        all_goals (refine go ?_; and_intros <;> (try exact trivial) <;> repeat (first | refine fun (Bk : Nat) => ?_ | intro h))
        repeat' ((first | (apply G.cV (g := 116); rfl; rfl; exact fun w' _ => hn w')) <;> (refine go ?_; and_intros <;> (try exact trivial) <;> repeat (first | refine fun (Bk : Nat) => ?_ | intro h)))
        exact J.fin ih
  · obtain rfl : i = L.length := by omega
    rw [i2, List.drop_length, clmsE]
    clear ih
    all_goals (refine go ?_; and_intros <;> (try exact trivial) <;> repeat (first | refine fun (Bk : Nat) => ?_ | intro h))
    all_goals refine ret1b Tryz.func48 Tryz.results48 ?_
    all_goals rfl
end Go.Proofs.YtcdgibkbbcekhaaGreatDoor
/-
  Contracts of rights: ways down, iterators over numbers at places.
-/
namespace Go.Proofs.YtcdgibkbbcekhaaGreatDoor
open Go.RowKit Go.Sl Go.Num
/-- The way from one gauge down. -/
def wayI (R : List Rch) (p : Nat) : List Int := (List.range (dpt R (p : Int))).map fun i => itr R i (p : Int)
theorem wayI_len (R : List Rch) (p : Nat) : (wayI R p).length = dpt R (p : Int) := by rw [wayI, List.length_map, List.length_range]
theorem wayI_get {R : List Rch} {p i : Nat} (h : i < dpt R (p : Int)) : (wayI R p)[i]? = some (itr R i p) := by
  rw [wayI, List.getElem?_map, List.getElem?_range h]; rfl
theorem wayI_at {R : List Rch} {p i : Nat} {e : Int} (h : (wayI R p)[i]? = some e) : i < dpt R (p : Int) ∧ e = itr R i p := by
  have h1 := (List.getElem?_eq_some_iff.1 h).1
  rw [wayI_len] at h1
  rw [wayI_get h1] at h
  exact ⟨h1, (Option.some.inj h).symm⟩
theorem rdown_iter (w0 : World) (Bg Bl : Nat) (a : Option Addr) (R : List Rch) (c : Nat) (p : Nat) (hA : SlAt w0 a 2 (R.map rcV)) (hR : Riv R) (hp : p < R.length) :
    IterE Tryz.prog w0 [.blk Bg 3 [.int .i64 p] 1, .blk Bl 22 [.slice a R.length c] 1] 132 #[.pointer (some ⟨Bg, 0, none⟩), .pointer (some ⟨Bl, 0, none⟩)] (fun e : Int => [.int .i64 e]) (wayI R p) := by
  intro X Rs Inv Out fY cY hY x0 hI0 M1 w hw
  have hl := hR.len
  obtain ⟨d1, d2, d3⟩ := hR.dep (g := (p : Int)) (by omega)
  have hin := fun i => (hR.in_ i (g := (p : Int)) (by omega) (by omega)).2
  have hge := fun {i} (h : i < dpt R (p : Int)) => wayI_get h
  rw [wayI_len]
  generalize dpt R (p : Int) = K at *
  refine enterR [(0, .func fY #[] cY), (1, .pointer (some ⟨Bg, 0, none⟩)), (2, .pointer (some ⟨Bl, 0, none⟩))] hw Tryz.func132 Tryz.ntmps132 ?_
  all_goals (refine go ?_; and_intros <;> (try exact trivial) <;> repeat (first | refine fun (Bk : Nat) => ?_ | intro h))
  refine J.loop (c := _) ((0, x0) : Nat × X) (fun s => K + 1 - s.1) (fun s => [(0, .func fY #[] cY), (1, .pointer (some ⟨Bg, 0, none⟩)), (2, .pointer (some ⟨Bl, 0, none⟩))]) (fun s => .blk Bg 3 [.int .i64 (itr R s.1 p)] 1 :: .blk Bl 22 [.slice a R.length c] 1 :: (Rs s.2 ++ M1)) (fun s => s.1 ≤ K ∧ Inv s.1 s.2) ?_ sbT sbL ?_
  · exact ⟨Nat.zero_le _, hI0⟩
  clear hI0 hw
  intro ⟨i, x⟩ ⟨h1, h2⟩ ih
  dsimp only at h1 h2 ⊢
  by_cases hi : i < K
  · have h3 := d3 i hi
    have h4 := hin i
    have hy := hY i x _ h2 (hge hi)
    have ih := fun x' h => ih (i + 1, x') ⟨hi, h⟩ (by dsimp only; omega)
    simp only [itr_succ] at ih
    clear hin hge d1 d3
    generalize itr R i p = y at *
    obtain ⟨j, rfl⟩ : ∃ j : Nat, y = j := ⟨y.toNat, by omega⟩
    have hj : j < R.length := by omega
    obtain ⟨ba, oa, rfl, hra⟩ := SlAt.all hA (by omega)
    have hrj := hra j hj
    rw [dnOf_at hj] at ih
    clear hra
    generalize R[j] = r at *
    obtain ⟨dn, ws, adr, cap⟩ := r
    dsimp only [rcV] at *
    all_goals (refine go ?_; and_intros <;> (try exact trivial) <;> repeat (first | refine fun (Bk : Nat) => ?_ | intro h))
    repeat' ((first | (refine G.callG (Rs := Rs) (x := x) (M1 := M1) (Inv (i + 1)) Out hy rfl rfl rfl rfl (by (repeat (first | exact Splt.nil | apply Splt.cons))) ?_ ?_; all_goals intro x' hx')) <;> (refine go ?_; and_intros <;> (try exact trivial) <;> repeat (first | refine fun (Bk : Nat) => ?_ | intro h)))
    · exact J.fin (ih x' hx')
    · refine ret0 Tryz.func132 Tryz.results132 ?_
      exact fun w' hw' => ⟨rfl, x', hw'.forget sbL, .inr hx'⟩
  · obtain rfl : i = K := by omega
    clear ih hin hge d3
    generalize itr R i p = y at *
    all_goals (refine go ?_; and_intros <;> (try exact trivial) <;> repeat (first | refine fun (Bk : Nat) => ?_ | intro h))
    refine end0 Tryz.func132 Tryz.results132 ?_
    exact fun w' hw' => ⟨rfl, x, hw'.forget sbL, .inl h2⟩
theorem rdown_holds (w0 : World) (M : List Row) (w : World) (a : Option Addr) (l : List Rch) (c : Nat) (g : Int) (hw : Sat w0 M w) :
    Calls Tryz.prog 70 #[.slice a l.length c, .int .i64 g] w fun e w' => ∃ x : Nat × Nat, e = .returned (.func (.func 132) #[] #[.pointer (some ⟨x.1, 0, none⟩), .pointer (some ⟨x.2, 0, none⟩)]) ∧ Sat w0 (.blk x.1 3 [.int .i64 g] 1 :: .blk x.2 22 [.slice a l.length c] 1 :: M) w' := by
  refine enterR [(0, .slice a l.length c), (1, .int .i64 g)] hw Tryz.func70 Tryz.ntmps70 ?_
  all_goals (refine go ?_; and_intros <;> (try exact trivial) <;> repeat (first | refine fun (Bk : Nat) => ?_ | intro h))
  refine ret1 Tryz.func70 Tryz.results70 ?_
  exact fun w' hw' => ⟨(_, _), rfl, hw'⟩
/-- Numbers at places. -/
def encI (e : Nat × Rat) : List Value := [.int .i64 (e.1 : Nat), qA (rQ e.2)]
def allI (Gs : List Rat) : List (Nat × Rat) := (List.range Gs.length).map fun p => (p, fsq Gs p)
theorem allI_len (Gs : List Rat) : (allI Gs).length = Gs.length := by rw [allI, List.length_map, List.length_range]
theorem allI_get {Gs : List Rat} {i : Nat} (h : i < Gs.length) : (allI Gs)[i]? = some (i, Gs[i]) := by
  rw [allI, List.getElem?_map, List.getElem?_range h, Option.map_some, fsq_lt h]
theorem all_iter (w0 : World) (Bs : Nat) (a : Option Addr) (Gs : List Rat) (c : Nat) (hA : SlAt w0 a 3 (Gs.map qF)) (hl : Gs.length ≤ 1000000) :
    IterG Tryz.prog w0 [.blk Bs 23 [.slice a Gs.length c] 1] 164 #[.pointer (some ⟨Bs, 0, none⟩)] encI (allI Gs) := by
  intro X Rs Inv Out fY cY hY x0 hI0 M1 w hw
  have hge := fun {i} (h : i < Gs.length) => allI_get h
  rw [allI_len]
  refine enterR [(0, .func fY #[] cY), (1, .pointer (some ⟨Bs, 0, none⟩))] hw Tryz.func164 Tryz.ntmps164 ?_
  all_goals (refine go ?_; and_intros <;> (try exact trivial) <;> repeat (first | refine fun (Bk : Nat) => ?_ | intro h))
  refine J.loop (c := _) ((0, x0) : Nat × X) (fun s => Gs.length - s.1) (fun s => [(0, .func fY #[] cY), (5, .slice a Gs.length c), (6, .int .i64 Gs.length), (7, .int .i64 s.1)]) (fun s => .blk Bs 23 [.slice a Gs.length c] 1 :: (Rs s.2 ++ M1)) (fun s => s.1 ≤ Gs.length ∧ Inv s.1 s.2) ?_ sbT sbL ?_
  · exact ⟨Nat.zero_le _, hI0⟩
  clear hI0 hw
  intro ⟨i, x⟩ ⟨h1, h2⟩ ih
  dsimp only at h1 h2 ⊢
  by_cases hi : i < Gs.length
  · have hy := hY i x _ h2 (hge hi)
    have ih := fun x' h => ih (i + 1, x') ⟨hi, h⟩ (by dsimp only; omega)
    obtain ⟨ba, oa, rfl, hra⟩ := SlAt.all hA (by omega)
    have hrj := hra i hi
    clear hra hge
    rw [qF] at hrj
    rw [encI] at hy
    generalize rQ Gs[i] = Q at *
    obtain ⟨s, n, d⟩ := Q
    dsimp only [qV, qA] at *
    all_goals (refine go ?_; and_intros <;> (try exact trivial) <;> repeat (first | refine fun (Bk : Nat) => ?_ | intro h))
    repeat' ((first | (refine G.callG (Rs := Rs) (x := x) (M1 := M1) (Inv (i + 1)) Out hy rfl rfl rfl rfl (by (repeat (first | exact Splt.nil | apply Splt.cons))) ?_ ?_; all_goals intro x' hx')) <;> (refine go ?_; and_intros <;> (try exact trivial) <;> repeat (first | refine fun (Bk : Nat) => ?_ | intro h)))
    · exact J.fin (ih x' hx')
    · refine ret0 Tryz.func164 Tryz.results164 ?_
      exact fun w' hw' => ⟨rfl, x', hw'.forget sbL, .inr hx'⟩
  · obtain rfl : i = Gs.length := by omega
    clear ih hge
    all_goals (refine go ?_; and_intros <;> (try exact trivial) <;> repeat (first | refine fun (Bk : Nat) => ?_ | intro h))
    refine end0 Tryz.func164 Tryz.results164 ?_
    exact fun w' hw' => ⟨rfl, x, hw', .inl h2⟩
theorem all_holds (w0 : World) (M : List Row) (w : World) (a : Option Addr) (n c : Nat) (hw : Sat w0 M w) :
    Calls Tryz.prog 119 #[.slice a n c] w fun e w' => ∃ x : Nat, e = .returned (.func (.func 164) #[] #[.pointer (some ⟨x, 0, none⟩)]) ∧ Sat w0 (.blk x 23 [.slice a n c] 1 :: M) w' := by
  refine enterR [(0, .slice a n c)] hw Tryz.func119 Tryz.ntmps119 ?_
  all_goals (refine go ?_; and_intros <;> (try exact trivial) <;> repeat (first | refine fun (Bk : Nat) => ?_ | intro h))
  refine ret1 Tryz.func119 Tryz.results119 ?_
  exact fun w' hw' => ⟨_, rfl, hw'⟩
end Go.Proofs.YtcdgibkbbcekhaaGreatDoor
/-
  Contracts of rights: sums over ways.
-/
namespace Go.Proofs.YtcdgibkbbcekhaaGreatDoor
open Go.RowKit Go.Sl Go.Num
/-- The values of a function at the first n places. -/
def gl (n : Nat) (f : Nat → Rat) : List Rat := (List.range n).map f
theorem gl_len (n : Nat) (f : Nat → Rat) : (gl n f).length = n := by rw [gl, List.length_map, List.length_range]
theorem gl_get {n : Nat} {f : Nat → Rat} {g : Nat} (h : g < (gl n f).length) : (gl n f)[g] = f g := by
  simp only [gl, List.getElem_map, List.getElem_range]
theorem gl_set {n g : Nat} {f f' : Nat → Rat} {v : Rat} (hv : f' g = v) (hf : ∀ t, t ≠ g → f' t = f t) : (gl n f).set g v = gl n f' := by
  apply List.ext_getElem
  · rw [List.length_set, gl_len, gl_len]
  · intro t h1 h2
    rw [List.getElem_set]
    by_cases h : g = t
    · subst h; rw [if_pos rfl, gl_get, hv]
    · rw [if_neg h, gl_get, gl_get, hf t (fun e => h e.symm)]
theorem gl_congr {n : Nat} {f f' : Nat → Rat} (h : ∀ g, g < n → f g = f' g) : gl n f = gl n f' := List.map_congr_left fun g hg => h g (List.mem_range.1 hg)
theorem zeroG (N : Nat) : flat (fun x : List Value => x) (List.replicate N (qV zero3)) = flat qF (gl N fun _ => 0) := by
  rw [show gl N (fun _ => (0 : Rat)) = List.replicate N 0 from List.ext_getElem (by rw [gl_len, List.length_replicate]) fun t h1 h2 => by rw [gl_get, List.getElem_replicate]]
  induction N with
  | zero => rfl
  | succ n ih => rw [List.replicate_succ, List.replicate_succ, flat_cons, flat_cons, ih]; rfl
/-- What numbers at places add at a gauge. -/
def sIt (on : Nat → Nat → Bool) (I : List (Nat × Rat)) (g : Nat) : Rat := qs I fun e => if on e.1 g = true then e.2 else 0
theorem sI_succ {on : Nat → Nat → Bool} {I : List (Nat × Rat)} {i : Nat} {e : Nat × Rat} (h : I[i]? = some e) (g : Nat) : sIt on (I.take (i + 1)) g = sIt on (I.take i) g + if on e.1 g = true then e.2 else 0 := by
  rw [sIt, List.take_add_one, h, Option.toList, qs_app, qs_cons, qs_nil, Rat.add_zero, sIt]
theorem qF_set1 {O : List Rat} {i : Nat} (h : i < O.length) {v : Rat} {Q : Q3} (hQ : rQ v = Q) : setL (flat qF O) (0 + i * 3) (qV Q) = flat qF (O.set i v) := by
  rw [Nat.zero_add, ← hQ]; exact flat_set qF_len h v
def sK (R : List Rch) (S : Nat → Rat) (p : Nat) (a : Rat) (j g : Nat) : Rat := S g + if onK R p j g = true then a else 0
theorem sK_zero (R : List Rch) (S : Nat → Rat) (p : Nat) (a : Rat) : sK R S p a 0 = S := funext fun g => by rw [sK, onK_zero, if_neg (by decide), Rat.add_zero]
theorem sK_new {R : List Rch} (hR : Riv R) {S : Nat → Rat} {p j g : Nat} {a : Rat} (h : itr R j (p : Int) = (g : Int)) : sK R S p a j g = S g ∧ sK R S p a (j + 1) g = S g + a ∧ ∀ t, t ≠ g → sK R S p a (j + 1) t = sK R S p a j t := by
  refine ⟨?_, ?_, fun t ht => ?_⟩
  · rw [sK, onK_new hR h, if_neg (by decide), Rat.add_zero]
  · rw [sK, onK_succ, decide_eq_true h, Bool.or_true, if_pos rfl]
  · rw [sK, onK_succ, decide_eq_false (by omega), Bool.or_false, sK]
theorem sK_end {R : List Rch} (hR : Riv R) {S S' : Nat → Rat} {p : Nat} (hp : p < R.length) {a : Rat} (h : ∀ g, S' g = S g + if onR R p g = true then a else 0) : sK R S p a (dpt R (p : Int)) = S' := funext fun g => by
  rw [sK, onK_end hR (hR.dep (g := (p : Int)) (by omega)).1, h]
set_option maxHeartbeats 4000000 in
theorem summed_holds (w0 : World) (M K : List Row) (w : World) (f : FuncId) [hF : Fun Tryz.prog f] (cap : Array Value) (ra : Option Addr) (R : List Rch) (rc : Nat) (I : List (Nat × Rat)) (hA : SlAt w0 ra 2 (R.map rcV)) (hR : Riv R)
    (hIt : IterG Tryz.prog w0 K f cap encI I) (hp : ∀ e ∈ I, e.1 < R.length) (hb : ∀ i, i ≤ I.length → ∀ g, big (sIt (onR R) (I.take i) g)) (hb2 : ∀ e ∈ I, big e.2) (hw : Sat w0 (K ++ M) w) :
    Calls Tryz.prog 64 #[.slice ra R.length rc, .func (.func f) #[] cap] w fun e w' => ∃ B : Nat, e = .returned (.slice (some ⟨B, 0, none⟩) R.length R.length) ∧ Sat w0 (.blk B 29 (flat qF (gl R.length (sIt (onR R) I))) (R.length * 3) :: (K ++ M)) w' := by
  have hl := hR.len
  refine enterR [(0, .slice ra R.length rc), (1, .func (.func f) #[] cap)] hw Tryz.func64 Tryz.ntmps64 ?_
  all_goals (refine go ?_; and_intros <;> (try exact trivial) <;> repeat (first | refine fun (Bk : Nat) => ?_ | intro h))
  repeat' ((first | (apply G.make (n := R.length) (qV zero3); rfl; rfl; rfl; rfl; rfl; rfl; rfl; rfl; omega; omega; intro B)) <;> (refine go ?_; and_intros <;> (try exact trivial) <;> repeat (first | refine fun (Bk : Nat) => ?_ | intro h)))
  rw [zeroG, show gl R.length (fun _ => (0 : Rat)) = gl R.length (sIt (onR R) (I.take 0)) from rfl]
  rename_i Bl
  refine J.rangeG (e1 := fun e : Nat × Rat => .int .i64 (e.1 : Nat)) (e2 := fun e => qA (rQ e.2)) (es := I) (K := K) (fun i : Nat => [.blk B 29 (flat qF (gl R.length (sIt (onR R) (I.take i)))) (R.length * 3), .blk Bk 23 [.slice (some ⟨B, 0, none⟩) R.length R.length] 1, .blk Bl 22 [.slice ra R.length rc] 1]) (fun i s => s = i ∧ i ≤ I.length) (fun _ _ => False) 0 M hIt rfl rfl rfl rfl (perm_cat [[_], [_], [_], K, M] [0, 1, 2, 3, 4] [3, 1, 0, 2, 4] rfl) ⟨rfl, Nat.zero_le _⟩ ?_ ?_ ?_
  · intro i x ⟨p, a⟩ ⟨rfl, i2⟩ he L0 rr M' hrs hrp
    have hpn : p < R.length := hp _ (List.mem_of_getElem? he)
    have hba : big a := hb2 _ (List.mem_of_getElem? he)
    have hbx := hb x i2
    have hlt := (List.getElem?_eq_some_iff.1 he).1
    have hsu := fun g => sI_succ (on := onR R) he g
    dsimp only at hsu ⊢
    clear hb hb2 hp hIt he
    obtain ⟨S', hS'⟩ : ∃ S', sIt (onR R) (I.take (x + 1)) = S' := ⟨_, rfl⟩
    rw [hS'] at hsu
    generalize sIt (onR R) (I.take x) = S at *
    obtain ⟨Q, hQ⟩ : ∃ Q, rQ a = Q := ⟨_, rfl⟩
    rw [hQ]
    obtain ⟨sg, nu, de⟩ := Q
    dsimp only [qA]
    all_goals (refine goR ?_; and_intros <;> (try exact trivial) <;> repeat (first | refine fun (Bk : Nat) => ?_ | intro h))
    repeat' ((first | (refine J.beginR rfl (i := 1) rfl hrs ?_) | (apply G.cR (g := 70) (v := fun x : Nat × Nat => .func (.func 132) #[] #[.pointer (some ⟨x.1, 0, none⟩), .pointer (some ⟨x.2, 0, none⟩)]) (Mn := fun x => [.blk x.1 3 [.int .i64 p] 1, .blk x.2 22 [.slice ra R.length rc] 1]); rfl; rfl; exact fun w' hw' => rdown_holds _ _ w' ra R rc p hw'; rintro ⟨Bg, Bl2⟩) | (apply J.regQ; exact Tryz.mixed; decide +kernel) | (apply J.regL'; exact Tryz.mixed; decide +kernel)) <;> (refine goR ?_; and_intros <;> (try exact trivial) <;> repeat (first | refine fun (Bk : Nat) => ?_ | intro h)))
    rename_i Bo
    have hd := (hR.dep (g := (p : Int)) (by omega))
    rw [← sK_zero R S p a]
    refine J.rangeI1 (l0 := L0) (r0 := busy rr) (e1 := fun e : Int => .int .i64 e) (es := wayI R p) (K := [.blk Bg 3 [.int .i64 p] 1, .blk Bl2 22 [.slice ra R.length rc] 1]) (fun j : Nat => [.blk B 29 (flat qF (gl R.length (sK R S p a j))) (R.length * 3), .blk Bo 23 [.slice (some ⟨B, 0, none⟩) R.length R.length] 1, .blk Bk 29 [.bool sg, .string (bs nu), .string (bs de)] 3]) (fun j s => s = j ∧ j ≤ dpt R (p : Int)) (fun _ _ => False) 0 (Row.obj L0 (.loop (busy rr)) :: .blk Bl 22 [.slice ra R.length rc] 1 :: M') (rdown_iter w0 Bg Bl2 ra R rc p hA hR hpn) rfl (by exact mm) rfl rfl (by (repeat (first | exact List.Perm.refl _ | (refine pickT (by (repeat (first | exact Pick.head | apply Pick.tail))) ?_)))) ⟨rfl, Nat.zero_le _⟩ ?_ ?_ ?_
    · intro j y e ⟨rfl, j2⟩ he L1 r1 M2 hrs1 hrp1
      obtain ⟨hj, rfl⟩ := wayI_at he
      dsimp only at hj ⊢
      have h0 := hd.2.2 y hj
      have hlt2 := (hR.in_ y (g := (p : Int)) (by omega) (by omega)).2
      have hnx := fun g (h : itr R y (p : Int) = ((g : Nat) : Int)) => sK_new hR (S := S) (a := a) h
      clear he hd
      generalize itr R y (p : Int) = e at *
      obtain ⟨g, rfl⟩ : ∃ g : Nat, e = g := ⟨e.toNat, by omega⟩
      have hg : g < R.length := by omega
      obtain ⟨n1, n2⟩ := hnx g rfl
      have hv := fun w' => vAdd (hbx g) hba w'
      rw [hQ] at hv
      have hog : (gl R.length (sK R S p a y))[g]? = some (S g) := by rw [List.getElem?_eq_getElem (by rw [gl_len]; exact hg), gl_get, n1]
      have hset := fun Q (h : rQ (S g + a) = Q) => qF_set1 (O := gl R.length (sK R S p a y)) (i := g) (by rw [gl_len]; exact hg) h
      rw [gl_set n2.1 n2.2] at hset
      have hld := fun {C : Ctx} {M} [TAgg C.P 29 3] (hm : Row.blk B 29 (flat qF (gl R.length (sK R S p a y))) (R.length * 3) ∈ M) => LdV.flat (C := C) (M := M) (T := 29) (n := 3) qF_len hm hog rfl
      have hln : 0 + g * 3 + 3 ≤ (flat qF (gl R.length (sK R S p a y))).length := by rw [flat_len qF_len, gl_len]; omega
      clear hnx n1 n2 hog hbx hsu
      generalize gl R.length (sK R S p a y) = O at *
      obtain ⟨O2, hO2⟩ : ∃ O2, gl R.length (sK R S p a (y + 1)) = O2 := ⟨_, rfl⟩
      rw [hO2] at hset
      rw [qF] at hld
      generalize rQ (S g) = Q1 at *
      obtain ⟨Q2, hQ2⟩ : ∃ Q2, rQ (S g + a) = Q2 := ⟨_, rfl⟩
      have hset := hset Q2 hQ2
      rw [hQ2] at hv
      clear hQ2
      obtain ⟨s1, d1, u1⟩ := Q1
      obtain ⟨s2, d2, u2⟩ := Q2
      dsimp only [qA, qV] at *
      all_goals (refine goR ?_; and_intros <;> (try exact trivial) <;> repeat (first | refine fun (Bk : Nat) => ?_ | intro h))
      repeat' ((first | (refine J.beginR rfl (i := 0) rfl hrs1 ?_) | (apply G.ld; rfl; exact hld (by exact mm); rfl) | (apply G.cV (g := 15); rfl; rfl; exact fun w' _ => hv w') | (apply G.sA; rfl; rfl; rfl; (repeat (first | exact RAt.head | apply RAt.tail)); rfl; rfl; exact hln; exact hset) | (apply J.regQ; exact Tryz.mixed; decide +kernel) | (apply J.regL'; exact Tryz.mixed; decide +kernel)) <;> (refine goR ?_; and_intros <;> (try exact trivial) <;> repeat (first | refine fun (Bk : Nat) => ?_ | intro h)))
      subst hO2
      exact J.sel (leaveG hrs1 hrp1 (y + 1) ⟨rfl, hj⟩ rfl)
    · intro y ⟨h1, _⟩
      dsimp only at h1 ⊢
      rw [wayI_len] at h1
      subst h1
      rw [show sK R S p a (dpt R (p : Int)) = S' from sK_end hR hpn hsu]
      subst S'
      all_goals (refine go ?_; and_intros <;> (try exact trivial) <;> repeat (first | refine fun (Bk : Nat) => ?_ | intro h))
      exact J.sel (leaveG hrs hrp (x + 1) ⟨rfl, hlt⟩ rfl)
    · intro _ _ h
      exact h.elim
  · intro Bd x ⟨h1, _⟩
    dsimp only at h1 ⊢
    rw [h1, List.take_length]
    refine J.perm (M' := [_] ++ ([_, _, _] ++ (K ++ M))) (perm_cat [[_], K, [_, _, _], M] [0, 1, 2, 3] [0, 2, 1, 3] rfl) ?_
    all_goals (refine go ?_; and_intros <;> (try exact trivial) <;> repeat (first | refine fun (Bk : Nat) => ?_ | intro h))
    refine J.sel (T := .obj Bd (.deferred (some [])) :: .blk B 29 (flat qF (gl R.length (sIt (onR R) I))) (R.length * 3) :: (K ++ M)) ?_
    refine leaveM (v := .slice (some ⟨B, 0, none⟩) R.length R.length) (ds := [Bd]) (M0 := .blk B 29 (flat qF (gl R.length (sIt (onR R) I))) (R.length * 3) :: (K ++ M)) Tryz.func64 rfl rfl rfl rfl (RunsTo.one Tryz.results64 (by (first | (apply ResV.tmp; rfl) | (apply ResV.cell; rfl; (first | (apply LdV.one; (first | exact CellV.row0 (by assumption) rfl | exact CellV.rowS (by assumption) rfl | exact CellV.rowSS (by assumption) rfl | (apply CellV.blk; exact mm; rfl))) | (apply LdV.aggBlk; exact mm; rfl) | (apply LdV.part; exact mm; rfl; rfl) | (apply LdV.aggRow; assumption; rfl) | (apply LdV.partRow; assumption; rfl; rfl)))))) (List.Perm.refl _) fun w' hw' => ?_
    exact ⟨B, rfl, hw'⟩
  · intro Bd _ _ h
    exact h.elim
end Go.Proofs.YtcdgibkbbcekhaaGreatDoor
/-
  Contracts of rights: what passes each gauge; numbers at the places of claims.
-/
namespace Go.Proofs.YtcdgibkbbcekhaaGreatDoor
open Go.RowKit Go.Sl Go.Num
theorem rQ_neg_iff (x : Rat) : (rQ x).neg = decide (x < 0) := by
  have h := sgn_rQ x
  rw [sgnR] at h
  by_cases h0 : x = 0
  · subst h0; rfl
  · rw [if_neg h0, if_neg (fun e => h0 (rQ_nil.1 e))] at h
    by_cases h1 : x < 0
    · rw [if_pos h1] at h
      rw [decide_eq_true h1]
      cases hn : (rQ x).neg with
      | true => rfl
      | false => rw [hn] at h; simp at h
    · rw [if_neg h1] at h
      rw [decide_eq_false h1]
      cases hn : (rQ x).neg with
      | false => rfl
      | true => rw [hn] at h; simp at h
theorem natB_rQ (x : Rat) : natB (rQ x) = decide (0 ≤ x) := by
  rw [natB, decide_eq_true (rQ_valid x), rQ_neg_iff, Bool.true_and]
  by_cases h : x < 0
  · rw [decide_eq_true h, decide_eq_false (by grind)]; rfl
  · rw [decide_eq_false h, decide_eq_true (by grind)]; rfl
theorem few_qs {α : Type} {f : α → Rat} {k : Nat} (hk : 1 ≤ k) : ∀ {L : List α}, (∀ x ∈ L, fewQ k (rQ (f x))) → fewQ ((k + 1) * L.length + 1) (rQ (qs L f))
  | [], _ => fewQ_zero
  | x :: L, h => by
    rw [qs_cons, List.length_cons, Nat.mul_succ]
    exact fewQ_le (fewQ_add (h x (by simp)) (few_qs hk fun y hy => h y (by simp [hy])) hk (by omega)) (by omega)
/-- A supply without an error. -/
structure SupOk (R : List Rch) (Gs : List Rat) : Prop where
  riv : rivErr R = 0
  len : Gs.length = R.length
  nn : ∀ x ∈ Gs, 0 ≤ x
  few : ∀ x ∈ Gs, fewQ 100 (rQ x)
theorem SupOk.err {R : List Rch} {Gs : List Rat} (h : SupOk R Gs) : supE R (Gs.map rQ) = 0 := by
  rw [supE, if_neg (not_not_intro h.riv), if_neg]
  rintro (h1 | h1)
  · exact h1 (by rw [List.length_map]; exact h.len)
  · obtain ⟨q, hq, h2⟩ := List.any_eq_true.1 h1
    obtain ⟨x, hx, rfl⟩ := List.mem_map.1 hq
    rw [natB_rQ, decide_eq_true (h.nn x hx)] at h2; cases h2
theorem SupOk.fsq {R : List Rch} {Gs : List Rat} (h : SupOk R Gs) (p : Nat) : fewQ 100 (rQ (fsq Gs p)) ∧ 0 ≤ Go.Proofs.YtcdgibkbbcekhaaGreatDoor.fsq Gs p := by
  rcases Nat.lt_or_ge p Gs.length with h1 | h1
  · rw [fsq_lt h1]; exact ⟨h.few _ (List.getElem_mem h1), h.nn _ (List.getElem_mem h1)⟩
  · rw [fsq_ge h1]; exact ⟨fewQ_zero, Rat.le_refl⟩
theorem mapQF (Gs : List Rat) : (Gs.map rQ).map qV = Gs.map qF := by rw [List.map_map]; rfl
theorem SupOk.part {R : List Rch} {Gs : List Rat} (h : SupOk R Gs) (i g : Nat) (hi : i ≤ (allI Gs).length) : big (sIt (onR R) ((allI Gs).take i) g) := by
  have hl := (riv_of h.riv).len
  have h2 := h.len
  rw [allI_len] at hi
  refine fewQ.big (k := 101 * ((allI Gs).take i).length + 1) ?_ ?_
  · refine few_qs (by decide) fun x hx => ?_
    split
    · obtain ⟨p, _, rfl⟩ := List.mem_map.1 (List.mem_of_mem_take hx)
      exact (h.fsq p).1
    · exact fewQ_zero
  · rw [List.length_take]; omega
theorem sI_all (R : List Rch) (Gs : List Rat) (hl : Gs.length = R.length) (g : Nat) : sIt (onR R) (allI Gs) g = sup (onR R) R.length (fsq Gs) g := by rw [sIt, allI, qs_map, sup, hl]
theorem SupOk.sup {R : List Rch} {Gs : List Rat} (h : SupOk R Gs) (g : Nat) : fewQ 5000 (rQ (sup (onR R) R.length (Go.Proofs.YtcdgibkbbcekhaaGreatDoor.fsq Gs) g)) := by
  have hl := (riv_of h.riv).len
  refine fewQ_le (k := 5000) (j := 101 * (List.range R.length).length + 1) ?_ (by rw [List.length_range]; omega)
  refine few_qs (by decide) fun x hx => ?_
  split
  · exact (h.fsq x).1
  · exact fewQ_zero
theorem vPassing_holds (w0 : World) (M : List Row) (w : World) (ra : Option Addr) (R : List Rch) (rc : Nat) (ga : Option Addr) (Gs : List Rat) (gc : Nat) (hS : SupAt w0 ra R ga (Gs.map qF)) (h : SupOk R Gs) (hw : Sat w0 M w) :
    Calls Tryz.prog 53 #[.agg #[.slice ra R.length rc, .slice ga Gs.length gc]] w fun e w' => ∃ B : Nat, e = .returned (.tuple #[.slice (some ⟨B, 0, none⟩) R.length R.length, .int .i64 0]) ∧ Sat w0 (.blk B 29 (flat qF (gl R.length (sup (onR R) R.length (fsq Gs)))) (R.length * 3) :: M) w' := by
  have hR := riv_of h.riv
  have hl := hR.len
  have hgl := h.len
  have hck := fun w' (hb : Below w0.heap.size w0 w') => vCheck_holds ra R rc ga (Gs.map rQ) gc none [] 0 w' (by rw [mapQF]; exact hS.below hb) SlAt.nil (fun q hq => by obtain ⟨x, hx, rfl⟩ := List.mem_map.1 hq; exact fewQ_le (h.few x hx) (by decide)) (fun c hc => by cases hc) ⟨by rw [List.length_map]; omega, Nat.zero_le _⟩
  have he : rgtE R (Gs.map rQ) [] = 0 := by rw [rgtE, if_neg (not_not_intro h.err), if_neg (by simp), clmsE]
  rw [he, List.length_map, List.length_nil] at hck
  have hsm := fun (x : Nat) M' w' => summed_holds w0 M' [.blk x 23 [.slice ga Gs.length gc] 1] w' 164 #[.pointer (some ⟨x, 0, none⟩)] ra R rc (allI Gs) hS.riv hR (all_iter w0 x ga Gs gc hS.gns (by omega)) (fun e he => by
    obtain ⟨p, hp, rfl⟩ := List.mem_map.1 he
    have := List.mem_range.1 hp
    dsimp only; omega) (fun i hi g => h.part i g hi) (fun e he => by
    obtain ⟨p, hp, rfl⟩ := List.mem_map.1 he
    exact fewQ.big (h.fsq p).1 (by decide))
  rw [show gl R.length (sIt (onR R) (allI Gs)) = gl R.length (sup (onR R) R.length (fsq Gs)) from gl_congr fun g _ => sI_all R Gs hgl g] at hsm
  refine enterR [(0, .agg #[.slice ra R.length rc, .slice ga Gs.length gc])] hw Tryz.func53 Tryz.ntmps53 ?_
  all_goals (refine goR ?_; and_intros <;> (try exact trivial) <;> repeat (first | refine fun (Bk : Nat) => ?_ | intro h))
  repeat' ((first | (apply J.regA (.q 0 <| .q 1 <| .q 2 <| .q 3 <| .e 4 <| .r 5 <| .q 6 <| .q 7 <| .nil); exact Tryz.mixed; decide +kernel) | (apply G.cV (g := 48); rfl; rfl; exact fun w' hw' => hck w' hw'.below) | (apply G.cR (g := 119) (v := fun x : Nat => .func (.func 164) #[] #[.pointer (some ⟨x, 0, none⟩)]) (Mn := fun x => [.blk x 23 [.slice ga Gs.length gc] 1]); rfl; rfl; exact fun w' hw' => all_holds _ _ w' ga Gs.length gc hw'; intro Bx) | (apply G.cR (g := 64) (v := fun B : Nat => .slice (some ⟨B, 0, none⟩) R.length R.length) (Mn := fun B => [.blk B 29 (flat qF (gl R.length (sup (onR R) R.length (fsq Gs)))) (R.length * 3)]); rfl; rfl; exact fun w' hw' => hsm _ _ w' hw'; intro B) | (apply J.regQ; exact Tryz.mixed; decide +kernel) | (apply J.regL'; exact Tryz.mixed; decide +kernel)) <;> (refine goR ?_; and_intros <;> (try exact trivial) <;> repeat (first | refine fun (Bk : Nat) => ?_ | intro h)))
  refine J.sel (T := .blk B 29 (flat qF (gl R.length (sup (onR R) R.length (fsq Gs)))) (R.length * 3) :: M) ?_
  refine ret2 Tryz.func53 Tryz.results53 ?_
  exact fun w' hw' => ⟨B, rfl, hw'⟩
theorem satO {w0 w : World} {M : List Row} {i E base : Nat} {a : Option Addr} {n c : Nat} {L : List Rat} (hw : Sat w0 M w) (hm : M[i]? = some (.own base (.slice a n c) E 3 n (flat qF L))) (hn : L.length = n) (F : Value → Value) : RetQ F w0 L (.returned (F (.slice a n c))) w := by
  have hmem := List.mem_of_getElem? hm
  exact ⟨a, c, by rw [hn], SlAt.ofOwn qF_len (hw.hold _ hmem) hn, fun p hp => ((hw.old _ hmem).2 p.block (by subst hp; rfl)).1, hw.below⟩
/-- Of those of the first k for which something holds. -/
def atI (L : List Cm) (o : Nat → Bool) (nm : Nat → Rat) (k : Nat) : List (Nat × Rat) := ((List.range k).filter o).map fun i => ((L.map (·.pl)).getD i 0, nm i)
theorem atI_succ (L : List Cm) (o : Nat → Bool) (nm : Nat → Rat) {k : Nat} (hk : k < L.length) : atI L o nm (k + 1) = atI L o nm k ++ if o k = true then [(L[k].pl, nm k)] else [] := by
  rw [atI, List.range_succ, List.filter_append, List.map_append]
  congr 1
  rw [List.filter_cons]
  split
  · simp [List.getD_eq_getElem?_getD, hk]
  · rfl
theorem atI_pre (L : List Cm) (o : Nat → Bool) (nm : Nat → Rat) (k : Nat) : ∀ d, ∃ t, atI L o nm (k + d) = atI L o nm k ++ t
  | 0 => ⟨[], by rw [List.append_nil]; rfl⟩
  | d + 1 => by
    obtain ⟨t, ht⟩ := atI_pre L o nm k d
    rw [← Nat.add_assoc]
    refine ⟨t ++ (([k + d].filter o).map fun i => ((L.map (·.pl)).getD i 0, nm i)), ?_⟩
    rw [← List.append_assoc, ← ht, atI, List.range_succ, List.filter_append, List.map_append, ← atI]
theorem atI_get {L : List Cm} {o : Nat → Bool} {nm : Nat → Rat} {k : Nat} (hk : k < L.length) (ho : o k = true) : (atI L o nm L.length)[(atI L o nm k).length]? = some (L[k].pl, nm k) := by
  obtain ⟨t, ht⟩ := atI_pre L o nm (k + 1) (L.length - (k + 1))
  rw [show k + 1 + (L.length - (k + 1)) = L.length by omega, atI_succ L o nm hk, if_pos ho] at ht
  rw [ht, List.append_assoc, List.getElem?_append_right (Nat.le_refl _), Nat.sub_self]; rfl
def cmV (c : Cm) : List Value := .int .i64 (c.pl : Nat) :: .int .i64 (c.rk : Nat) :: qF c.am
theorem cmV_len (c : Cm) : (cmV c).length = 5 := rfl
theorem at_iter (w0 : World) (K : List Row) (Bl Bi Bn : Nat) (a : Option Addr) (L : List Cm) (c : Nat) (o : Nat → Bool) (nm : Nat → Rat) (gi gn : FuncId) [hi : Fun Tryz.prog gi] [hn : Fun Tryz.prog gn] (ci cn : Array Value) (hA : SlAt w0 a 5 (L.map cmV)) (hl : L.length ≤ 1000000)
    (hci : ∀ k, k < L.length → ∀ M w, Sat w0 (K ++ M) w → Calls Tryz.prog gi (#[.int .i64 k] ++ ci) w fun e w' => e = .returned (.bool (o k)) ∧ Below w.heap.size w w')
    (hcn : ∀ k, k < L.length → o k = true → ∀ M w, Sat w0 (K ++ M) w → Calls Tryz.prog gn (#[.int .i64 k] ++ cn) w fun e w' => e = .returned (qA (rQ (nm k))) ∧ Below w.heap.size w w') :
    IterG Tryz.prog w0 (.blk Bl 26 [.slice a L.length c] 1 :: .blk Bi 119 [.func (.func gi) #[] ci] 1 :: .blk Bn 111 [.func (.func gn) #[] cn] 1 :: K) 130 #[.pointer (some ⟨Bl, 0, none⟩), .pointer (some ⟨Bi, 0, none⟩), .pointer (some ⟨Bn, 0, none⟩)] encI (atI L o nm L.length) := by
  intro X Rs Inv Out fY cY hY x0 hI0 M1 w hw
  refine enterR [(0, .func fY #[] cY), (1, .pointer (some ⟨Bl, 0, none⟩)), (2, .pointer (some ⟨Bi, 0, none⟩)), (3, .pointer (some ⟨Bn, 0, none⟩))] hw Tryz.func130 Tryz.ntmps130 ?_
  all_goals (refine go ?_; and_intros <;> (try exact trivial) <;> repeat (first | refine fun (Bk : Nat) => ?_ | intro h))
  refine J.loop (c := _) ((0, x0) : Nat × X) (fun s => L.length - s.1) (fun s => [(0, .func fY #[] cY), (2, .pointer (some ⟨Bi, 0, none⟩)), (3, .pointer (some ⟨Bn, 0, none⟩)), (7, .slice a L.length c), (8, .int .i64 L.length), (9, .int .i64 s.1)]) (fun s => .blk Bl 26 [.slice a L.length c] 1 :: .blk Bi 119 [.func (.func gi) #[] ci] 1 :: .blk Bn 111 [.func (.func gn) #[] cn] 1 :: (K ++ (Rs s.2 ++ M1))) (fun s => s.1 ≤ L.length ∧ Inv (atI L o nm s.1).length s.2) ?_ sbT sbL ?_
  · exact ⟨Nat.zero_le _, hI0⟩
  clear hI0 hw
  intro ⟨i, x⟩ ⟨h1, h2⟩ ih
  dsimp only at h1 h2 ⊢
  by_cases hi' : i < L.length
  · have hai := atI_succ L o nm hi'
    have hci := hci i hi'
    have hcn := hcn i hi'
    have hpK : ∀ (T : List Row) (r : List Row) w', Sat w0 (r ++ (K ++ T)) w' → Sat w0 (K ++ T) w' := fun T r w' h => h.forget (List.sublist_append_right _ _)
    obtain ⟨ba, oa, rfl, hra⟩ := SlAt.all hA (by omega)
    have hrj := hra i hi'
    rw [cmV, qF] at hrj
    generalize hQ0 : rQ L[i].am = Q0 at *
    obtain ⟨s0, u0, v0⟩ := Q0
    dsimp only [qV] at hrj
    clear hra hQ0
    cases ho : o i
    · rw [ho, if_neg (by decide), List.append_nil] at hai
      rw [ho] at hci
      have ih := ih (i + 1, x) ⟨hi', by dsimp only; rw [hai]; exact h2⟩ (by dsimp only; omega)
      clear hY hcn hai
      all_goals (refine goR ?_; and_intros <;> (try exact trivial) <;> repeat (first | refine fun (Bk : Nat) => ?_ | intro h))
      repeat' ((first | (apply J.regY 10 (.q 0 <| .q 1 <| .q 2 <| .q 3 <| .q 4 <| .q 5 <| .q 6 <| .q 7 <| .q 8 <| .q 9 <| .nil); exact Tryz.mixed; decide +kernel) | (refine J.inReg rfl ?_) | (apply G.callVf (g := gi); rfl; rfl; rfl; rfl; rfl; exact fun w' hw' => hci _ w' (hpK _ [_, _, _, _] w' hw')) | (apply J.regQ; exact Tryz.mixed; decide +kernel) | (apply J.regL'; exact Tryz.mixed; decide +kernel)) <;> (refine goR ?_; and_intros <;> (try exact trivial) <;> repeat (first | refine fun (Bk : Nat) => ?_ | intro h)))
      exact J.fin ih
    · rw [ho, if_pos rfl] at hai
      rw [ho] at hci
      have hcn := hcn ho
      have hy := hY _ x _ h2 (atI_get hi' ho)
      have ih := fun x' h => ih (i + 1, x') ⟨hi', by dsimp only; rw [hai, List.length_append]; exact h⟩ (by dsimp only; omega)
      clear hY hai
      rw [encI] at hy
      generalize rQ (nm i) = Q at *
      obtain ⟨sg, nu, de⟩ := Q
      dsimp only [qA] at *
      all_goals (refine goR ?_; and_intros <;> (try exact trivial) <;> repeat (first | refine fun (Bk : Nat) => ?_ | intro h))
      repeat' ((first | (apply J.regY 10 (.q 0 <| .q 1 <| .q 2 <| .q 3 <| .q 4 <| .q 5 <| .q 6 <| .q 7 <| .q 8 <| .q 9 <| .nil); exact Tryz.mixed; decide +kernel) | (refine J.inReg rfl ?_) | (apply G.callVf (g := gi); rfl; rfl; rfl; rfl; rfl; exact fun w' hw' => hci _ w' (hpK _ [_, _, _, _] w' hw')) | (apply G.callVf (g := gn); rfl; rfl; rfl; rfl; rfl; exact fun w' hw' => hcn _ w' (hpK _ [_, _, _, _] w' hw')) | (refine G.callG (Rs := Rs) (x := x) (M1 := M1) (Inv ((atI L o nm i).length + 1)) Out hy rfl rfl rfl rfl (.cons (.cons (.cons (.cons (.pre _ _))))) ?_ ?_; all_goals intro x' hx') | (apply J.regQ; exact Tryz.mixed; decide +kernel) | (apply J.regL'; exact Tryz.mixed; decide +kernel)) <;> (refine goR ?_; and_intros <;> (try exact trivial) <;> repeat (first | refine fun (Bk : Nat) => ?_ | intro h)))
      · exact J.fin (ih x' hx')
      · refine ret0 Tryz.func130 Tryz.results130 ?_
        exact fun w' hw' => ⟨rfl, x', hw'.forget (List.sublist_cons_self _ _), .inr hx'⟩
  · obtain rfl : i = L.length := by omega
    clear ih
    all_goals (refine go ?_; and_intros <;> (try exact trivial) <;> repeat (first | refine fun (Bk : Nat) => ?_ | intro h))
    refine end0 Tryz.func130 Tryz.results130 ?_
    exact fun w' hw' => ⟨rfl, x, hw', .inl h2⟩
theorem clmAt_holds (w0 : World) (M : List Row) (w : World) (a : Option Addr) (n c : Nat) (gi gn : FuncId) (ci cn : Array Value) (hw : Sat w0 M w) :
    Calls Tryz.prog 65 #[.slice a n c, .func (.func gi) #[] ci, .func (.func gn) #[] cn] w fun e w' => ∃ x : Nat × Nat × Nat, e = .returned (.func (.func 130) #[] #[.pointer (some ⟨x.1, 0, none⟩), .pointer (some ⟨x.2.1, 0, none⟩), .pointer (some ⟨x.2.2, 0, none⟩)]) ∧ Sat w0 ([.blk x.1 26 [.slice a n c] 1, .blk x.2.1 119 [.func (.func gi) #[] ci] 1, .blk x.2.2 111 [.func (.func gn) #[] cn] 1] ++ M) w' := by
  refine enterR [(0, .slice a n c), (1, .func (.func gi) #[] ci), (2, .func (.func gn) #[] cn)] hw Tryz.func65 Tryz.ntmps65 ?_
  all_goals (refine go ?_; and_intros <;> (try exact trivial) <;> repeat (first | refine fun (Bk : Nat) => ?_ | intro h))
  rename_i B1 B2
  refine J.sel (T := [.blk B1 26 [.slice a n c] 1, .blk B2 119 [.func (.func gi) #[] ci] 1, .blk Bk 111 [.func (.func gn) #[] cn] 1] ++ M) ?_
  refine ret1 Tryz.func65 Tryz.results65 ?_
  exact fun w' hw' => ⟨(B1, B2, Bk), rfl, hw'⟩
end Go.Proofs.YtcdgibkbbcekhaaGreatDoor
/-
  Contracts of the rational numbers: Div and Min of both.
-/
namespace Go.Proofs.YtcdgibkbbcekhaaGreatDoor
open Go.RowKit Go.Sl Go.Num
theorem rQ_inv {y : Rat} (h : y ≠ 0) : rQ y⁻¹ = ⟨(rQ y).neg, (rQ y).den, (rQ y).num⟩ := by
  have hn : y.num ≠ 0 := fun e => h (Rat.num_eq_zero.1 e)
  have hd := y.den_pos
  have hi : y⁻¹.num ≠ 0 := fun e => by
    have := Rat.num_eq_zero.1 e
    exact h (by have h2 := Rat.inv_inv y; rw [this, Rat.inv_zero] at h2; exact h2.symm)
  rw [rQ, rQ, if_neg hi, if_neg hn, Rat.num_inv, Rat.den_inv, if_neg hn]
  dsimp only
  rcases Int.lt_or_gt_of_ne hn with h1 | h1
  · rw [Int.sign_eq_neg_one_of_neg h1, decide_eq_true h1, decide_eq_true (by omega)]
    simp
  · rw [Int.sign_eq_one_of_pos h1, decide_eq_false (by omega), decide_eq_false (by omega)]
    simp
theorem fewQ_inv {y : Rat} {k : Nat} (h : fewQ k (rQ y)) : fewQ k (rQ y⁻¹) := by
  by_cases h0 : y = 0
  · subst h0; rw [Rat.inv_zero]; exact h
  · rw [rQ_inv h0]; exact ⟨h.2, h.1⟩
theorem fewQ_quo {x y : Rat} {i j : Nat} (hx : fewQ i (rQ x)) (hy : fewQ j (rQ y)) (hi : 1 ≤ i) (hj : 1 ≤ j) : fewQ (i + j) (rQ (x / y)) := by
  rw [Rat.div_def]; exact fewQ_mul hx (fewQ_inv hy) hi hj
theorem frac_inv {y : Rat} (h : y ≠ 0) : frac (rQ y⁻¹) = ((frac (rQ y)).1, (frac (rQ y)).2.2, (frac (rQ y)).2.1) := by
  have h1 := rQ_valid y
  have h2 := rQ_valid y⁻¹
  have hn : (rQ y).num ≠ [] := fun e => h (rQ_nil.1 e)
  have hn2 : (rQ y⁻¹).num ≠ [] := fun e => h (by have := rQ_nil.1 e; have h3 := Rat.inv_inv y; rw [this, Rat.inv_zero] at h3; exact h3.symm)
  rw [frac, if_pos ⟨h2, hn2⟩, frac, if_pos ⟨h1, hn⟩, rQ_inv h]
theorem vDiv {x y : Rat} (hx : big x) (hy : big y) (h0 : y ≠ 0) (w : World) : Calls Tryz.prog 68 #[qA (rQ x), qA (rQ y)] w fun e w' => e = .returned (.tuple #[qA (rQ (x / y)), .int .i64 0]) ∧ Below w.heap.size w w' := by
  have ax := hx.a
  have ay := hy.a
  have hfa := frac_le ax.1 ax.2 (by decide)
  have hfb := frac_le ay.1 ay.2 (by decide)
  have hfa' : fLe (frac (rQ x)) 134217728 := ⟨Nat.le_trans hfa.1 (by decide), Nat.le_trans hfa.2 (by decide)⟩
  have hfb' : fLe (frac (rQ y)) 134217728 := ⟨Nat.le_trans hfb.1 (by decide), Nat.le_trans hfb.2 (by decide)⟩
  obtain ⟨e1, d1⟩ := frac_eq (rQ x)
  obtain ⟨e2, d2⟩ := frac_eq (rQ y⁻¹)
  rw [frac_inv h0] at e2 d2
  dsimp only at e2 d2
  rw [qR_rQ] at e1 e2
  have hle := ftimes_le hfa (g := ((frac (rQ y)).1, (frac (rQ y)).2.2, (frac (rQ y)).2.1)) (l := 134217000) ⟨hfb.2, hfb.1⟩
  have hof := fun w' => ratOf_holds (rQ x) w' (by omega) (by omega)
  have hog := fun w' => ratOf_holds (rQ y) w' (by omega) (by omega)
  have hdo := fun w' => do_holds 131 (frA (frac (rQ x))) (rQ y) _ w' (by omega) (by omega) (fun w2 => over_f (frac (rQ x)) (frac (rQ y)) w2 hfa' hfb') ⟨Nat.le_trans hle.1 (by decide), Nat.le_trans hle.2 (by decide)⟩ (Nat.mul_ne_zero d1 d2)
  have e3 : ofF (ftimes (frac (rQ x)) ((frac (rQ y)).1, (frac (rQ y)).2.2, (frac (rQ y)).2.1)).1 (ftimes (frac (rQ x)) ((frac (rQ y)).1, (frac (rQ y)).2.2, (frac (rQ y)).2.1)).2.1 (ftimes (frac (rQ x)) ((frac (rQ y)).1, (frac (rQ y)).2.2, (frac (rQ y)).2.1)).2.2 = x / y := by
    have := ofF_times (frac (rQ x)).1 (frac (rQ y)).1 (frac (rQ x)).2.1 (frac (rQ x)).2.2 (frac (rQ y)).2.2 (frac (rQ y)).2.1
    rw [e1, e2, ← Rat.div_def] at this
    exact this.symm
  rw [e3] at hdo
  have hnz : nB (frac (rQ y)).2.1 ≠ [] := fun e => d2 (nB_nil.1 e)
  clear e1 e2 e3 hle hfa hfb hfa' hfb' d1 d2
  generalize rQ (x / y) = q3 at *
  generalize frac (rQ x) = f1 at *
  generalize frac (rQ y) = f2 at *
  generalize rQ x = q1 at *
  generalize rQ y = q2 at *
  obtain ⟨t1, m1, g1⟩ := f1
  obtain ⟨t2, m2, g2⟩ := f2
  obtain ⟨s1, u1, v1⟩ := q1
  obtain ⟨s2, u2, v2⟩ := q2
  obtain ⟨s3, u3, v3⟩ := q3
  dsimp only [qA, frA] at *
  generalize nB m2 = nm at *
  refine enterA [(0, .agg #[.bool s1, .string (bs u1), .string (bs v1)]), (1, .agg #[.bool s2, .string (bs u2), .string (bs v2)])] Tryz.func68 Tryz.ntmps68 ?_
  all_goals (refine goR ?_; and_intros <;> (try exact trivial) <;> repeat (first | refine fun (Bk : Nat) => ?_ | intro h))
  repeat' ((first | (apply J.regA (.q 0 <| .q 1 <| .q 2 <| .q 3 <| .q 4 <| .r 5 <| .q 6 <| .nil); exact Tryz.mixed; decide +kernel) | (apply G.eqlStr; rfl; rfl; rfl; rfl; rfl; all_goals intro h; all_goals try (first | exact absurd h (by assumption) | exact absurd (by assumption) h)) | (apply G.cV (g := 72) (vs := [.agg #[.bool s1, .string (bs u1), .string (bs v1)]]); rfl; rfl; exact fun w' _ => hof w') | (apply G.cV (g := 72) (vs := [.agg #[.bool s2, .string (bs u2), .string (bs v2)]]); rfl; rfl; exact fun w' _ => hog w') | (apply G.cV (g := 71); rfl; rfl; exact fun w' _ => hdo w') | (apply J.regQ; exact Tryz.mixed; decide +kernel) | (apply J.regL'; exact Tryz.mixed; decide +kernel)) <;> (refine goR ?_; and_intros <;> (try exact trivial) <;> repeat (first | refine fun (Bk : Nat) => ?_ | intro h)))
  all_goals refine ret2b Tryz.func68 Tryz.results68 ?_
  all_goals rfl
theorem qmin_sgn (x y : Rat) : qmin x y = if sgnR (x - y) ≤ 0 then x else y := by
  unfold qmin
  by_cases h : y < x
  · rw [if_pos h, if_neg (fun e => by have := sgn_le.1 e; grind)]
  · rw [if_neg h, if_pos (sgn_le.2 (by grind))]
theorem lowR (x : Rat) (hx : big x) (w : World) : Calls Tryz.prog 125 #[frA (frac (rQ x))] w fun e w' => e = .returned (qA (rQ x)) ∧ Below w.heap.size w w' := by
  have ax := hx.a
  have hfa := frac_le ax.1 ax.2 (by decide)
  obtain ⟨e1, d1⟩ := frac_eq (rQ x)
  have h := lowest_holds (frac (rQ x)) w ⟨Nat.le_trans hfa.1 (by decide), Nat.le_trans hfa.2 (by decide)⟩ d1
  rwa [e1, qR_rQ] at h
theorem vMin {x y : Rat} (hx : big x) (hy : big y) (w : World) : Calls Tryz.prog 69 #[qA (rQ x), qA (rQ y)] w fun e w' => e = .returned (qA (rQ (qmin x y))) ∧ Below w.heap.size w w' := by
  have ax := hx.a
  have ay := hy.a
  have hof := fun w' => ratOf_holds (rQ x) w' (by omega) (by omega)
  have hog := fun w' => ratOf_holds (rQ y) w' (by omega) (by omega)
  have hlx := lowR x hx
  have hly := lowR y hy
  have hc := vCmp hx hy
  rw [qmin_sgn]
  generalize sgnR (x - y) = sg at *
  by_cases h : sg ≤ 0
  · rw [if_pos h]
    generalize frac (rQ x) = f1 at *
    generalize rQ x = q1 at *
    generalize rQ y = q2 at *
    obtain ⟨t1, m1, g1⟩ := f1
    obtain ⟨s1, u1, v1⟩ := q1
    obtain ⟨s2, u2, v2⟩ := q2
    dsimp only [qA, frA] at *
    refine enterA [(0, .agg #[.bool s1, .string (bs u1), .string (bs v1)]), (1, .agg #[.bool s2, .string (bs u2), .string (bs v2)])] Tryz.func69 Tryz.ntmps69 ?_
    all_goals (refine go ?_; and_intros <;> (try exact trivial) <;> repeat (first | refine fun (Bk : Nat) => ?_ | intro h))
    repeat' ((first | (apply G.cV (g := 16); rfl; rfl; exact fun w' _ => hc w') | (apply G.cV (g := 72); rfl; rfl; exact fun w' _ => hof w') | (apply G.cV (g := 125); rfl; rfl; exact fun w' _ => hlx w')) <;> (refine go ?_; and_intros <;> (try exact trivial) <;> repeat (first | refine fun (Bk : Nat) => ?_ | intro h)))
    all_goals refine ret1b Tryz.func69 Tryz.results69 ?_
    all_goals rfl
  · rw [if_neg h]
    generalize frac (rQ y) = f1 at *
    generalize rQ x = q1 at *
    generalize rQ y = q2 at *
    obtain ⟨t1, m1, g1⟩ := f1
    obtain ⟨s1, u1, v1⟩ := q1
    obtain ⟨s2, u2, v2⟩ := q2
    dsimp only [qA, frA] at *
    refine enterA [(0, .agg #[.bool s1, .string (bs u1), .string (bs v1)]), (1, .agg #[.bool s2, .string (bs u2), .string (bs v2)])] Tryz.func69 Tryz.ntmps69 ?_
    all_goals (refine go ?_; and_intros <;> (try exact trivial) <;> repeat (first | refine fun (Bk : Nat) => ?_ | intro h))
    repeat' ((first | (apply G.cV (g := 16); rfl; rfl; exact fun w' _ => hc w') | (apply G.cV (g := 72); rfl; rfl; exact fun w' _ => hog w') | (apply G.cV (g := 125); rfl; rfl; exact fun w' _ => hly w')) <;> (refine go ?_; and_intros <;> (try exact trivial) <;> repeat (first | refine fun (Bk : Nat) => ?_ | intro h)))
    all_goals refine ret1b Tryz.func69 Tryz.results69 ?_
    all_goals rfl
end Go.Proofs.YtcdgibkbbcekhaaGreatDoor
/-
  Contracts of rights: the specification's rest, dry, grown and reached.
-/
namespace Go.Proofs.YtcdgibkbbcekhaaGreatDoor
open Go.RowKit Go.Sl Go.Num
theorem qs_take {α : Type} (f : α → Rat) {L : List α} {k : Nat} (h : k < L.length) : qs (L.take (k + 1)) f = qs (L.take k) f + f L[k] := by
  rw [List.take_add_one, List.getElem?_eq_getElem h, Option.toList, qs_app, qs_cons, qs_nil, Rat.add_zero]
/-- Claims as the contracts take them. -/
structure ClOk (n : Nat) (L : List Cm) : Prop where
  len : L.length ≤ 205
  pl : ∀ c ∈ L, c.pl < n
  rk : ∀ c ∈ L, c.rk ≤ 100
  nn : ∀ c ∈ L, 0 ≤ c.am
  few : ∀ c ∈ L, fewQ 100 (rQ c.am)
/-- Takes as the contracts take them. -/
def tkOk (L : List Cm) (T : List Rat) : Prop := T.length = L.length ∧ ∀ t ∈ T, fewQ 30000 (rQ t)
theorem tkOk.zip {L : List Cm} {T : List Rat} (h : tkOk L T) {z : Cm × Rat} (hz : z ∈ L.zip T) : fewQ 30000 (rQ z.2) := h.2 _ (List.of_mem_zip hz).2
theorem tkOk.usd {L : List Cm} {T : List Rat} (h : tkOk L T) (hl : L.length ≤ 205) (on : Nat → Nat → Bool) (g k : Nat) : fewQ 6300000 (rQ (used on ((L.zip T).take k) g)) := by
  refine fewQ_le (j := 30001 * ((L.zip T).take k).length + 1) ?_ (by rw [List.length_take, List.length_zip]; omega)
  refine few_qs (by decide) fun z hz => ?_
  split
  · exact h.zip (List.mem_of_mem_take hz)
  · exact fewQ_zero
end Go.Proofs.YtcdgibkbbcekhaaGreatDoor
/-
  Contracts of rights: the specification's dry, grown and reached.
-/
namespace Go.Proofs.YtcdgibkbbcekhaaGreatDoor
open Go.RowKit Go.Sl Go.Num
/-- What is left at a gauge after takes. -/
def rsT (R : List Rch) (Gs : List Rat) (L : List Cm) (T : List Rat) (g : Nat) : Rat := sup (onR R) R.length (fsq Gs) g - used (onR R) (L.zip T) g
theorem rsT_big {R : List Rch} {Gs : List Rat} {L : List Cm} {T : List Rat} (h : SupOk R Gs) (hC : ClOk R.length L) (hK : tkOk L T) (g : Nat) : fewQ 6400000 (rQ (rsT R Gs L T g)) := by
  have h1 := hK.usd hC.len (onR R) g L.length
  rw [List.take_of_length_le (by rw [List.length_zip]; omega)] at h1
  exact fewQ_le (fewQ_sub (h.sup g) h1 (by decide) (by decide)) (by decide)
theorem rQ_zero {x : Rat} : rQ x = zero3 ↔ x = 0 := by
  constructor
  · intro h
    exact rQ_nil.1 (by rw [h]; rfl)
  · rintro rfl; rfl
def oV (b : Bool) : List Value := [.bool b]
theorem oV_len (b : Bool) : (oV b).length = 1 := rfl
/-- Claims, what they have, and whether they are open. -/
def zz (L : List Cm) (T : List Rat) (O : List Bool) : Zs := L.zip (T.zip O)
def grT (L : List Cm) (T : List Rat) (O : List Bool) (p : Rat) : List Rat := (zz L T O).map fun z => if z.2.2 = true then z.1.am * p else z.2.1
theorem zz_len {L : List Cm} {T : List Rat} {O : List Bool} (h1 : T.length = L.length) (h2 : O.length = L.length) : (zz L T O).length = L.length := by rw [zz, List.length_zip, List.length_zip]; omega
theorem zz_get {L : List Cm} {T : List Rat} {O : List Bool} {k : Nat} (h0 : k < L.length) (h1 : k < T.length) (h2 : k < O.length) (h : k < (zz L T O).length) : (zz L T O)[k] = (L[k], T[k], O[k]) := by
  simp only [zz, List.getElem_zip]
theorem grT_len {L : List Cm} {T : List Rat} {O : List Bool} (h1 : T.length = L.length) (h2 : O.length = L.length) (p : Rat) : (grT L T O p).length = L.length := by rw [grT, List.length_map, zz_len h1 h2]
theorem grT_get {L : List Cm} {T : List Rat} {O : List Bool} {p : Rat} {k : Nat} (h0 : k < L.length) (h1 : k < T.length) (h2 : k < O.length) (h : k < (grT L T O p).length) : (grT L T O p)[k] = if O[k] = true then L[k].am * p else T[k] := by
  simp only [grT, List.getElem_map, zz_get h0 h1 h2]
end Go.Proofs.YtcdgibkbbcekhaaGreatDoor
/-
  Contracts of rights: how far the specification lets claims grow.
-/
namespace Go.Proofs.YtcdgibkbbcekhaaGreatDoor
open Go.RowKit Go.Sl Go.Num
theorem tks_zz {L : List Cm} {T : List Rat} {O : List Bool} (h1 : T.length = L.length) (h2 : O.length = L.length) : tks (zz L T O) = L.zip T := by
  apply List.ext_getElem
  · rw [tks, List.length_map, zz_len h1 h2, List.length_zip]; omega
  · intro k g1 g2
    rw [List.length_zip] at g2
    simp only [tks, List.getElem_map, zz_get (show k < L.length by omega) (show k < T.length by omega) (show k < O.length by omega), List.getElem_zip]
theorem restZ_zz {R : List Rch} {Gs : List Rat} {L : List Cm} {T : List Rat} {O : List Bool} (h1 : T.length = L.length) (h2 : O.length = L.length) : restZ (onR R) R.length (fsq Gs) (zz L T O) = rsT R Gs L T := funext fun g => by
  rw [restZ, tks_zz h1 h2, rsT]
theorem capF_app (u e : Nat → Rat) (p : Rat) (g : Nat) : ∀ (L : List Nat) (b : Rat), capF u e p (L ++ [g]) b = if u g = 0 then capF u e p L b else qmin (capF u e p L b) (p + e g / u g)
  | [], b => by rw [List.nil_append, capF, capF, capF]
  | x :: L, b => by rw [List.cons_append, capF, capF, capF_app u e p g L]
def untS (on : Nat → Nat → Bool) (zs : Zs) (g k : Nat) : Rat := qs (zs.take k) fun z => if (on z.1.pl g && z.2.2) = true then z.1.am else 0
theorem untS_few {n : Nat} {L : List Cm} (hC : ClOk n L) (T : List Rat) (O : List Bool) (on : Nat → Nat → Bool) (g k : Nat) : fewQ 21000 (rQ (untS on (zz L T O) g k)) := by
  refine fewQ_le (j := 101 * ((zz L T O).take k).length + 1) ?_ (by have := hC.len; rw [zz, List.length_take, List.length_zip]; omega)
  refine few_qs (by decide) fun z hz => ?_
  split
  · exact hC.few _ (List.of_mem_zip (List.mem_of_mem_take hz)).1
  · exact fewQ_zero
theorem one_few : fewQ 8 (rQ 1) := fewQ_int (n := 1) (by decide) (by decide)
end Go.Proofs.YtcdgibkbbcekhaaGreatDoor
/-
  Plain laws of rights: the rounds of allotting, as lists; their numbers are short.
-/
namespace Go.Proofs.YtcdgibkbbcekhaaGreatDoor
open Go.RowKit Go.Sl Go.Num
theorem mid_zz {L : List Cm} {T : List Rat} {O : List Bool} (h1 : T.length = L.length) (h2 : O.length = L.length) (p : Rat) : midZ (zz L T O) p = zz L (grT L T O p) O := by
  apply List.ext_getElem
  · rw [midZ, List.length_map, zz_len h1 h2, zz_len (grT_len h1 h2 p) h2]
  · intro k g1 g2
    rw [zz_len (grT_len h1 h2 p) h2] at g2
    rw [zz_get g2 (by rw [grT_len h1 h2]; exact g2) (by omega), grT_get g2 (by omega) (by omega)]
    simp only [midZ, List.getElem_map, zz_get g2 (show k < T.length by omega) (show k < O.length by omega)]
def nxO (R : List Rch) (Gs : List Rat) (L : List Cm) (T : List Rat) (O : List Bool) (p : Rat) : List Bool := (L.zip O).map fun z => z.2 && (decide (p ≠ 1) && !dryZ (onR R) R.length (rsT R Gs L T) z.1.pl)
theorem nxO_len {R : List Rch} {Gs : List Rat} {L : List Cm} {T : List Rat} {O : List Bool} {p : Rat} (h : O.length = L.length) : (nxO R Gs L T O p).length = L.length := by rw [nxO, List.length_map, List.length_zip]; omega
theorem nxO_get {R : List Rch} {Gs : List Rat} {L : List Cm} {T : List Rat} {O : List Bool} {p : Rat} {k : Nat} (h0 : k < L.length) (h1 : k < O.length) (h : k < (nxO R Gs L T O p).length) : (nxO R Gs L T O p)[k] = (O[k] && (decide (p ≠ 1) && !dryZ (onR R) R.length (rsT R Gs L T) L[k].pl)) := by
  simp only [nxO, List.getElem_map, List.getElem_zip]
theorem step_zz {R : List Rch} {Gs : List Rat} {L : List Cm} {T : List Rat} {O : List Bool} (h1 : T.length = L.length) (h2 : O.length = L.length) (p : Rat) :
    stepZ (onR R) R.length (fsq Gs) (zz L T O) p = zz L (grT L T O p) (nxO R Gs L (grT L T O p) O p) := by
  have hg := grT_len h1 h2 p
  rw [stepZ, mid_zz h1 h2, restZ_zz hg h2]
  apply List.ext_getElem
  · rw [List.length_map, zz_len hg h2, zz_len hg (nxO_len h2)]
  · intro k g1 g2
    rw [zz_len hg (nxO_len h2)] at g2
    rw [List.getElem_map, zz_get g2 (by omega) (by omega), zz_get g2 (by omega) (by rw [nxO_len h2]; exact g2), nxO_get g2 (by omega)]
theorem start_zz {L : List Cm} {T : List Rat} (h1 : T.length = L.length) (r : Nat) : startZ r (L.zip T) = zz L T (L.map fun c => decide (c.rk = r) && decide (c.am ≠ 0)) := by
  apply List.ext_getElem
  · rw [startZ, List.length_map, List.length_zip, zz_len h1 (List.length_map _)]; omega
  · intro k g1 g2
    rw [zz_len h1 (List.length_map _)] at g2
    rw [zz_get g2 (by omega) (by rw [List.length_map]; exact g2)]
    simp only [startZ, List.getElem_map, List.getElem_zip]
/-! ### sizes -/
/-- Supplies and claims whose allotting is short. -/
structure Alo (R : List Rch) (Gs : List Rat) (L : List Cm) : Prop where
  n : R.length ≤ 12
  m : L.length ≤ 20
  g : ∀ x ∈ Gs, fewQ 41 (rQ x)
  a : ∀ c ∈ L, fewQ 41 (rQ c.am)
/-- Exponents of the common denominator, and of a round. -/
def eD : Nat := 1312
def eB : Nat := 1354
def eK : Nat := 30000
def dnA (Gs : List Rat) (L : List Cm) : Nat := denP Gs * denP (L.map (·.am))
theorem few_den {x : Rat} {k : Nat} (h : fewQ k (rQ x)) : x.den ≤ 256 ^ k ∧ x.num.natAbs ≤ 256 ^ k := by
  by_cases h0 : x = 0
  · subst h0
    exact ⟨Nat.pow_pos (by decide), by simp⟩
  · have hn : x.num ≠ 0 := fun e => h0 (Rat.num_eq_zero.1 e)
    rw [rQ, if_neg hn] at h
    obtain ⟨h1, h2⟩ := h
    dsimp only at h1 h2
    exact ⟨Nat.le_of_lt (nB_lt_pow h2), Nat.le_of_lt (nB_lt_pow h1)⟩
theorem denP_int : ∀ {F : List Rat} {x : Rat}, x ∈ F → Iq (x * ((denP F : Int) : Rat))
  | y :: F, x, h => by
    rw [denP, Int.natCast_mul, Rat.intCast_mul]
    rcases List.mem_cons.1 h with rfl | h
    · rw [← Rat.mul_assoc, num_den]
      exact (Iq.int _).mul (Iq.int _)
    · rw [show x * (((y.den : Int) : Rat) * ((denP F : Int) : Rat)) = x * ((denP F : Int) : Rat) * ((y.den : Int) : Rat) by grind]
      exact (denP_int h).mul (Iq.int _)
theorem dnA_pos (Gs : List Rat) (L : List Cm) : 0 < dnA Gs L := Nat.mul_pos (denP_pos _) (denP_pos _)
theorem dnA_a {Gs : List Rat} {L : List Cm} {c : Cm} (h : c ∈ L) : Iq (c.am * ((dnA Gs L : Int) : Rat)) := by
  rw [dnA, Int.natCast_mul, Rat.intCast_mul, show c.am * (((denP Gs : Int) : Rat) * ((denP (L.map (·.am)) : Int) : Rat)) = c.am * ((denP (L.map (·.am)) : Int) : Rat) * ((denP Gs : Int) : Rat) by grind]
  exact (denP_int (List.mem_map.2 ⟨c, h, rfl⟩)).mul (Iq.int _)
theorem dnA_g (Gs : List Rat) (L : List Cm) (p : Nat) : Iq (fsq Gs p * ((dnA Gs L : Int) : Rat)) := by
  rw [dnA, Int.natCast_mul, Rat.intCast_mul, ← Rat.mul_assoc]
  refine Iq.mul ?_ (Iq.int _)
  rcases Nat.lt_or_ge p Gs.length with h | h
  · rw [fsq_lt h]; exact denP_int (List.getElem_mem h)
  · rw [fsq_ge h, Rat.zero_mul]; exact Iq.zero
theorem dnA_le {R : List Rch} {Gs : List Rat} {L : List Cm} (h : Alo R Gs L) (hl : Gs.length = R.length) : dnA Gs L ≤ 256 ^ eD := by
  have h1 := denP_lt (k := 41) (F := Gs) fun x hx => (few_den (h.g x hx)).1
  have h2 := denP_lt (k := 41) (F := L.map (·.am)) fun x hx => by
    obtain ⟨c, hc, rfl⟩ := List.mem_map.1 hx
    exact (few_den (h.a c hc)).1
  rw [List.length_map] at h2
  have h3 := h.n
  have h4 := h.m
  have h5 : (256 : Nat) ^ (41 * Gs.length) * 256 ^ (41 * L.length) ≤ 256 ^ eD := by
    rw [← Nat.pow_add]; exact Nat.pow_le_pow_right (by decide) (by rw [eD]; omega)
  exact Nat.le_trans (Nat.mul_le_mul h1 h2) h5
theorem le_num {x : Rat} (h : 0 ≤ x) : x ≤ ((x.num.natAbs : Int) : Rat) := by
  have h1 := num_den x
  have h2 : (1 : Rat) ≤ ((x.den : Int) : Rat) := by
    have := x.den_pos
    exact Rat.intCast_le_intCast.2 (show (1 : Int) ≤ x.den by omega)
  have h3 := Rat.mul_le_mul_of_nonneg_left h2 h
  have h4 : ((x.num : Int) : Rat) ≤ ((x.num.natAbs : Int) : Rat) := Rat.intCast_le_intCast.2 (by omega)
  grind
theorem few_val {x : Rat} {k : Nat} (h : fewQ k (rQ x)) (h0 : 0 ≤ x) : x ≤ (((256 ^ k : Nat) : Int) : Rat) :=
  Rat.le_trans (le_num h0) (Rat.intCast_le_intCast.2 (by have := (few_den h).2; omega))
theorem qs_bound {α : Type} {f : α → Rat} {c : Rat} : ∀ {L : List α}, (∀ x ∈ L, f x ≤ c) → qs L f ≤ ((L.length : Int) : Rat) * c
  | [], _ => by rw [qs_nil]; show (0 : Rat) ≤ ((0 : Int) : Rat) * c; rw [Rat.intCast_zero, Rat.zero_mul]; exact Rat.le_refl
  | x :: L, h => by
    have h1 := h x (by simp)
    have h2 := qs_bound (L := L) fun y hy => h y (by simp [hy])
    rw [qs_cons, List.length_cons, show ((L.length + 1 : Nat) : Int) = (L.length : Int) + 1 from rfl, Rat.intCast_add]
    have : ((1 : Int) : Rat) = 1 := rfl
    rw [this]; grind
theorem pow_nn (k : Nat) : (0 : Rat) ≤ (((256 ^ k : Nat) : Int) : Rat) := Rat.intCast_nonneg.2 (Int.natCast_nonneg _)
theorem unit_le {R : List Rch} {Gs : List Rat} {L : List Cm} (h : Alo R Gs L) (hl : Gs.length = R.length) (hn : ∀ c ∈ L, 0 ≤ c.am) (T : List Rat) (O : List Bool) (on : Nat → Nat → Bool) (g : Nat) :
    unitZ on (zz L T O) g * ((dnA Gs L : Int) : Rat) ≤ (((256 ^ eB : Nat) : Int) : Rat) := by
  have h1 : unitZ on (zz L T O) g ≤ (((zz L T O).length : Int) : Rat) * (((256 ^ 41 : Nat) : Int) : Rat) := qs_bound fun z hz => by
    split
    · exact few_val (h.a _ (List.of_mem_zip hz).1) (hn _ (List.of_mem_zip hz).1)
    · exact pow_nn 41
  have h2 : (zz L T O).length ≤ 20 := by have := h.m; rw [zz, List.length_zip]; omega
  have h3 : (0 : Rat) ≤ ((dnA Gs L : Int) : Rat) := Rat.intCast_nonneg.2 (by omega)
  have h4 := Rat.mul_le_mul_of_nonneg_right h1 h3
  refine Rat.le_trans h4 ?_
  rw [← Rat.intCast_mul, ← Rat.intCast_mul]
  refine Rat.intCast_le_intCast.2 ?_
  rw [← Int.natCast_mul, ← Int.natCast_mul]
  refine Int.ofNat_le.2 ?_
  have h5 := dnA_le h hl
  have h6 : (zz L T O).length * 256 ^ 41 ≤ 256 ^ 42 := by rw [Nat.pow_succ 256 41, Nat.mul_comm]; exact Nat.mul_le_mul_left _ (by omega)
  have h7 : (256 : Nat) ^ 42 * 256 ^ eD = 256 ^ eB := by rw [← Nat.pow_add]; exact congrArg (fun e : Nat => (256 : Nat) ^ e) (show 42 + eD = eB by decide)
  rw [← h7]
  exact Nat.mul_le_mul h6 h5
/-- How many claims have a rank from r on. -/
def hiC (r : Nat) (L : List Cm) : Nat := (L.filter fun c => decide (r ≤ c.rk)).length
/-- A round's state. -/
structure Rnd (R : List Rch) (Gs : List Rat) (L : List Cm) (r : Nat) (T : List Rat) (O : List Bool) (p : Rat) : Prop where
  lt : T.length = L.length
  lo : O.length = L.length
  inv : Inv (onR R) R.length (fsq Gs) r (zz L T O) p
  sz : ∃ j, j + cntO (zz L T O) + hiC (r + 1) L ≤ 20 ∧ Sz (dnA Gs L) (256 ^ eB) j (zz L T O) p
theorem Rnd.step {R : List Rch} {Gs : List Rat} {L : List Cm} {r : Nat} {T : List Rat} {O : List Bool} {p q : Rat} (h : Rnd R Gs L r T O p) (hA : Alo R Gs L) (hl : Gs.length = R.length) (hn : ∀ c ∈ L, 0 ≤ c.am) (ho : ((zz L T O).any fun z => z.2.2) = true)
    (hq : capZ (onR R) R.length (fsq Gs) (zz L T O) p = q) : Rnd R Gs L r (grT L T O q) (nxO R Gs L (grT L T O q) O q) q := by
  subst hq
  obtain ⟨j, j1, j2⟩ := h.sz
  have hs := step_zz (R := R) (Gs := Gs) h.lt h.lo (capZ (onR R) R.length (fsq Gs) (zz L T O) p)
  refine ⟨grT_len h.lt h.lo _, nxO_len h.lo, hs ▸ h.inv.step, j + 1, ?_, ?_⟩
  · have := h.inv.less ho
    rw [hs] at this
    omega
  · rw [← hs]
    exact j2.step h.inv (Nat.pow_pos (by decide)) (fun z hz => dnA_a (List.of_mem_zip hz).1) (dnA_g Gs L) (unit_le hA hl hn T O _) (dnA_pos Gs L)
theorem Rnd.few {R : List Rch} {Gs : List Rat} {L : List Cm} {r : Nat} {T : List Rat} {O : List Bool} {p : Rat} (h : Rnd R Gs L r T O p) (hA : Alo R Gs L) (hl : Gs.length = R.length) (hn : ∀ c ∈ L, 0 ≤ c.am) : tkOk L T ∧ fewQ 30000 (rQ p) := by
  obtain ⟨j, j1, E, e0, e1, e2, e3⟩ := h.sz
  have hE : E ≤ 256 ^ (eB * 20) := by
    refine Nat.le_trans e1 ?_
    rw [← Nat.pow_mul]
    exact Nat.pow_le_pow_right (by decide) (Nat.mul_le_mul_left _ (by omega))
  have hlt : eB * 20 < eK := by rw [eB, eK]; decide
  have hEk : E < 256 ^ eK := Nat.lt_of_le_of_lt hE (Nat.pow_lt_pow_right (by decide) hlt)
  have hD := dnA_le hA hl
  have h3 : 256 ^ 41 * (dnA Gs L * E) < 256 ^ eK := by
    have : 256 ^ 41 * (dnA Gs L * E) ≤ 256 ^ 41 * (256 ^ eD * 256 ^ (eB * 20)) := Nat.mul_le_mul_left _ (Nat.mul_le_mul hD hE)
    rw [← Nat.pow_add, ← Nat.pow_add] at this
    exact Nat.lt_of_le_of_lt this (Nat.pow_lt_pow_right (by decide) (by rw [eD, eB, eK]; decide))
  have h4 : dnA Gs L * E < 256 ^ eK := Nat.lt_of_le_of_lt (Nat.le_mul_of_pos_left _ (Nat.pow_pos (by decide))) h3
  refine ⟨⟨h.lt, fun t ht => ?_⟩, ?_⟩
  · obtain ⟨k, hk, rfl⟩ := List.getElem_of_mem ht
    have hz : (L[k]'(by have := h.lt; omega), T[k], O[k]'(by have := h.lt; have := h.lo; omega)) ∈ zz L T O := by
      rw [← zz_get (by have := h.lt; omega) hk (by have := h.lt; have := h.lo; omega) (by rw [zz_len h.lt h.lo]; have := h.lt; omega)]
      exact List.getElem_mem _
    have h5 := e3 _ hz
    have h6 := h.inv.nn _ hz
    dsimp only at h5 h6
    have hc : L[k]'(by have := h.lt; omega) ∈ L := List.getElem_mem _
    have h7 := few_val (hA.a _ hc) (hn _ hc)
    have h8 : Fr (dnA Gs L * E) (256 ^ 41 * (dnA Gs L * E)) T[k] := fr_of (by rw [Int.natCast_mul, Rat.intCast_mul, ← Rat.mul_assoc]; exact h5) h6.1 (Rat.le_trans h6.2 h7)
    have h9 : fewQ eK (rQ T[k]) := h8.few (Nat.mul_pos (dnA_pos Gs L) e0) h4 h3
    exact h9
  · have h8 : Fr E (1 * E) p := fr_of e2 h.inv.p0 (by show p ≤ ((1 : Int) : Rat); exact h.inv.p1)
    have h9 : fewQ eK (rQ p) := h8.few e0 hEk (by rw [Nat.one_mul]; exact hEk)
    exact h9
/-- The state between two ranks. -/
structure Rk (R : List Rch) (Gs : List Rat) (L : List Cm) (r : Nat) (T : List Rat) : Prop where
  lt : T.length = L.length
  done : Done (onR R) R.length (fsq Gs) r (L.zip T)
  sz : ∃ j, j + hiC r L ≤ 20 ∧ ∃ E : Nat, 0 < E ∧ E ≤ (256 ^ eB) ^ j ∧ ∀ t ∈ T, Iq (t * ((dnA Gs L : Int) : Rat) * ((E : Int) : Rat))
def opO (L : List Cm) (r : Nat) : List Bool := L.map fun c => decide (c.rk = r) && decide (c.am ≠ 0)
theorem hiC_cons (k : Nat) (c : Cm) (L : List Cm) : hiC k (c :: L) = (if k ≤ c.rk then 1 else 0) + hiC k L := by
  rw [hiC, List.filter_cons]
  by_cases h : k ≤ c.rk
  · rw [if_pos (decide_eq_true h), if_pos h, List.length_cons, hiC]; omega
  · rw [if_neg (by simpa using h), if_neg h, hiC]; omega
theorem hiC_le (r : Nat) : ∀ L : List Cm, hiC (r + 1) L ≤ hiC r L
  | [] => Nat.le_refl _
  | c :: L => by
    have := hiC_le r L
    rw [hiC_cons, hiC_cons]
    split <;> split <;> omega
theorem cnt_start : ∀ (L : List Cm) (T : List Rat) (r : Nat), cntO (zz L T (opO L r)) + hiC (r + 1) L ≤ hiC r L
  | [], T, r => by simp [zz, cntO, hiC]
  | c :: L, [], r => by
    have := hiC_le r (c :: L)
    simp only [zz, List.zip_nil_left, List.zip_nil_right, cntO, Nat.zero_add]; exact this
  | c :: L, t :: T, r => by
    have ih := cnt_start L T r
    have h1 : zz (c :: L) (t :: T) (opO (c :: L) r) = (c, t, decide (c.rk = r) && decide (c.am ≠ 0)) :: zz L T (opO L r) := rfl
    rw [h1, cntO, hiC_cons, hiC_cons]
    dsimp only
    cases hb : (decide (c.rk = r) && decide (c.am ≠ 0)) with
    | false =>
      rw [if_neg (show ¬ (false = true) by decide)]
      split <;> split <;> omega
    | true =>
      rw [Bool.and_eq_true, decide_eq_true_eq] at hb
      have := hb.1
      rw [if_pos (show true = true from rfl)]
      split <;> split <;> omega
theorem Rk.start {R : List Rch} {Gs : List Rat} {L : List Cm} {r : Nat} {T : List Rat} (h : Rk R Gs L r T) : Rnd R Gs L r T (opO L r) 0 := by
  obtain ⟨j, j1, E, e0, e1, e2⟩ := h.sz
  have hi := h.done.start
  rw [start_zz h.lt] at hi
  refine ⟨h.lt, List.length_map _, hi, j, ?_, E, e0, e1, ?_, fun z hz => e2 _ (List.of_mem_zip (List.of_mem_zip hz).2).1⟩
  · have := cnt_start L T r; omega
  · rw [Rat.zero_mul]; exact Iq.zero
theorem Rnd.end {R : List Rch} {Gs : List Rat} {L : List Cm} {r : Nat} {T T0 : List Rat} {O : List Bool} {p : Rat} (h : Rnd R Gs L r T O p) (h0 : Rk R Gs L r T0) (hr : L.zip T = rankZ (onR R) R.length (fsq Gs) r (L.zip T0)) : Rk R Gs L (r + 1) T := by
  obtain ⟨j, j1, E, e0, e1, e2, e3⟩ := h.sz
  refine ⟨h.lt, ?_, j, by omega, E, e0, e1, fun t ht => ?_⟩
  · rw [hr]; exact h0.done.rank
  · obtain ⟨k, hk, rfl⟩ := List.getElem_of_mem ht
    have hz : (L[k]'(by have := h.lt; omega), T[k], O[k]'(by have := h.lt; have := h.lo; omega)) ∈ zz L T O := by
      rw [← zz_get (by have := h.lt; omega) hk (by have := h.lt; have := h.lo; omega) (by rw [zz_len h.lt h.lo]; have := h.lt; omega)]
      exact List.getElem_mem _
    exact e3 _ hz
end Go.Proofs.YtcdgibkbbcekhaaGreatDoor
/-
  Contracts of rights: a rank of the specification.
-/
namespace Go.Proofs.YtcdgibkbbcekhaaGreatDoor
open Go.RowKit Go.Sl Go.Num
/-- The takes after a rank. -/
def rkT (R : List Rch) (Gs : List Rat) (L : List Cm) (r : Nat) (T : List Rat) : List Rat := (rankZ (onR R) R.length (fsq Gs) r (L.zip T)).map (·.2)
theorem rkT_zip {R : List Rch} {Gs : List Rat} {L : List Cm} {T : List Rat} (h : T.length = L.length) (r : Nat) : L.zip (rkT R Gs L r T) = rankZ (onR R) R.length (fsq Gs) r (L.zip T) ∧ (rkT R Gs L r T).length = L.length := by
  have h1 := rankZ_fst (onR R) R.length (fsq Gs) r (L.zip T)
  rw [rkT]
  generalize rankZ (onR R) R.length (fsq Gs) r (L.zip T) = Z at *
  rw [List.map_fst_zip (by omega)] at h1
  refine ⟨?_, by rw [List.length_map, ← h1, List.length_map]⟩
  rw [← h1, List.zip_map']
  exact (List.map_congr_left (fun x _ => rfl)).trans (List.map_id Z)
theorem anyO {L : List Cm} {T : List Rat} {O : List Bool} (h1 : T.length = L.length) (h2 : O.length = L.length) : ((zz L T O).any fun z => z.2.2) = O.any id := by
  rw [Bool.eq_iff_iff, List.any_eq_true, List.any_eq_true]
  constructor
  · rintro ⟨z, hz, h⟩
    exact ⟨z.2.2, (List.of_mem_zip (List.of_mem_zip hz).2).2, h⟩
  · rintro ⟨b, hb, h⟩
    obtain ⟨k, hk, rfl⟩ := List.getElem_of_mem hb
    refine ⟨(L[k], T[k], O[k]), ?_, h⟩
    rw [← zz_get (by omega) (by omega) hk (by rw [zz_len h1 h2]; omega)]
    exact List.getElem_mem _
/-- The first k of one list, and what follows of another one. -/
def mixL {α : Type} (N O : List α) (k : Nat) : List α := N.take k ++ O.drop k
theorem mixL_len {α : Type} {N O : List α} {k : Nat} (h : N.length = O.length) : (mixL N O k).length = O.length := by
  rw [mixL, List.length_append, List.length_take, List.length_drop]; omega
theorem mixL_get {α : Type} {N O : List α} {k : Nat} (h : N.length = O.length) (hk : k < O.length) : (mixL N O k)[k]? = some O[k] := by
  rw [mixL, List.getElem?_append_right (by rw [List.length_take]; omega), List.length_take, List.getElem?_drop, show k + (k - min k N.length) = k by omega, List.getElem?_eq_getElem hk]
theorem mixL_set {α : Type} {N O : List α} {k : Nat} (h : N.length = O.length) (hk : k < O.length) (hk2 : k < N.length) : (mixL N O k).set k N[k] = mixL N O (k + 1) := by
  rw [mixL, mixL, List.set_append_right _ _ (by rw [List.length_take]; omega), List.length_take, show k - min k N.length = 0 by omega, List.drop_eq_getElem_cons hk, List.set_cons_zero, List.take_add_one, List.getElem?_eq_getElem hk2, List.append_assoc]
  rfl
theorem mixL_zero {α : Type} (N O : List α) : mixL N O 0 = O := by rw [mixL]; rfl
theorem mixL_end {α : Type} {N O : List α} (h : N.length = O.length) : mixL N O O.length = N := by rw [mixL, List.drop_length, List.append_nil, List.take_of_length_le (by omega)]
theorem oLen (O : List Bool) : (flat oV O).length = O.length := by rw [flat_len oV_len, Nat.mul_one]
theorem oGet {O : List Bool} {k : Nat} {b : Bool} (h : O[k]? = some b) : (flat oV O)[0 + k * 1]? = some (.bool b) := by
  rw [Nat.zero_add]
  have h1 := flat_at (f := oV) oV_len (i := k) (j := 0) (l := O) (List.getElem?_eq_some_iff.1 h).1 (by decide)
  rw [Nat.add_zero] at h1
  rw [h1, (List.getElem?_eq_some_iff.1 h).2]; rfl
theorem oSet {O : List Bool} {k : Nat} (h : k < O.length) (b : Bool) : setL (flat oV O) (0 + k * 1) [.bool b] = flat oV (O.set k b) := by rw [Nat.zero_add]; exact flat_set oV_len h b
end Go.Proofs.YtcdgibkbbcekhaaGreatDoor
/-
  Contracts: the keys of a map, collected and sorted.
-/
namespace Go.Proofs.YtcdgibkbbcekhaaGreatDoor
open Go.RowKit Go.Sl Go.Num
instance : TMap Tryz.prog 112 3 4 (.bool false) := ⟨by kernel_rfl, fun w => Tryz.zeroValue4 w⟩
/-- A call of yield in a loop that is never left. -/
theorem callPG {C : Ctx} {st : List (Nat × Value)} {M : List Row} {k : List Item} {all rest : List Oper} {d : Nat} {ty : TypeId} {pos : String} {after : Array Edge} {gd : Option (Nat × Bool)} {X : Type} {Rs : X → List Row} {x : X} {K M1 : List Row} {f : Operand} {args : List Operand} {vs : List Value} {fv : Value} {at_ : Array TypeId} (Ok : X → Prop)
    (hc : ∀ M' w, Sat C.w0 (Rs x ++ M') w → CallsV C.P fv vs w fun v w' => ∃ x', Sat C.w0 (Rs x' ++ M') w' ∧ v = .bool true ∧ Ok x')
    (hf : evS st f = some fv) (ha : evL st args = some vs) (hw : wnB all st gd = true) (hd : Nat.blt d C.N = true) (hM : Splt (Rs x ++ M1) M K)
    (h1 : ∀ x', Ok x' → G .seq C all ((d, .bool true) :: st) (K ++ (Rs x' ++ M1)) rest k) :
    G .seq C all st M ({ dst := some d, op := .call { callee := .value f, args := args.toArray, argTypes := at_ }, type := ty, pos, after, guard := gd } :: rest) k :=
  G.callG (Rs := Rs) (x := x) (M1 := M1) Ok (fun _ => False) (fun M' w hw' => (hc M' w hw').mono fun v w' ⟨x', h2, h3, h4⟩ => ⟨x', h2, .inl ⟨h3, h4⟩⟩) hf ha hw hd hM h1 fun _ h => h.elim
theorem map_eraseIdx' {α β : Type} (f : α → β) : ∀ (l : List α) (k : Nat), (l.map f).eraseIdx k = (l.eraseIdx k).map f
  | [], _ => rfl
  | _ :: _, 0 => rfl
  | x :: l, k + 1 => by rw [List.map_cons, List.eraseIdx_cons_succ, List.eraseIdx_cons_succ, List.map_cons, map_eraseIdx' f l k]
theorem cons_eraseIdx {α : Type} : ∀ {l : List α} {i : Nat} (h : i < l.length), (l[i] :: l.eraseIdx i).Perm l
  | x :: l, 0, _ => .refl _
  | x :: l, i + 1, h => by
    rw [List.eraseIdx_cons_succ, List.getElem_cons_succ]
    exact (List.Perm.swap _ _ _).trans (.cons x (cons_eraseIdx (by simpa using h)))
theorem keys_iter (w0 : World) (Bm b : Nat) (es : Array MapEntry) (clock : Nat) (L : List (Int × Value)) (hI : MapIs (Value.int .i64) es clock L) :
    IterP Tryz.prog w0 [.blk Bm 112 [.map (some b)] 1, .obj b (.map es clock)] 128 #[.pointer (some ⟨Bm, 0, none⟩)] (fun e : Int => [.int .i64 e]) (L.map (·.1)) := by
  intro X Rs Inv fY cY hY x0 hI0 M1 w hw
  refine enterR [(0, .func fY #[] cY), (1, .pointer (some ⟨Bm, 0, none⟩))] hw Tryz.func128 Tryz.ntmps128 ?_
  all_goals (refine go ?_; and_intros <;> (try exact trivial) <;> repeat (first | refine fun (Bk : Nat) => ?_ | intro h))
  repeat' ((first | (apply G.rg; rfl; exact mm; rfl; intro br)) <;> (refine go ?_; and_intros <;> (try exact trivial) <;> repeat (first | refine fun (Bk : Nat) => ?_ | intro h)))
  refine J.loop (c := _) ((L, #[], x0) : List (Int × Value) × Array Nat × X) (fun s => s.1.length) (fun s => [(0, .func fY #[] cY), (5, .pointer (some ⟨br, 0, none⟩))]) (fun s => .obj br (.mapIter (some b) clock s.2.1 clock) :: .blk Bm 112 [.map (some b)] 1 :: .obj b (.map es clock) :: (Rs s.2.2 ++ M1)) (fun s => Rem (Value.int .i64) es s.2.1 s.1 ∧ Inv (s.1.map (·.1)) s.2.2) ?_ sbT sbL ?_
  · exact ⟨Rem.start hI, hI0⟩
  clear hI0 hw
  intro ⟨R, seen, x⟩ ⟨hR, h2⟩ ih
  dsimp only at hR h2 ⊢
  by_cases hR0 : R = []
  · subst hR0
    clear ih
    all_goals (refine go ?_; and_intros <;> (try exact trivial) <;> repeat (first | refine fun (Bk : Nat) => ?_ | intro h))
    repeat' ((first | (apply G.nx0 hI hR; rfl; rfl; exact mm; exact mm)) <;> (refine go ?_; and_intros <;> (try exact trivial) <;> repeat (first | refine fun (Bk : Nat) => ?_ | intro h)))
    refine end0 Tryz.func128 Tryz.results128 ?_
    exact fun w' hw' => ⟨rfl, x, hw'.forget sbL, h2⟩
  · have hy : ∀ j (hj : j < R.length), ∀ M' w', Sat w0 (Rs x ++ M') w' → CallsV Tryz.prog (.func fY #[] cY) [.int .i64 R[j].1] w' fun v w2 => ∃ x', Sat w0 (Rs x' ++ M') w2 ∧ v = .bool true ∧ Inv ((R.eraseIdx j).map (·.1)) x' := fun j hj M' w' hw' => by
      have h3 := hY (R.map (·.1)) x j (by rw [List.length_map]; exact hj) h2 M' w' hw'
      rw [List.getElem_map, map_eraseIdx'] at h3
      exact h3
    have ih := fun j (hj : j < R.length) seen' x' h3 h4 => ih (R.eraseIdx j, seen', x') ⟨h3, h4⟩ (by dsimp only; rw [List.length_eraseIdx]; rw [if_pos hj]; omega)
    dsimp only at ih
    clear hY
    all_goals (refine go ?_; and_intros <;> (try exact trivial) <;> repeat (first | refine fun (Bk : Nat) => ?_ | intro h))
    repeat' ((first | (apply G.nx1 hI hR hR0; rfl; rfl; (repeat (first | exact RAt.head | apply RAt.tail)); exact mm; intro j hj seen' hR' ⟨e, he, hsn, hek, hev⟩) | (apply G.en hI he hsn hek hev; rfl; rfl; exact mm; exact mm) | (refine callPG (Rs := Rs) (x := x) (M1 := M1) (fun x' => Inv ((R.eraseIdx j).map (·.1)) x') (hy j hj) rfl rfl rfl rfl (by (repeat (first | exact Splt.nil | apply Splt.cons))) ?_; intro x' hx')) <;> (refine go ?_; and_intros <;> (try exact trivial) <;> repeat (first | refine fun (Bk : Nat) => ?_ | intro h)))
    exact J.fin (ih j hj seen' x' hR' hx')
theorem keys_holds (w0 : World) (M : List Row) (w : World) (v : Value) (b : Nat) (hw : Sat w0 M w) :
    Calls Tryz.prog 60 #[.map (some b)] w fun e w' => ∃ x : Nat, e = .returned (.func (.func 128) #[] #[.pointer (some ⟨x, 0, none⟩)]) ∧ Sat w0 (.blk x 112 [.map (some b)] 1 :: M) w' := by
  refine enterR [(0, .map (some b))] hw Tryz.func60 Tryz.ntmps60 ?_
  all_goals (refine go ?_; and_intros <;> (try exact trivial) <;> repeat (first | refine fun (Bk : Nat) => ?_ | intro h))
  refine ret1 Tryz.func60 Tryz.results60 ?_
  exact fun w' hw' => ⟨_, rfl, hw'⟩
theorem eraseIdx_perm {α : Type} {R S : List α} : ∀ {T : List α} {i : Nat} (hi : i < T.length), (S ++ T).Perm R → ((S ++ [T[i]]) ++ T.eraseIdx i).Perm R := fun {T} {i} hi h => by
  refine List.Perm.trans ?_ h
  rw [List.append_assoc]
  refine List.Perm.append_left _ ?_
  exact cons_eraseIdx hi
/-- A call that hands back a slice of its own which holds the keys in some order, and loses K. -/
theorem appendSeq_holds (w0 : World) (M K : List Row) (w : World) (f : FuncId) [hF : Fun Tryz.prog f] (cap : Array Value) (Ks : List Int) (hIt : IterP Tryz.prog w0 K f cap (fun e : Int => [.int .i64 e]) Ks) (hl : Ks.length ≤ 1000000) (hw : Sat w0 (K ++ M) w) :
    Calls Tryz.prog 165 #[.slice none 0 0, .func (.func f) #[] cap] w fun e w' => ∃ x : Option Addr × Nat × List Int, e = .returned (.slice x.1 x.2.2.length x.2.1) ∧ x.2.2.Perm Ks ∧ Sat w0 (.own 0 (.slice x.1 x.2.2.length x.2.1) 3 1 x.2.2.length (flat isV x.2.2) :: M) w' := by
  refine enterR [(0, .slice none 0 0), (1, .func (.func f) #[] cap)] hw Tryz.func165 Tryz.ntmps165 ?_
  all_goals (refine go ?_; and_intros <;> (try exact trivial) <;> repeat (first | refine fun (Bk : Nat) => ?_ | intro h))
  apply J.nilOwn (E := 3) (size := 1)
  refine J.rangeP1 (e1 := fun e : Int => .int .i64 e) (es := Ks) (K := K) (fun s : Option Addr × Nat × List Int => [.own 0 (.slice s.1 s.2.2.length s.2.1) 3 1 s.2.2.length (flat isV s.2.2), .blk Bk 44 [.slice s.1 s.2.2.length s.2.1] 1]) (fun R s => (s.2.2 ++ R).Perm Ks) (none, 0, []) M hIt rfl rfl rfl (perm_cat [[_], [_], K, M] [0, 1, 2, 3] [2, 0, 1, 3] rfl) (.refl _) ?_ ?_
  · intro R ⟨au, cu, S⟩ i hi hP L0 rr M' hrs hrp
    dsimp only at hP ⊢
    have hP2 := eraseIdx_perm hi hP
    have hlS : S.length + 1 ≤ 1000000 := by
      have := hP.length_eq
      rw [List.length_append] at this
      omega
    have hap : flat isV S ++ isV R[i] = flat isV (S ++ [R[i]]) := flat1 isV _ _
    have hsl : (S ++ [R[i]]).length = S.length + 1 := by rw [List.length_append]; rfl
    generalize R[i] = y at *
    dsimp only [isV] at hap ⊢
    all_goals (refine goR ?_; and_intros <;> (try exact trivial) <;> repeat (first | refine fun (Bk : Nat) => ?_ | intro h))
    repeat' ((first | (refine J.beginR rfl (i := 0) rfl hrs ?_) | (apply G.sliceL; rfl; rfl; rfl; rfl; rfl; rfl; rfl; rfl; intro Bs) | (apply G.apV; rfl; rfl; rfl; (repeat (first | exact RAt.head | apply RAt.tail)); exact SrcV.blk (by exact mm) rfl rfl; exact hap; omega; omega; intro a2 c2) | (apply J.regQ; exact Tryz.mixed; decide +kernel) | (apply J.regL'; exact Tryz.mixed; decide +kernel)) <;> (refine goR ?_; and_intros <;> (try exact trivial) <;> repeat (first | refine fun (Bk : Nat) => ?_ | intro h)))
    rw [← hsl]
    exact J.sel (leaveP hrs hrp (a2, c2, S ++ [y]) hP2 rfl)
  · intro Bd ⟨au, cu, S⟩ hP
    dsimp only at hP ⊢
    rw [List.append_nil] at hP
    all_goals (refine go ?_; and_intros <;> (try exact trivial) <;> repeat (first | refine fun (Bk : Nat) => ?_ | intro h))
    refine J.sel (T := .obj Bd (.deferred (some [])) :: .own 0 (.slice au S.length cu) 3 1 S.length (flat isV S) :: M) ?_
    refine leaveM (v := .slice au S.length cu) (ds := [Bd]) (M0 := .own 0 (.slice au S.length cu) 3 1 S.length (flat isV S) :: M) Tryz.func165 rfl rfl rfl rfl (RunsTo.one Tryz.results165 (by (first | (apply ResV.tmp; rfl) | (apply ResV.cell; rfl; (first | (apply LdV.one; (first | exact CellV.row0 (by assumption) rfl | exact CellV.rowS (by assumption) rfl | exact CellV.rowSS (by assumption) rfl | (apply CellV.blk; exact mm; rfl))) | (apply LdV.aggBlk; exact mm; rfl) | (apply LdV.part; exact mm; rfl; rfl) | (apply LdV.aggRow; assumption; rfl) | (apply LdV.partRow; assumption; rfl; rfl)))))) (List.Perm.refl _) fun w' hw' => ?_
    exact ⟨(au, cu, S), rfl, hP, hw'⟩
theorem collect_holds (w0 : World) (M K : List Row) (w : World) (f : FuncId) [hF : Fun Tryz.prog f] (cap : Array Value) (Ks : List Int) (hIt : IterP Tryz.prog w0 K f cap (fun e : Int => [.int .i64 e]) Ks) (hl : Ks.length ≤ 1000000) (hw : Sat w0 (K ++ M) w) :
    Calls Tryz.prog 126 #[.func (.func f) #[] cap] w fun e w' => ∃ x : Option Addr × Nat × List Int, e = .returned (.slice x.1 x.2.2.length x.2.1) ∧ x.2.2.Perm Ks ∧ Sat w0 (.own 0 (.slice x.1 x.2.2.length x.2.1) 3 1 x.2.2.length (flat isV x.2.2) :: M) w' := by
  refine enterR [(0, .func (.func f) #[] cap)] hw Tryz.func126 Tryz.ntmps126 ?_
  all_goals (refine go ?_; and_intros <;> (try exact trivial) <;> repeat (first | refine fun (Bk : Nat) => ?_ | intro h))
  repeat' ((first | (refine G.cP (g := 165) (X := { x : Option Addr × Nat × List Int // x.2.2.Perm Ks }) (fun x => .slice x.1.1 x.1.2.2.length x.1.2.1) K (fun x => [.own 0 (.slice x.1.1 x.1.2.2.length x.1.2.1) 3 1 x.1.2.2.length (flat isV x.1.2.2)]) rfl rfl (List.Perm.refl _) (fun w' hw' => (appendSeq_holds w0 M K w' f cap Ks hIt hl hw').mono fun e w2 ⟨x, h1, h2, h3⟩ => ⟨⟨x, h2⟩, h1, h3⟩) ?_; rintro ⟨⟨au, cu, S⟩, hS⟩)) <;> (refine go ?_; and_intros <;> (try exact trivial) <;> repeat (first | refine fun (Bk : Nat) => ?_ | intro h)))
  refine ret1 Tryz.func126 Tryz.results126 ?_
  exact fun w' hw' => ⟨(au, cu, S), rfl, hS, hw'⟩
/-- slices.Sort does so for slices of n elements. -/
def SortsTo (n : Nat) : Prop := ∀ (w0 : World) (M : List Row) (w : World) (au : Option Addr) (cu : Nat) (S : List Int), Sat w0 (.own 0 (.slice au n cu) 3 1 n (flat isV S) :: M) w → n = S.length →
  Calls Tryz.prog 127 #[.slice au n cu] w fun e w' => ∃ S', e = .returned (.tuple #[]) ∧ (S'.Perm S ∧ S'.Pairwise (· ≤ ·)) ∧ Sat w0 (.own 0 (.slice au n cu) 3 1 n (flat isV S') :: M) w'
theorem sortsTo12 {n : Nat} (h : n ≤ 12) : SortsTo n := fun w0 M w au cu S hw hn => sort12_holds w0 M w au n cu S hw hn h
theorem sorted_holds (w0 : World) (M K : List Row) (w : World) (f : FuncId) [hF : Fun Tryz.prog f] (cap : Array Value) (Ks : List Int) (hIt : IterP Tryz.prog w0 K f cap (fun e : Int => [.int .i64 e]) Ks) (hl : Ks.length ≤ 1000000) (hso : SortsTo Ks.length) (hw : Sat w0 (K ++ M) w) :
    Calls Tryz.prog 59 #[.func (.func f) #[] cap] w fun e w' => ∃ x : Option Addr × Nat × List Int, e = .returned (.slice x.1 x.2.2.length x.2.1) ∧ (x.2.2.Perm Ks ∧ x.2.2.Pairwise (· ≤ ·)) ∧ Sat w0 (.own 0 (.slice x.1 x.2.2.length x.2.1) 3 1 x.2.2.length (flat isV x.2.2) :: M) w' := by
  refine enterR [(0, .func (.func f) #[] cap)] hw Tryz.func59 Tryz.ntmps59 ?_
  all_goals (refine go ?_; and_intros <;> (try exact trivial) <;> repeat (first | refine fun (Bk : Nat) => ?_ | intro h))
  repeat' ((first | (refine G.cP (g := 126) (X := { x : Option Addr × Nat × List Int // x.2.2.Perm Ks }) (fun x => .slice x.1.1 x.1.2.2.length x.1.2.1) K (fun x => [.own 0 (.slice x.1.1 x.1.2.2.length x.1.2.1) 3 1 x.1.2.2.length (flat isV x.1.2.2)]) rfl rfl (List.Perm.refl _) (fun w' hw' => (collect_holds w0 M K w' f cap Ks hIt hl hw').mono fun e w2 ⟨x, h1, h2, h3⟩ => ⟨⟨x, h2⟩, h1, h3⟩) ?_; rintro ⟨⟨au, cu, S⟩, hS⟩; have hSl := hS.length_eq; dsimp only at hS hSl ⊢) | (refine G.cP (g := 127) (X := { S' : List Int // S'.Perm S ∧ S'.Pairwise (· ≤ ·) }) (fun _ => .tuple #[]) [.own 0 (.slice au S.length cu) 3 1 S.length (flat isV S)] (fun x => [.own 0 (.slice au S.length cu) 3 1 S.length (flat isV x.1)]) rfl rfl (List.Perm.refl _) (fun w' hw' => ((hSl ▸ hso : SortsTo S.length) w0 M w' au cu S hw' rfl).mono fun e w2 ⟨S', h1, h2, h3⟩ => ⟨⟨S', h2⟩, h1, h3⟩) ?_; rintro ⟨S', hS', hs2⟩; have hS'l := hS'.length_eq; dsimp only at hS' hS'l ⊢)) <;> (refine go ?_; and_intros <;> (try exact trivial) <;> repeat (first | refine fun (Bk : Nat) => ?_ | intro h)))
  refine ret1 Tryz.func59 Tryz.results59 ?_
  refine fun w' hw' => ⟨(au, cu, S'), by dsimp only; rw [hS'l], ⟨hS'.trans hS, hs2⟩, ?_⟩
  dsimp only
  rw [hS'l]; exact hw'
end Go.Proofs.YtcdgibkbbcekhaaGreatDoor
