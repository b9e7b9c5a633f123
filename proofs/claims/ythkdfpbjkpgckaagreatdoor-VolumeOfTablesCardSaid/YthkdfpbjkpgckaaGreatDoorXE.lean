/-
  Contract: does a history agree with runs.
-/
import Derived.Test.YthkdfpbjkpgckaaGreatDoorXA
set_option linter.unusedVariables false
set_option linter.unusedSimpArgs false
set_option linter.unusedSectionVars false
namespace Go.Proofs.YthkdfpbjkpgckaaGreatDoor
open Go.RowKit Go.Sl Go.Num
/-- A count is set. -/
def setC (x n : Int) : List (Int × Int) → List (Int × Int)
  | [] => [(x, n)]
  | (y, m) :: r => if x = y then (x, n) :: r else (y, m) :: setC x n r
theorem put_setC (x n : Int) : ∀ L : List (Int × Int), putM x (.int .i64 n) (L.map iv) = (setC x n L).map iv
  | [] => rfl
  | (y, m) :: r => by
    rw [List.map_cons, iv, putM, setC]
    split
    · rfl
    · rw [put_setC x n r]; rfl
theorem cnt_setC (x y n : Int) : ∀ L : List (Int × Int), cnt x (setC y n L) = if x = y then n else cnt x L
  | [] => rfl
  | (z, m) :: r => by
    rw [setC]
    by_cases h : y = z
    · subst h
      rw [if_pos rfl, cnt, cnt]
      by_cases h2 : x = y
      · rw [if_pos h2, if_pos h2]
      · rw [if_neg h2, if_neg h2, if_neg h2]
    · rw [if_neg h, cnt, cnt, cnt_setC x y n r]
      by_cases h2 : x = z
      · rw [if_pos h2, if_pos h2, if_neg (by omega)]
      · rw [if_neg h2, if_neg h2]
def fillC (L : List (Int × Int)) : List (Int × Int) → List (Int × Int)
  | [] => L
  | (s, t) :: r => fillC (setC s t L) r
theorem fillC_bd {m : Int} (hm : 0 ≤ m) : ∀ (tab L : List (Int × Int)), (∀ x, 0 ≤ cnt x L ∧ cnt x L ≤ m) → (∀ p ∈ tab, 0 ≤ p.2 ∧ p.2 ≤ m) → ∀ x, 0 ≤ cnt x (fillC L tab) ∧ cnt x (fillC L tab) ≤ m
  | [], _, h, _, x => h x
  | (s, t) :: r, L, h, h2, x => fillC_bd hm r (setC s t L) (fun y => by
      have := h2 _ (List.mem_cons_self ..)
      rw [cnt_setC]
      split
      · exact this
      · exact h y) (fun p hp => h2 p (List.mem_cons_of_mem _ hp)) x
/-- Does a stage not fit. -/
def badC (g : Bool) (lo hi : Int) (L : List (Int × Int)) (s : Int) : Bool := if g = true then !decide (lo ≤ s ∧ s ≤ hi) else decide (cnt s L = 0)
def goC (g : Bool) (lo hi : Int) : List (Int × Int) → List Int → Bool
  | _, [] => true
  | L, s :: r => !badC g lo hi L s && goC g lo hi (setC s (cnt s L - 1) L) r
def agr1 (r : Rn) (seg : List Int) : Bool := goC (decide (r.tab.length = 0)) r.lo r.hi (fillC [] r.tab) seg
def agrL (f : Int) (hs : List Int) : List Rn → Bool
  | [] => true
  | r :: t => agr1 r ((hs.drop (r.from_ - f).toNat).take (r.to_ - r.from_).toNat) && agrL f hs t
def agreeB (rs : List Rn) (f : Int) (hs : List Int) : Bool :=
  if runsErr rs ≠ 0 ∨ rightH f hs = false then false else match rs[0]?, rs[rs.length - 1]? with
  | some a, some b => if f ≠ a.from_ ∨ (hs.length : Int) ≠ b.to_ - f then false else agrL f hs rs
  | _, _ => decide (hs.length = 0)
theorem chn_in : ∀ {L : List Rn} {f : Int} (hp : 0 < L.length), Chn f L → (∀ r ∈ L, inT r = true) → ∀ (k : Nat) (hk : k < L.length), f ≤ L[k].from_ ∧ L[k].from_ < L[k].to_ ∧ L[k].to_ ≤ (L[L.length - 1]).to_
  | [r], f, _, h, h1, k, hk => by
    have h2 := h1 r (List.mem_cons_self ..)
    rw [inT, decide_eq_true_eq] at h2
    have := h.1
    obtain rfl : k = 0 := by rw [List.length_singleton] at hk; omega
    simp only [List.length_singleton, Nat.sub_self, List.getElem_cons_zero]
    omega
  | r :: s :: t, f, _, h, h1, k, hk => by
    have h2 := h1 r (List.mem_cons_self ..)
    rw [inT, decide_eq_true_eq] at h2
    have h3 := h.1
    have h4 := chn_in (L := s :: t) (Nat.zero_lt_succ _) h.2 fun x hx => h1 x (List.mem_cons_of_mem _ hx)
    simp only [List.length_cons, Nat.add_sub_cancel, List.getElem_cons_succ] at h4 ⊢
    cases k with
    | zero =>
      have := h4 0 (by omega)
      simp only [List.getElem_cons_zero] at this ⊢
      omega
    | succ k =>
      have := h4 k (by simpa using hk)
      simp only [List.getElem_cons_succ]
      omega
set_option maxHeartbeats 4000000 in
theorem agree_holds (a b : Option Addr) (rs : List Rn) (f : Int) (hs : List Int) (c d : Nat) (w : World) (hA : RunsAt w a rs) (hB : SlAt w b 1 (hs.map isV)) (hfr : ∀ r ∈ rs, r.tab.length ≤ 64) (hcap : hs.length ≤ d) (hl : hs.length ≤ 1000000000) :
    Calls Tryz.prog 34 #[.slice a rs.length c, .agg #[.int .i64 f, .slice b hs.length d]] w fun e w' => e = .returned (.bool (agreeB rs f hs)) ∧ Below w.heap.size w w' := by
  have hc := fun w' (hb : Below w.heap.size w w') => vRuns_holds a rs c w' (hA.below hb) hfr
  have hr := fun w' (hb : Below w.heap.size w w') => hRight_holds f b hs d w' (hB.below hb) hl
  rw [agreeB]
  by_cases h1 : ¬ runsErr rs = 0
  · rw [if_pos (.inl h1)]
    generalize runsErr rs = E at *
    refine enterA [(0, .slice a rs.length c), (1, .agg #[.int .i64 f, .slice b hs.length d])] Tryz.func34 Tryz.ntmps34 ?_
    all_goals (refine go ?_; and_intros <;> (try exact trivial) <;> intros)
    repeat' ((first | (refine G.cvb hc ?_)) <;> (refine go ?_; and_intros <;> (try exact trivial) <;> intros))
    all_goals refine ret1b Tryz.func34 Tryz.results34 ?_
    all_goals rfl
  rw [Decidable.not_not] at h1
  have ⟨_, k5, _⟩ := runsErr_ok h1
  have k6 := runsErr_one h1
  have hch : Chn (firstF rs) rs := chn_of (p := none) (runsErr_rn h1)
  by_cases h2 : rightH f hs = false
  · rw [if_pos (.inr h2)]
    rw [h1] at hc
    rw [h2] at hr
    refine enterA [(0, .slice a rs.length c), (1, .agg #[.int .i64 f, .slice b hs.length d])] Tryz.func34 Tryz.ntmps34 ?_
    all_goals (refine go ?_; and_intros <;> (try exact trivial) <;> intros)
    repeat' ((first | (refine G.cvb hc ?_) | (refine G.cvb hr ?_)) <;> (refine go ?_; and_intros <;> (try exact trivial) <;> intros))
    all_goals refine ret1b Tryz.func34 Tryz.results34 ?_
    all_goals rfl
  rw [if_neg (by rw [h1]; simp [h2])]
  rw [Bool.not_eq_false] at h2
  rw [h1] at hc
  rw [h2] at hr
  obtain ⟨k3, k4⟩ := rightH_ok h2
  clear h1 h2
  rcases Nat.eq_zero_or_pos rs.length with h0 | h0
  · rw [List.getElem?_eq_none (by omega)]
    show Calls _ _ _ _ fun e w' => e = .returned (.bool (decide (hs.length = 0))) ∧ Below w.heap.size w w'
    by_cases h3 : hs.length = 0
    · rw [decide_eq_true h3]
      refine enterA [(0, .slice a rs.length c), (1, .agg #[.int .i64 f, .slice b hs.length d])] Tryz.func34 Tryz.ntmps34 ?_
      all_goals (refine go ?_; and_intros <;> (try exact trivial) <;> intros)
      repeat' ((first | (refine G.cvb hc ?_) | (refine G.cvb hr ?_)) <;> (refine go ?_; and_intros <;> (try exact trivial) <;> intros))
      all_goals refine ret1b Tryz.func34 Tryz.results34 ?_
      all_goals exact ret_bool (by first | (rw [decide_eq_true (by omega)]) | rfl)
    · rw [decide_eq_false h3]
      refine enterA [(0, .slice a rs.length c), (1, .agg #[.int .i64 f, .slice b hs.length d])] Tryz.func34 Tryz.ntmps34 ?_
      all_goals (refine go ?_; and_intros <;> (try exact trivial) <;> intros)
      repeat' ((first | (refine G.cvb hc ?_) | (refine G.cvb hr ?_)) <;> (refine go ?_; and_intros <;> (try exact trivial) <;> intros))
      all_goals refine ret1b Tryz.func34 Tryz.results34 ?_
      all_goals exact ret_bool (by first | (rw [decide_eq_false (by omega)]) | rfl)
  rw [List.getElem?_eq_getElem h0, List.getElem?_eq_getElem (show rs.length - 1 < rs.length by omega)]
  dsimp only
  have hin := chn_in h0 hch k5
  have hz : (rs.length : Int) - 1 = ((rs.length - 1 : Nat) : Int) := by omega
  have hfF : firstF rs = rs[0].from_ := by
    cases rs with
    | nil => exact absurd h0 (Nat.lt_irrefl _)
    | cons r t => rfl
  rw [hfF] at hin
  obtain ⟨ba, oa, rfl, hra⟩ := SlAt.all hA.1 (by omega)
  have r1 := hra 0 h0
  have r2 := hra (rs.length - 1) (by omega)
  have i1 := k5 _ (List.getElem_mem h0)
  have i2 := k5 _ (List.getElem_mem (show rs.length - 1 < rs.length by omega))
  rw [inT, decide_eq_true_eq] at i1 i2
  refine enterA [(0, .slice (some ⟨ba, oa, none⟩) rs.length c), (1, .agg #[.int .i64 f, .slice b hs.length d])] Tryz.func34 Tryz.ntmps34 ?_
  by_cases h3 : f ≠ rs[0].from_ ∨ (hs.length : Int) ≠ (rs[rs.length - 1]).to_ - f
  · rw [if_pos h3]
    clear hin hfF hch
    generalize rs[0] = x at *
    generalize rs[rs.length - 1] = y at *
    obtain ⟨f1, u, tab, adr, cap, lo, hi⟩ := x
    obtain ⟨f2, u2, tab2, adr2, cap2, lo2, hi2⟩ := y
    dsimp only [rnV] at *
    rcases h3 with h3 | h3
    · skip
      all_goals (refine go ?_; and_intros <;> (try exact trivial) <;> intros)
      repeat' ((first | (refine G.cvb hc ?_) | (refine G.cvb hr ?_) | (apply G.ix; rfl; rfl; exact hz; omega; rfl) | (apply G.ix (i := 0); rfl; rfl; exact rfl; omega; rfl)) <;> (refine go ?_; and_intros <;> (try exact trivial) <;> intros))
      all_goals refine ret1b Tryz.func34 Tryz.results34 ?_
      all_goals rfl
    · skip
      all_goals (refine go ?_; and_intros <;> (try exact trivial) <;> intros)
      repeat' ((first | (refine G.cvb hc ?_) | (refine G.cvb hr ?_) | (apply G.ix; rfl; rfl; exact hz; omega; rfl) | (apply G.ix (i := 0); rfl; rfl; exact rfl; omega; rfl)) <;> (refine go ?_; and_intros <;> (try exact trivial) <;> intros))
      all_goals
        all_goals refine ret1b Tryz.func34 Tryz.results34 ?_
        all_goals rfl
  rw [if_neg h3]
  rw [not_or, Decidable.not_not, Decidable.not_not] at h3
  obtain ⟨h3, h4⟩ := h3
  rw [← h3] at hin
  have hin2 : ∀ (k : Nat) (hk : k < rs.length), f ≤ rs[k].from_ ∧ rs[k].from_ < rs[k].to_ ∧ rs[k].to_ ≤ f + hs.length := fun k hk => by have := hin k hk; omega
  clear hin hfF hch
  have r1' := r1
  have r2' := r2
  rw [show rnV rs[0] = [.int .i64 rs[0].from_, .int .i64 rs[0].to_, .slice rs[0].adr rs[0].tab.length rs[0].cap, .int .i64 rs[0].lo, .int .i64 rs[0].hi] from rfl] at r1'
  rw [show rnV rs[rs.length - 1] = [.int .i64 (rs[rs.length - 1]).from_, .int .i64 (rs[rs.length - 1]).to_, .slice (rs[rs.length - 1]).adr (rs[rs.length - 1]).tab.length (rs[rs.length - 1]).cap, .int .i64 (rs[rs.length - 1]).lo, .int .i64 (rs[rs.length - 1]).hi] from rfl] at r2'
  all_goals (refine go ?_; and_intros <;> (try exact trivial) <;> intros)
  repeat' ((first | (refine G.cvb hc ?_) | (refine G.cvb hr ?_) | (apply G.ix; rfl; rfl; exact hz; omega; rfl) | (apply G.ix (i := 0); rfl; rfl; exact rfl; omega; rfl)) <;> (refine go ?_; and_intros <;> (try exact trivial) <;> intros))
  clear hc hr r1 r2 r1' r2' i1 i2
  generalize hT : agrL f hs rs = T
  refine J.loop (c := _) (0 : Nat) (fun s => rs.length - s) (fun s => [(3, .pointer (some ⟨_, 0, none⟩)), (50, .slice (some ⟨ba, oa, none⟩) rs.length c), (51, .int .i64 rs.length), (52, .int .i64 s)]) (fun s => [.blk _ 24 [.int .i64 f, .slice b hs.length d] 2]) (fun s => s ≤ rs.length ∧ agrL f hs (rs.drop s) = T) ?_ sbT sbL ?_
  · exact ⟨Nat.zero_le _, hT⟩
  clear hT
  intro k ⟨e1, e2⟩ ih
  by_cases hk : k < rs.length
  · have hrk := hra k hk
    have htk := hA.2 _ (List.getElem_mem hk)
    have hik := hin2 k hk
    have hok := k6 _ (List.getElem_mem hk)
    have hik2 := k5 _ (List.getElem_mem hk)
    rw [inT, decide_eq_true_eq] at hik2
    have hlk := hfr _ (List.getElem_mem hk)
    rw [List.drop_eq_getElem_cons hk, agrL] at e2
    have hbd : ∀ x, 0 ≤ cnt x (fillC [] rs[k].tab) ∧ cnt x (fillC [] rs[k].tab) ≤ 1402560 := by
      by_cases ht : rs[k].tab.length = 0
      · rw [List.length_eq_zero_iff.1 ht]; exact fun x => ⟨Int.le_refl _, by show (0 : Int) ≤ 1402560; decide⟩
      · obtain ⟨t1, _⟩ := oneE_tab hok ht
        exact fillC_bd (by decide) _ _ (fun x => ⟨Int.le_refl _, by show (0 : Int) ≤ 1402560; decide⟩) fun p hp => by have := (t1 p hp).2; omega
    have hg := fun w' => gap_holds rs[k] w'
    have ih' := ih (k + 1)
    clear hra hin2 k6 k5 hok ih
    generalize hV : agrL f hs (rs.drop (k + 1)) = V at *
    generalize rs[k] = r at *
    obtain ⟨fr, to, tab, adr, cap, lo, hi⟩ := r
    dsimp only [rnV, rnA, TabAt, agr1] at *
    obtain ⟨p, hp⟩ : ∃ p : Nat, fr = f + p := ⟨(fr - f).toNat, by omega⟩
    obtain ⟨n, hn⟩ : ∃ n : Nat, to = fr + n := ⟨(to - fr).toNat, by omega⟩
    rw [show (fr - f).toNat = p by omega, show (to - fr).toNat = n by omega] at e2
    subst hn
    subst hp
    have hseg : ∀ i (hi : i < n), ((hs.drop p).take n).drop i = hs[p + i] :: ((hs.drop p).take n).drop (i + 1) := fun i hi => by
      rw [List.drop_eq_getElem_cons (by simp; omega)]
      simp
    have hlen : ((hs.drop p).take n).length = n := by simp; omega
    generalize hsg : (hs.drop p).take n = sg at *
    generalize hFL : fillC [] tab = FL at *
    all_goals (refine go ?_; and_intros <;> (try exact trivial) <;> intros)
    repeat' ((first | (apply G.mkm; rfl; intro bq)) <;> (refine go ?_; and_intros <;> (try exact trivial) <;> intros))
    refine J.loop (c := _) ((0, #[], 0, []) : Nat × Array MapEntry × Nat × List (Int × Int)) (fun s => tab.length - s.1) (fun s => [(3, .pointer (some ⟨_, 0, none⟩)), (6, .pointer (some ⟨_, 0, none⟩)), (7, .map (some bq)), (50, .slice (some ⟨ba, oa, none⟩) rs.length c), (51, .int .i64 rs.length), (52, .int .i64 k), (58, .slice adr tab.length cap), (59, .int .i64 tab.length), (60, .int .i64 s.1)]) (fun s => [.obj bq (.map s.2.1 s.2.2.1), .blk _ 28 [.int .i64 (f + p), .int .i64 (f + p + n), .slice adr tab.length cap, .int .i64 lo, .int .i64 hi] 5, .blk _ 24 [.int .i64 f, .slice b hs.length d] 2]) (fun s => s.1 ≤ tab.length ∧ MapIs (Value.int .i64) s.2.1 s.2.2.1 (s.2.2.2.map iv) ∧ fillC s.2.2.2 (tab.drop s.1) = FL) ?_ sbT sbL ?_
    · exact ⟨Nat.zero_le _, MapIs.nil, hFL⟩
    clear hFL
    intro ⟨j, es, ck, Lc⟩ ⟨d1, hI, d2⟩ ih2
    dsimp only at d1 hI d2 ⊢
    by_cases hj : j < tab.length
    · obtain ⟨bt, ot, rfl, hrt⟩ := SlAt.all htk (by omega)
      have hrj := hrt j hj
      rw [List.drop_eq_getElem_cons hj, fillC] at d2
      clear hrt ih'
      generalize tab[j] = z at *
      obtain ⟨zs, zt⟩ := z
      dsimp only [hoV] at *
      all_goals (refine go ?_; and_intros <;> (try exact trivial) <;> intros)
      repeat' ((first | (apply G.mu (kf := Value.int .i64) (a := zs) hI (put_setC zs zt Lc); rfl; rfl; rfl; rfl; (repeat (first | exact RAt.head | apply RAt.tail)); intro es2 c2 hI2)) <;> (refine go ?_; and_intros <;> (try exact trivial) <;> intros))
      exact J.fin (ih2 (j + 1, es2, c2, setC zs zt Lc) ⟨hj, hI2, d2⟩ (by dsimp only; omega))
    obtain rfl : j = tab.length := by omega
    rw [List.drop_length, fillC] at d2
    subst d2
    clear ih2
    by_cases hn0 : hs.length = 0
    · exfalso; omega
    obtain ⟨bb, ob, rfl, hrb⟩ := SlAt.all hB (by omega)
    all_goals (refine go ?_; and_intros <;> (try exact trivial) <;> intros)
    repeat' ((first | (apply G.slp (l := p) (h := p + n) (off := ob + p * 1) (len := n); rfl; rfl; rfl; omega; omega; omega; omega; omega; rfl; omega; rfl)) <;> (refine go ?_; and_intros <;> (try exact trivial) <;> intros))
    refine J.loop (c := _) ((0, es, ck, Lc) : Nat × Array MapEntry × Nat × List (Int × Int)) (fun s => n - s.1) (fun s => [(3, .pointer (some ⟨_, 0, none⟩)), (6, .pointer (some ⟨_, 0, none⟩)), (7, .map (some bq)), (50, .slice (some ⟨ba, oa, none⟩) rs.length c), (51, .int .i64 rs.length), (52, .int .i64 k), (82, .slice (some ⟨bb, ob + p * 1, none⟩) n _), (83, .int .i64 n), (84, .int .i64 s.1)]) (fun s => [.obj bq (.map s.2.1 s.2.2.1), .blk _ 28 [.int .i64 (f + p), .int .i64 (f + p + n), .slice adr tab.length cap, .int .i64 lo, .int .i64 hi] 5, .blk _ 24 [.int .i64 f, .slice (some ⟨bb, ob, none⟩) hs.length d] 2]) (fun s => s.1 ≤ n ∧ MapIs (Value.int .i64) s.2.1 s.2.2.1 (s.2.2.2.map iv) ∧ (goC (decide (tab.length = 0)) lo hi s.2.2.2 (sg.drop s.1) && V) = T ∧ ∀ x, -(s.1 : Int) ≤ cnt x s.2.2.2 ∧ cnt x s.2.2.2 ≤ 1402560) ?_ sbT sbL ?_
    · exact ⟨Nat.zero_le _, hI, e2, fun x => by have := hbd x; dsimp only; omega⟩
    clear hbd e2 hI
    intro ⟨i, es2, ck2, L2⟩ ⟨c1, hI, c2, c3⟩ ih2
    dsimp only at c1 hI c2 c3 ⊢
    by_cases hi2 : i < n
    · have hr1 : RowAt w bb (ob + p * 1 + i * 1) [.int .i64 hs[p + i]] := by
        have := hrb (p + i) (by omega)
        rw [show ob + p * 1 + i * 1 = ob + (p + i) * 1 by omega]; exact this
      rw [hseg i hi2, goC] at c2
      clear hrb
      generalize hs[p + i] = z at *
      have hcz := c3 z
      have hlk2 := get_iv z L2
      have hpt := put_setC z (cnt z L2 - 1) L2
      have hw := fun w' => within_holds z lo hi w'
      have hnx : ∀ x, -((i + 1 : Nat) : Int) ≤ cnt x (setC z (cnt z L2 - 1) L2) ∧ cnt x (setC z (cnt z L2 - 1) L2) ≤ 1402560 := fun x => by
        rw [cnt_setC]
        have := c3 x
        split <;> omega
      clear c3
      by_cases hgp : tab.length = 0
      · rw [decide_eq_true hgp] at hg c2 ih2
        by_cases hwi : lo ≤ z ∧ z ≤ hi
        · rw [decide_eq_true hwi] at hw
          rw [badC, if_pos rfl, decide_eq_true hwi, Bool.not_true, Bool.not_false, Bool.true_and] at c2
          have ih3 := fun es3 c4 hI3 => ih2 (i + 1, es3, c4, setC z (cnt z L2 - 1) L2) ⟨hi2, hI3, c2, hnx⟩ (by dsimp only; omega)
          generalize cnt z L2 = N at *
          all_goals (refine go ?_; and_intros <;> (try exact trivial) <;> intros)
          repeat' ((first | (apply G.cV (g := 72); rfl; rfl; exact fun w' _ => hg w') | (apply G.cV (g := 73); rfl; rfl; exact fun w' _ => hw w') | (apply G.lk (kf := Value.int .i64) (a := z) hI; rfl; rfl; exact mm; exact hlk2; rfl) | (apply G.mu (kf := Value.int .i64) (a := z) hI hpt; rfl; rfl; rfl; rfl; (repeat (first | exact RAt.head | apply RAt.tail)); intro es3 c4 hI3)) <;> (refine go ?_; and_intros <;> (try exact trivial) <;> intros))
          exact J.fin (ih3 es3 c4 hI3)
        · rw [decide_eq_false hwi] at hw
          rw [badC, if_pos rfl, decide_eq_false hwi, Bool.not_false, Bool.not_true, Bool.false_and, Bool.false_and] at c2
          subst c2
          all_goals (refine go ?_; and_intros <;> (try exact trivial) <;> intros)
          repeat' ((first | (apply G.cV (g := 72); rfl; rfl; exact fun w' _ => hg w') | (apply G.cV (g := 73); rfl; rfl; exact fun w' _ => hw w')) <;> (refine go ?_; and_intros <;> (try exact trivial) <;> intros))
          all_goals refine ret1b Tryz.func34 Tryz.results34 ?_
          all_goals rfl
      · rw [decide_eq_false hgp] at hg c2 ih2
        by_cases hc0 : cnt z L2 = 0
        · rw [badC, if_neg (by decide), decide_eq_true hc0, Bool.not_true, Bool.false_and, Bool.false_and] at c2
          subst c2
          rw [hc0] at hlk2
          all_goals (refine go ?_; and_intros <;> (try exact trivial) <;> intros)
          repeat' ((first | (apply G.cV (g := 72); rfl; rfl; exact fun w' _ => hg w') | (apply G.lk (kf := Value.int .i64) (a := z) hI; rfl; rfl; exact mm; exact hlk2; rfl)) <;> (refine go ?_; and_intros <;> (try exact trivial) <;> intros))
          all_goals refine ret1b Tryz.func34 Tryz.results34 ?_
          all_goals rfl
        · rw [badC, if_neg (by decide), decide_eq_false hc0, Bool.not_false, Bool.true_and] at c2
          have ih3 := fun es3 c4 hI3 => ih2 (i + 1, es3, c4, setC z (cnt z L2 - 1) L2) ⟨hi2, hI3, c2, hnx⟩ (by dsimp only; omega)
          generalize cnt z L2 = N at *
          all_goals (refine go ?_; and_intros <;> (try exact trivial) <;> intros)
          repeat' ((first | (apply G.cV (g := 72); rfl; rfl; exact fun w' _ => hg w') | (apply G.lk (kf := Value.int .i64) (a := z) hI; rfl; rfl; exact mm; exact hlk2; rfl) | (apply G.mu (kf := Value.int .i64) (a := z) hI hpt; rfl; rfl; rfl; rfl; (repeat (first | exact RAt.head | apply RAt.tail)); intro es3 c4 hI3)) <;> (refine go ?_; and_intros <;> (try exact trivial) <;> intros))
          exact J.fin (ih3 es3 c4 hI3)
    · obtain rfl : i = n := by omega
      rw [List.drop_eq_nil_of_le (by omega), goC, Bool.true_and] at c2
      clear ih2
      all_goals (refine go ?_; and_intros <;> (try exact trivial) <;> intros)
      exact J.fin (ih' ⟨hk, c2⟩ (by omega))
  · rw [List.drop_eq_nil_of_le (by omega), agrL] at e2
    subst e2
    clear ih
    all_goals (refine go ?_; and_intros <;> (try exact trivial) <;> intros)
    all_goals refine ret1b Tryz.func34 Tryz.results34 ?_
    all_goals rfl
end Go.Proofs.YthkdfpbjkpgckaaGreatDoor
