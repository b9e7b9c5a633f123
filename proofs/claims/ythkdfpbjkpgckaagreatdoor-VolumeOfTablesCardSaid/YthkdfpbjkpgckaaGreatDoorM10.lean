/-
  Contract of the law's sanity.
-/
import Derived.Test.YthkdfpbjkpgckaaGreatDoorM9
import Derived.Test.YthkdfpbjkpgckaaGreatDoorM2
import Derived.Test.YthkdfpbjkpgckaaGreatDoorRows
import Derived.Test.YthkdfpbjkpgckaaGreatDoorTie
import Derived.Test.YthkdfpbjkpgckaaGreatDoorCards
import Derived.ProofKit
import Derived.OpenShut
import Derived.LaidMore
import Derived.Lay
import Derived.Stop.Joined
import Derived.SevenTiedAt
set_option linter.unusedVariables false
set_option linter.unusedSimpArgs false
set_option linter.unusedSectionVars false
namespace Go.Proofs.YthkdfpbjkpgckaaGreatDoor
open Go.RowKit Go.Sl Go.Num
attribute [local irreducible] rQ half one1 volE tableE exE rateE hSpans Calls
set_option maxRecDepth 20000 in
set_option maxHeartbeats 4000000 in
theorem sanity_holds (w : World) : Calls Tryz.prog 10 #[] w fun e w' => e = .returned (.bool true) ∧ Below w.heap.size w w' := by
  have hh := fun w' (_ : Below w.heap.size w w') => ofHalf w'
  have n1 := fun w' (_ : Below w.heap.size w w') => int1 w'
  have n2 := fun w' (_ : Below w.heap.size w w') => int_holds 2 w' (by decide) (by decide)
  have i20 := fun w' (_ : Below w.heap.size w w') => cvIs (n := 20) rfl (by decide) (by decide) w'
  have i280 := fun w' (_ : Below w.heap.size w w') => cvIs (n := 280) rfl (by decide) (by decide) w'
  have i100 := fun w' (_ : Below w.heap.size w w') => cvIs (n := 100) rfl (by decide) (by decide) w'
  have i60 := fun w' (_ : Below w.heap.size w w') => cvIs (n := 60) rfl (by decide) (by decide) w'
  have i190 := fun w' (_ : Below w.heap.size w w') => cvIs (n := 190) rfl (by decide) (by decide) w'
  have i220 := fun w' (_ : Below w.heap.size w w') => cvIs (n := 220) rfl (by decide) (by decide) w'
  refine enterA [] Tryz.func10 Tryz.ntmps10 ?_
  all_goals (refine go ?_; and_intros <;> (try exact trivial) <;> intros)
  repeat' ((first | (refine G.cvb (vs := [.int .i64 1]) n1 ?_) | (refine G.cvb (vs := [.int .i64 2]) n2 ?_) | (refine G.cvb hh ?_) | (refine G.spn half ?_; intro a1 x1) | (refine G.spn one1 ?_; intro a2 x2) | (apply G.sliceL; rfl; rfl; rfl; rfl; rfl; rfl; rfl; rfl; intro Bs) | (apply G.ld; rfl; exact ldS1; rfl) | (apply G.ld; rfl; exact ldS0; rfl) | (apply G.cV (g := 20); rfl; rfl; exact fun w' hw => cvRate ex1' hw) | (apply G.cV (g := 11); rfl; rfl; exact fun w' hw => cvVal (hs_val _ _) hw) | (apply G.cV (g := 11); rfl; rfl; exact fun w' hw => cvVal (hs_gap _ _) hw) | (apply G.cV (g := 22); rfl; rfl; exact fun w' hw => cvTab (T := [(1, 3), (7, 1)]) (hs_t1 _ _ _ _) (Nat.le_of_ble_eq_true rfl) hw) | (apply G.cV (g := 22); rfl; rfl; exact fun w' hw => cvTab (T := [(1, 5)]) (hs_t2 _ _ _ _) (Nat.le_of_ble_eq_true rfl) hw) | (apply G.cV (g := 22); rfl; rfl; exact fun w' hw => cvGap (lo := 3) (hi := 3) (hs_t3 _ _ _ _) hw) | (apply G.cV (g := 22); rfl; rfl; exact fun w' hw => cvGap (lo := 3) (hi := 4) (hs_t4 _ _ _ _) hw) | (apply G.cV (g := 24); rfl; rfl; exact fun w' hw => cvEx2 (hs_e1 _ _ _ _ _ _) (Nat.le_of_ble_eq_true rfl) (Nat.le_of_ble_eq_true rfl) (few_h _ _) hw) | (apply G.cV (g := 24); rfl; rfl; exact fun w' hw => cvEx1 (u := half) (a := a1) (hs_e2 _ _ _ _) (Nat.le_of_ble_eq_true rfl) (few_h _ _) hw) | (apply G.cV (g := 24); rfl; rfl; exact fun w' hw => cvEx1 (u := one1) (a := a2) (hs_e3 _ _ _ _) (Nat.le_of_ble_eq_true rfl) (few_h1 _ _) hw) | (apply G.cO (g := 13) (fun u => .tuple #[u, .int .i64 0]); rfl; rfl; exact fun w' hw => cvCut hw; intro uc; refine G.ownOpen RAt.au (Nat.zero_lt_succ 1) ?_; intro g1 p1 hg1 hp1 hv; subst hv) | (apply G.cO (g := 15) (fun u => .tuple #[u, .int .i64 0]); rfl; rfl; exact fun w' hw => cvScale hw; intro us; refine G.ownOpen RAt.au (Nat.zero_lt_succ 1) ?_; intro g2 p2 hg2 hp2 hv; subst hv) | (refine G.cvb (vs := [qA (rQ ((20 : Int) : Rat)), .int .i64 0, .int .i64 20]) i20 ?_) | (refine G.cvb (vs := [qA (rQ ((280 : Int) : Rat)), .int .i64 0, .int .i64 280]) i280 ?_) | (refine G.cvb (vs := [qA (rQ ((100 : Int) : Rat)), .int .i64 0, .int .i64 100]) i100 ?_) | (refine G.cvb (vs := [qA (rQ ((60 : Int) : Rat)), .int .i64 0, .int .i64 60]) i60 ?_) | (refine G.cvb (vs := [qA (rQ ((190 : Int) : Rat)), .int .i64 0, .int .i64 190]) i190 ?_) | (refine G.cvb (vs := [qA (rQ ((220 : Int) : Rat)), .int .i64 0, .int .i64 220]) i220 ?_) | (apply G.eqR one1 one1; rfl; rfl; rfl; all_goals intro h; all_goals try (exact absurd rfl h)) | (apply G.cV (g := 17); rfl; rfl; exact fun w' hw => cvChk hw)) <;> (refine go ?_; and_intros <;> (try exact trivial) <;> intros))
  all_goals refine ret1b Tryz.func10 Tryz.results10 ?_
  all_goals rfl
end Go.Proofs.YthkdfpbjkpgckaaGreatDoor
/-
  Contract of the law: Exact is as it is specified.
-/
namespace Go.Proofs.YthkdfpbjkpgckaaGreatDoor
open Go.RowKit Go.Sl Go.Num
theorem law4_holds (a b : Option Addr) (rs : List Rn) (l : List Spn) (c d : Nat) (w : World) (hA : RunsAt w a rs) (hB : SpansAt w b l) :
    Calls Tryz.prog 4 #[.slice a rs.length c, .slice b l.length d] w fun e w' => e = .returned (.bool true) ∧ Below w.heap.size w w' := by
  have hs := fun w' (_ : Below w.heap.size w w') => sanity_holds w'
  have hw := fun w' (hb : Below w.heap.size w w') => fewLR_holds b a l rs d c w' (hB.below hb) (hA.below hb)
  by_cases h1 : fewL 12 l ∧ fewR 12 60 rs
  · rw [decide_eq_true h1] at hw
    have hx := fun w' (hb : Below w.heap.size w w') => exact_holds a b rs l c d w' (hA.below hb) (hB.below hb) h1.1.ok (fun r hr => Nat.le_trans (h1.2.2.1 r hr) (by decide)) (Nat.le_trans h1.2.1 (by decide))
    have hy := fun w' (hb : Below w.heap.size w w') => sExact_holds a b rs l c d w' (hA.below hb) (hB.below hb) h1.1.ok (fun r hr => Nat.le_trans (h1.2.2.1 r hr) (by decide)) (Nat.le_trans h1.2.1 (by decide))
    rw [← exE_eq] at hy
    generalize exE rs l = V at *
    obtain ⟨Q, E⟩ := V
    clear h1
    dsimp only [madeA] at *
    refine enterA [(0, .slice a rs.length c), (1, .slice b l.length d)] Tryz.func4 Tryz.ntmps4 ?_
    all_goals (refine go ?_; and_intros <;> (try exact trivial) <;> intros)
    repeat' ((first | (refine G.cvb hs ?_) | (refine G.cvb hw ?_) | (refine G.cvb hx ?_) | (refine G.cvb hy ?_) | (apply G.eqR Q Q; rfl; rfl; rfl; all_goals intro h; all_goals try (exact absurd rfl h))) <;> (refine go ?_; and_intros <;> (try exact trivial) <;> intros))
    all_goals refine ret1b Tryz.func4 Tryz.results4 ?_
    all_goals rfl
  · rw [decide_eq_false h1] at hw
    refine enterA [(0, .slice a rs.length c), (1, .slice b l.length d)] Tryz.func4 Tryz.ntmps4 ?_
    all_goals (refine go ?_; and_intros <;> (try exact trivial) <;> intros)
    repeat' ((first | (refine G.cvb hs ?_) | (refine G.cvb hw ?_)) <;> (refine go ?_; and_intros <;> (try exact trivial) <;> intros))
    all_goals refine ret1b Tryz.func4 Tryz.results4 ?_
    all_goals rfl
end Go.Proofs.YthkdfpbjkpgckaaGreatDoor
/-
  Contract of the law: volumes are as they are specified.
-/
namespace Go.Sl
open Go.RowKit
/-- An own slice has a slice's form. -/
theorem G.ownForm {C : Ctx} {st : List (Nat × Value)} {M : List Row} {k : List Item} {all rest : List Oper} {base E size n i : Nat} {v : Value} {xs : List Value} (hm : M[i]? = some (.own base v E size n xs)) (h : ∀ a c, v = .slice a n c → G .seq C all st M rest k) : G .seq C all st M rest k :=
  ⟨fun a w hf hd hw => by
    obtain ⟨hl, hv⟩ := hw.hold _ (List.mem_of_getElem? hm)
    rcases hv with ⟨rfl, rfl⟩ | ⟨g, cap, cur, rfl, _⟩
    · exact (h _ _ rfl).go a w hf hd hw
    · exact (h _ _ rfl).go a w hf hd hw⟩
end Go.Sl
namespace Go.Proofs.YthkdfpbjkpgckaaGreatDoor
open Go.RowKit Go.Sl Go.Num
theorem cut_pts {x y : Int} : ∀ {l : List Spn}, ∀ s ∈ cutL x y l, ∃ s0 ∈ l, s.adr = s0.adr ∧ s.pts = s0.pts
  | [], s, h => by cases h
  | s0 :: l, s, h => by
    rw [cutL] at h
    have key : s ∈ cutL x y l → ∃ s1 ∈ s0 :: l, s.adr = s1.adr ∧ s.pts = s1.pts := fun h => let ⟨s1, h1, h2⟩ := cut_pts s h; ⟨s1, List.mem_cons_of_mem s0 h1, h2⟩
    split at h
    · rcases List.mem_cons.1 h with rfl | h
      · exact ⟨s0, List.mem_cons_self .., rfl, rfl⟩
      · exact key h
    · exact key h
theorem cut_at {w : World} {b : Option Addr} {l : List Spn} {x y : Int} (h : SpansAt w b l) : ∀ s ∈ (cutE x y l).1, PtsAt w s := by
  intro s hs
  rw [cutE] at hs
  split at hs
  · cases hs
  split at hs
  · cases hs
  obtain ⟨s0, h1, h2, h3⟩ := cut_pts s hs
  have := h.2 s0 h1
  rw [PtsAt] at this ⊢
  rw [h2, h3]; exact this
theorem scale_at {w : World} {b : Option Addr} {l : List Spn} {q : Q3} (h : SpansAt w b l) : ∀ s ∈ (scaleE q l).1, PtsAt w s := by
  intro s hs
  rw [scaleE] at hs
  split at hs
  · cases hs
  split at hs
  · cases hs
  obtain ⟨s0, h1, rfl⟩ := List.mem_map.1 hs
  exact h.2 s0 h1
theorem cutL_len {x y : Int} : ∀ l : List Spn, (cutL x y l).length ≤ l.length
  | [] => Nat.le_refl _
  | s :: l => by
    have := cutL_len (x := x) (y := y) l
    rw [cutL]; split <;> simp only [List.length_cons] <;> omega
theorem cut_ok {l : List Spn} {x y : Int} (h : ∀ s ∈ l, fewS s) (hl : l.length ≤ 410) : (cutE x y l).1.length ≤ 1000000 ∧ ∀ s ∈ (cutE x y l).1, s.pts.length ≤ 1000000 := by
  rw [cutE]
  split
  · exact ⟨Nat.zero_le _, fun s hs => by cases hs⟩
  split
  · exact ⟨Nat.zero_le _, fun s hs => by cases hs⟩
  refine ⟨Nat.le_trans (cutL_len l) (by omega), fun s hs => ?_⟩
  obtain ⟨s0, h1, _, h3⟩ := cut_pts s hs
  have := (h s0 h1).1.1
  rw [h3]; omega
theorem scale_ok {l : List Spn} {q : Q3} (h : ∀ s ∈ l, fewS s) (hl : l.length ≤ 410) : (scaleE q l).1.length ≤ 1000000 ∧ ∀ s ∈ (scaleE q l).1, s.pts.length ≤ 1000000 := by
  rw [scaleE]
  split
  · exact ⟨Nat.zero_le _, fun s hs => by cases hs⟩
  split
  · exact ⟨Nat.zero_le _, fun s hs => by cases hs⟩
  refine ⟨by rw [List.length_map]; omega, fun s hs => ?_⟩
  obtain ⟨s0, h1, rfl⟩ := List.mem_map.1 hs
  have := (h s0 h1).1.1
  show s0.pts.length ≤ 1000000
  omega
theorem ownAt {w0 w : World} {M : List Row} {u : Value} {L : List Spn} (hw : Sat w0 M w) (h1 : Row.own 0 u 59 7 L.length (flat spV L) ∈ M) : ∃ a c, u = .slice a L.length c ∧ SlAt w a 7 (L.map spV) := by
  have ho := hw.hold _ h1
  have ho2 := ho
  obtain ⟨_, hv⟩ := ho
  rcases hv with ⟨rfl, hn⟩ | ⟨g, cap, cur, rfl, _⟩
  · exact ⟨none, 0, by rw [hn], fun h => by rw [List.length_map] at h; omega⟩
  · exact ⟨_, _, rfl, SlAt.ofOwn spV_len ho2 rfl⟩
theorem sameOwn {w0 w : World} {M : List Row} {u1 u2 : Value} {L : List Spn} (hP : ∀ s ∈ L, PtsAt w s) (hL : L.length ≤ 1000000 ∧ ∀ s ∈ L, s.pts.length ≤ 1000000) (hw : Sat w0 M w)
    (h1 : Row.own 0 u1 59 7 L.length (flat spV L) ∈ M := by (repeat (first | exact List.Mem.head _ | apply List.Mem.tail))) (h2 : Row.own 0 u2 59 7 L.length (flat spV L) ∈ M := by (repeat (first | exact List.Mem.head _ | apply List.Mem.tail))) :
    Calls Tryz.prog 19 #[u1, u2] w fun e w' => e = .returned (.bool true) ∧ Below w.heap.size w w' := by
  obtain ⟨a, c, rfl, k1⟩ := ownAt hw h1
  obtain ⟨b, d, rfl, k2⟩ := ownAt hw h2
  exact sameSpans_holds a b L L c d w ⟨k1, hP⟩ ⟨k2, hP⟩ rfl (fun k _ _ => ⟨rfl, rfl, rfl, rfl, rfl⟩) hL
set_option maxHeartbeats 4000000 in
theorem law3_holds (f : Int) (a b : Option Addr) (hs : List Int) (l : List Spn) (c d : Nat) (r : Rn) (st x y : Int) (By : Q3) (w : World) (hA : SlAt w a 1 (hs.map isV)) (hc : hs.length ≤ c) (hB : SpansAt w b l) (hT : TabAt w r) :
    Calls Tryz.prog 3 #[.agg #[.int .i64 f, .slice a hs.length c], .slice b l.length d, .agg #[.int .i64 r.from_, .int .i64 r.to_, .slice r.adr r.tab.length r.cap, .int .i64 r.lo, .int .i64 r.hi, .int .i64 st, .int .i64 x, .int .i64 y, .bool By.neg, .string (bs By.num), .string (bs By.den)]] w fun e w' => e = .returned (.bool true) ∧ Below w.heap.size w w' := by
  have hsn := fun w' (_ : Below w.heap.size w w') => sanity_holds w'
  have hlg := fun w' (_ : Below w.heap.size w w') => long_holds f a hs c w'
  have hfw : ∀ q w', SlAt w' (some ⟨q, 0, none⟩) 5 ([r].map rnV) → Below w.heap.size w w' → Calls Tryz.prog 9 #[.slice b l.length d, .slice (some ⟨q, 0, none⟩) 1 1] w' fun e w'' => e = .returned (.bool (decide (fewL 12 l ∧ fewR 12 60 [r]))) ∧ Below w'.heap.size w' w'' := fun q w' h hb =>
    fewLR_holds b (some ⟨q, 0, none⟩) l [r] d 1 w' (hB.below hb) ⟨h, fun z hz => by rw [List.mem_singleton.1 hz]; exact SlAt.below hT hb⟩
  by_cases h1 : 60 < hs.length
  · rw [decide_eq_true h1] at hlg
    refine enterA [(0, .agg #[.int .i64 f, .slice a hs.length c]), (1, .slice b l.length d), (2, .agg #[.int .i64 r.from_, .int .i64 r.to_, .slice r.adr r.tab.length r.cap, .int .i64 r.lo, .int .i64 r.hi, .int .i64 st, .int .i64 x, .int .i64 y, .bool By.neg, .string (bs By.num), .string (bs By.den)])] Tryz.func3 Tryz.ntmps3 ?_
    all_goals (refine go ?_; and_intros <;> (try exact trivial) <;> intros)
    repeat' ((first | (refine G.cvb hsn ?_) | (refine G.cvb hlg ?_)) <;> (refine go ?_; and_intros <;> (try exact trivial) <;> intros))
    all_goals refine ret1b Tryz.func3 Tryz.results3 ?_
    all_goals rfl
  · rw [decide_eq_false h1] at hlg
    by_cases h2 : fewL 12 l ∧ fewR 12 60 [r]
    · rw [decide_eq_true h2] at hfw
      have hf := h2.1.ok
      have hl : l.length ≤ 410 := by have := h2.1.1; omega
      have hr : r.tab.length ≤ 64 := Nat.le_trans (h2.2.2.1 r (List.mem_singleton.2 rfl)) (by decide)
      clear h2
      have hTb := fun w' (hb : Below w.heap.size w w') => SlAt.below hT hb
      by_cases h3 : fewQ 40 By
      · have hv := fun w' (hb : Below w.heap.size w w') => val_holds f a b hs l c d w' (hA.below hb) (hB.below hb) hf (by omega) hc
        have hv2 := fun w' (hb : Below w.heap.size w w') => sValue_holds f a b hs l c d w' (hA.below hb) (hB.below hb) hf (by omega)
        have hk := fun w' (hb : Below w.heap.size w w') => vCheck_holds b l d w' (hB.below hb) hf
        have hk2 := fun w' (hb : Below w.heap.size w w') => sCheck_holds b l d w' (hB.below hb) hf
        have hct := fun w' (hb : Below w.heap.size w w') => vCut_holds b l d x y w' (hB.below hb) hf
        have hct2 := fun w' (hb : Below w.heap.size w w') => sCut_holds b l d x y w' (hB.below hb) hf
        have hsc := fun w' (hb : Below w.heap.size w w') => vScale_holds b l d By w' (hB.below hb) hf h3
        have hsc2 := fun w' (hb : Below w.heap.size w w') => sScale_holds b l d By w' (hB.below hb) hf h3
        have hs1 : ∀ w', Below w.heap.size w w' → ∀ s ∈ (cutE x y l).1, PtsAt w' s := fun w' hb => cut_at (hB.below hb)
        have hs2 : ∀ w', Below w.heap.size w w' → ∀ s ∈ (scaleE By l).1, PtsAt w' s := fun w' hb => scale_at (hB.below hb)
        have ho1 := cut_ok (x := x) (y := y) hf hl
        have ho2 := scale_ok (q := By) hf hl
        have hrt := fun (k : Nat) (hk : k < l.length) w' (hb : Below w.heap.size w w') => vRate_holds l[k] st w' ((hB.2 _ (List.getElem_mem hk)).below hb) (hf _ (List.getElem_mem hk))
        have hrt2 := fun (k : Nat) (hk : k < l.length) w' (hb : Below w.heap.size w w') => sRate_holds l[k] st w' ((hB.2 _ (List.getElem_mem hk)).below hb) (hf _ (List.getElem_mem hk))
        have htb := fun (k : Nat) (hk : k < l.length) w' (hb : Below w.heap.size w w') => vTable_holds r l[k] w' (SlAt.below hT hb) ((hB.2 _ (List.getElem_mem hk)).below hb) hr (hf _ (List.getElem_mem hk))
        have htb2 := fun (k : Nat) (hk : k < l.length) w' (hb : Below w.heap.size w w') => sTable_holds r l[k] w' (SlAt.below hT hb) ((hB.2 _ (List.getElem_mem hk)).below hb) hr (hf _ (List.getElem_mem hk))
        generalize volE f hs l = V at *
        generalize cutE x y l = K at *
        generalize scaleE By l = S at *
        obtain ⟨VQ, VE⟩ := V
        obtain ⟨KL, KE⟩ := K
        obtain ⟨SL, SE⟩ := S
        generalize spansErr l = CE at *
        have q1 : ¬ 40 < By.num.length := by have := h3.1; omega
        have q2 : ¬ 40 < By.den.length := by have := h3.2; omega
        obtain ⟨rf, rt, tab, adr, cap, lo, hi⟩ := r
        obtain ⟨bn, bnum, bden⟩ := By
        dsimp only [madeA, rnA, qA] at *
        refine enterA [(0, .agg #[.int .i64 f, .slice a hs.length c]), (1, .slice b l.length d), (2, .agg #[.int .i64 rf, .int .i64 rt, .slice adr tab.length cap, .int .i64 lo, .int .i64 hi, .int .i64 st, .int .i64 x, .int .i64 y, .bool bn, .string (bs bnum), .string (bs bden)])] Tryz.func3 Tryz.ntmps3 ?_
        all_goals (refine go ?_; and_intros <;> (try exact trivial) <;> intros)
        repeat' ((first | (apply G.sliceL; rfl; rfl; rfl; rfl; rfl; rfl; rfl; rfl; intro Bs) | (refine G.cvb hsn ?_) | (refine G.cvb hlg ?_) | (apply G.cV (g := 9); rfl; rfl; exact fun w' hw' => hfw _ w' (SlAt.ofBlk (f := rnV) (sz := 5) (l := [(⟨rf, rt, tab, adr, cap, lo, hi⟩ : Rn)]) (fun _ => rfl) hw' (by exact mm)) hw'.below) | (refine G.cvb hv ?_) | (refine G.cvb hv2 ?_) | (refine G.cvb hk ?_) | (refine G.cvb hk2 ?_) | (apply G.cO (g := 13) (fun u => .tuple #[u, .int .i64 KE]); rfl; rfl; exact fun w' hw => hct w' hw.below; intro u1; refine G.ownForm (i := 0) rfl ?_; intro a1 c1 hv1; subst hv1) | (apply G.cO (g := 14) (fun u => .agg #[u, .int .i64 KE]); rfl; rfl; exact fun w' hw => hct2 w' hw.below; intro u2; refine G.ownForm (i := 0) rfl ?_; intro a2 c2 hv2; subst hv2) | (apply G.cO (g := 15) (fun u => .tuple #[u, .int .i64 SE]); rfl; rfl; exact fun w' hw => hsc w' hw.below; intro u3; refine G.ownForm (i := 0) rfl ?_; intro a3 c3 hv3; subst hv3) | (apply G.cO (g := 16) (fun u => .agg #[u, .int .i64 SE]); rfl; rfl; exact fun w' hw => hsc2 w' hw.below; intro u4; refine G.ownForm (i := 0) rfl ?_; intro a4 c4 hv4; subst hv4) | (apply G.neR VQ VQ; rfl; rfl; rfl; all_goals intro h; all_goals try (exact absurd rfl h)) | (apply G.cV (g := 19) (vs := [.slice a1 KL.length c1, .slice a2 KL.length c2]); rfl; rfl; exact fun w' hw => sameOwn (L := KL) (hs1 w' hw.below) ho1 hw) | (apply G.cV (g := 19) (vs := [.slice a3 SL.length c3, .slice a4 SL.length c4]); rfl; rfl; exact fun w' hw => sameOwn (L := SL) (hs2 w' hw.below) ho2 hw)) <;> (refine go ?_; and_intros <;> (try exact trivial) <;> intros))
        refine J.loop (c := _) (0 : Nat) (fun s => l.length - s) (fun s => [(1, .slice b l.length d), (5, .pointer (some ⟨_, 0, none⟩)), (16, .int .i64 s)]) (fun s => [.blk _ 34 [.int .i64 rf, .int .i64 rt, .slice adr tab.length cap, .int .i64 lo, .int .i64 hi, .int .i64 st, .int .i64 x, .int .i64 y, .bool bn, .string (bs bnum), .string (bs bden)] 11]) (fun s => s ≤ l.length) ?_ sbT sbL ?_
        · exact Nat.zero_le _
        intro k h4 ih
        clear hfw hlg hv hv2 hk hk2 hct hct2 hsc hsc2 hs1 hs2 ho1 ho2
        by_cases h5 : k < l.length
        · by_cases h6 : k < 12
          · have g1 := hrt k h5
            have g2 := hrt2 k h5
            have g3 := htb k h5
            have g4 := htb2 k h5
            have hin := ih (k + 1) h5 (by omega)
            obtain ⟨bb, ob, rfl, hrb⟩ := SlAt.all hB.1 (by omega)
            have hrk := hrb k h5
            clear hrt hrt2 htb htb2 ih
            generalize l[k] = s0 at *
            generalize rateE s0 st = V at *
            generalize tableE ⟨rf, rt, tab, adr, cap, lo, hi⟩ s0 = W at *
            obtain ⟨V1, V2⟩ := V
            obtain ⟨W1, W2⟩ := W
            dsimp only [spA, spV] at *
            all_goals (refine goR ?_; and_intros <;> (try exact trivial) <;> intros)
            repeat' ((first | (refine G.cvb g1 ?_) | (refine G.cvb g2 ?_) | (refine G.cvb g3 ?_) | (refine G.cvb g4 ?_) | (apply G.neR V1 V1; rfl; rfl; rfl; all_goals intro h; all_goals try (exact absurd rfl h)) | (apply G.neR W1 W1; rfl; rfl; rfl; all_goals intro h; all_goals try (exact absurd rfl h)) | (apply J.regA (.q 0 <| .q 1 <| .q 2 <| .q 3 <| .q 4 <| .q 5 <| .q 6 <| .q 7 <| .q 8 <| .q 9 <| .e 10 <| .r 11 <| .q 12 <| .nil); exact Tryz.mixed; decide +kernel) | (apply J.regA (.q 0 <| .q 1 <| .q 2 <| .q 3 <| .q 4 <| .q 5 <| .q 6 <| .e 7 <| .r 8 <| .nil); exact Tryz.mixed; decide +kernel) | (apply J.regQ; exact Tryz.mixed; decide +kernel) | (apply J.regL'; exact Tryz.mixed; decide +kernel)) <;> (refine goR ?_; and_intros <;> (try exact trivial) <;> intros))
            exact J.finS hin
          · skip
            all_goals (refine go ?_; and_intros <;> (try exact trivial) <;> intros)
            repeat' ((first | (refine G.cvb hsn ?_)) <;> (refine go ?_; and_intros <;> (try exact trivial) <;> intros))
            all_goals refine ret1b Tryz.func3 Tryz.results3 ?_
            all_goals rfl
        · skip
          all_goals (refine go ?_; and_intros <;> (try exact trivial) <;> intros)
          repeat' ((first | (refine G.cvb hsn ?_)) <;> (refine go ?_; and_intros <;> (try exact trivial) <;> intros))
          all_goals refine ret1b Tryz.func3 Tryz.results3 ?_
          all_goals rfl
      · have q3 : 40 < By.num.length ∨ 40 < By.den.length := by
          rcases Nat.lt_or_ge 40 By.num.length with h | h
          · exact .inl h
          · rcases Nat.lt_or_ge 40 By.den.length with h' | h'
            · exact .inr h'
            · exact absurd ⟨h, h'⟩ h3
        obtain ⟨rf, rt, tab, adr, cap, lo, hi⟩ := r
        dsimp only at *
        rcases q3 with q3 | q3
        all_goals
          refine enterA [(0, .agg #[.int .i64 f, .slice a hs.length c]), (1, .slice b l.length d), (2, .agg #[.int .i64 rf, .int .i64 rt, .slice adr tab.length cap, .int .i64 lo, .int .i64 hi, .int .i64 st, .int .i64 x, .int .i64 y, .bool By.neg, .string (bs By.num), .string (bs By.den)])] Tryz.func3 Tryz.ntmps3 ?_
          all_goals (refine go ?_; and_intros <;> (try exact trivial) <;> intros)
          repeat' ((first | (apply G.sliceL; rfl; rfl; rfl; rfl; rfl; rfl; rfl; rfl; intro Bs) | (refine G.cvb hsn ?_) | (refine G.cvb hlg ?_) | (apply G.cV (g := 9); rfl; rfl; exact fun w' hw' => hfw _ w' (SlAt.ofBlk (f := rnV) (sz := 5) (l := [(⟨rf, rt, tab, adr, cap, lo, hi⟩ : Rn)]) (fun _ => rfl) hw' (by exact mm)) hw'.below)) <;> (refine go ?_; and_intros <;> (try exact trivial) <;> intros))
          all_goals
            all_goals refine ret1b Tryz.func3 Tryz.results3 ?_
            all_goals rfl
    · rw [decide_eq_false h2] at hfw
      obtain ⟨rf, rt, tab, adr, cap, lo, hi⟩ := r
      dsimp only at *
      refine enterA [(0, .agg #[.int .i64 f, .slice a hs.length c]), (1, .slice b l.length d), (2, .agg #[.int .i64 rf, .int .i64 rt, .slice adr tab.length cap, .int .i64 lo, .int .i64 hi, .int .i64 st, .int .i64 x, .int .i64 y, .bool By.neg, .string (bs By.num), .string (bs By.den)])] Tryz.func3 Tryz.ntmps3 ?_
      all_goals (refine go ?_; and_intros <;> (try exact trivial) <;> intros)
      repeat' ((first | (apply G.sliceL; rfl; rfl; rfl; rfl; rfl; rfl; rfl; rfl; intro Bs) | (refine G.cvb hsn ?_) | (refine G.cvb hlg ?_) | (apply G.cV (g := 9); rfl; rfl; exact fun w' hw' => hfw _ w' (SlAt.ofBlk (f := rnV) (sz := 5) (l := [(⟨rf, rt, tab, adr, cap, lo, hi⟩ : Rn)]) (fun _ => rfl) hw' (by exact mm)) hw'.below)) <;> (refine go ?_; and_intros <;> (try exact trivial) <;> intros))
      all_goals refine ret1b Tryz.func3 Tryz.results3 ?_
      all_goals rfl
end Go.Proofs.YthkdfpbjkpgckaaGreatDoor
/-
  How the arguments of the volume laws read.
-/
namespace Go.Sl
open Go.RowKit Go.ChangeShapes Go.WideShapes
theorem list1 {A : Type} {l : List A} (h : l.length = 1) : ∃ a, l = [a] := by
  match l, h with
  | [a], _ => exact ⟨a, rfl⟩
theorem Reads.struct1 {P : Program} {T : TypeId} {A1 : Type} {f1 : A1 → List Value} {G1 : World → A1 → Prop} {d1 : Field} {n : Nat} (ht : P.underlying T = some (.struct #[d1])) (hn : P.cellsOf T = n) (hT : tight P #[d1] n = true) (h1 : Reads P d1.type f1 G1) :
    Reads P T f1 G1 := .mk fun enc w fuel cs x hx => by
  obtain ⟨hj, hl, hf⟩ := Reads.struct ht hn hT hx
  obtain ⟨p1, hp⟩ := list1 hl
  rw [hp] at hj hf
  obtain ⟨_, _, r1⟩ := hf 0 d1 p1 rfl rfl
  obtain ⟨a1, rfl, g1⟩ := h1.go enc w _ _ _ r1
  exact ⟨a1, by rw [hj]; simp, g1⟩
end Go.Sl
namespace Go.Proofs.YthkdfpbjkpgckaaGreatDoor
open Go.RowKit Go.Sl Go.Num Go.ChangeShapes Go.WideShapes
theorem own : ownKnob Tryz.prog.godebug = none := by kernel_rfl
theorem laidOut : laidOutB Tryz.prog = true := by kernel_rfl
theorem rInt : Reads Tryz.prog 3 isV (fun _ _ => True) := (Reads.int Tryz.underlying3).mono fun _ _ _ => trivial
theorem rStr : Reads Tryz.prog 9 (fun l : List UInt8 => [.string (bs l)]) (fun _ _ => True) := (Reads.string Tryz.underlying9).turn fun _ s _ => ⟨s.data.toList, by rw [bs_of], trivial⟩
theorem rBool : Reads Tryz.prog 4 (fun b : Bool => [.bool b]) (fun _ _ => True) := Reads.bool Tryz.underlying4
theorem rRat : Reads Tryz.prog 32 (fun a : Q3 => [.bool a.neg, .string (bs a.num), .string (bs a.den)]) (fun _ _ => True) := (Reads.struct3 (n := 3) Tryz.underlying32 (by kernel_rfl) (by kernel_rfl) rBool rStr rStr).turn fun _ a _ => ⟨⟨a.1, a.2.1, a.2.2⟩, rfl, trivial⟩
theorem rPoint : Reads Tryz.prog 126 ptV (fun _ _ => True) := (Reads.struct2 (n := 4) Tryz.underlying126 (by kernel_rfl) (by kernel_rfl) rInt rRat).turn fun _ a _ => ⟨a, rfl, trivial⟩
theorem rPoints : Reads Tryz.prog 55 (fun s : Sld Pnt => [s.v]) (fun w s => SlAt w s.ad 4 (s.l.map ptV)) := (Reads.slice (sz := 4) Tryz.underlying55 (by kernel_rfl) (by decide) rPoint).mono fun _ _ h => h.1
theorem rCurve : Reads Tryz.prog 57 (fun s : Sld Pnt => [s.v]) (fun w s => SlAt w s.ad 4 (s.l.map ptV)) := Reads.struct1 (n := 1) Tryz.underlying57 (by kernel_rfl) (by kernel_rfl) rPoints
theorem rSpan : Reads Tryz.prog 59 spV PtsAt := (Reads.struct5 (n := 7) Tryz.underlying59 (by kernel_rfl) (by kernel_rfl) rInt rInt rRat rInt rCurve).turn fun _ a h => ⟨⟨a.1, a.2.1, a.2.2.1, a.2.2.2.1, a.2.2.2.2.l, a.2.2.2.2.ad, a.2.2.2.2.cap⟩, rfl, h.2.2.2.2⟩
theorem rSpans : Reads Tryz.prog 25 (fun s : Sld Spn => [s.v]) (fun w s => SpansAt w s.ad s.l) := (Reads.slice (sz := 7) Tryz.underlying25 (by kernel_rfl) (by decide) rSpan).mono fun _ _ h => ⟨h.1, h.2.2.2⟩
theorem rHold : Reads Tryz.prog 88 hoV (fun _ _ => True) := (Reads.struct2 (n := 2) Tryz.underlying88 (by kernel_rfl) (by kernel_rfl) rInt rInt).turn fun _ a _ => ⟨a, rfl, trivial⟩
theorem rHolds : Reads Tryz.prog 26 (fun s : Sld (Int × Int) => [s.v]) (fun w s => SlAt w s.ad 2 (s.l.map hoV)) := (Reads.slice (sz := 2) Tryz.underlying26 (by kernel_rfl) (by decide) rHold).mono fun _ _ h => h.1
theorem rRun : Reads Tryz.prog 28 rnV TabAt := (Reads.struct5 (n := 5) Tryz.underlying28 (by kernel_rfl) (by kernel_rfl) rInt rInt rHolds rInt rInt).turn fun _ a h => ⟨⟨a.1, a.2.1, a.2.2.1.l, a.2.2.1.ad, a.2.2.1.cap, a.2.2.2.1, a.2.2.2.2⟩, rfl, h.2.2.1⟩
theorem rRuns : Reads Tryz.prog 37 (fun s : Sld Rn => [s.v]) (fun w s => RunsAt w s.ad s.l) := (Reads.slice (sz := 5) Tryz.underlying37 (by kernel_rfl) (by decide) rRun).mono fun _ _ h => ⟨h.1, h.2.2.2⟩
theorem rInts : Reads Tryz.prog 22 (fun s : Sld Int => [s.v]) (fun w s => SlAt w s.ad 1 (s.l.map isV) ∧ s.l.length ≤ s.cap) := (Reads.slice (sz := 1) Tryz.underlying22 (by kernel_rfl) (by decide) rInt).mono fun _ _ h => ⟨h.1, h.2.1⟩
theorem rHist : Reads Tryz.prog 24 (fun a : Int × Sld Int => [.int .i64 a.1, a.2.v]) (fun w a => SlAt w a.2.ad 1 (a.2.l.map isV) ∧ a.2.l.length ≤ a.2.cap) := (Reads.struct2 (n := 2) Tryz.underlying24 (by kernel_rfl) (by kernel_rfl) rInt rInts).turn fun _ a h => ⟨a, rfl, h.2⟩
theorem rTicks : Reads Tryz.prog 30 (fun a : Int × Int => [.int .i64 a.1, .int .i64 a.2]) (fun _ _ => True) := (Reads.struct2 (n := 2) Tryz.underlying30 (by kernel_rfl) (by kernel_rfl) rInt rInt).turn fun _ a _ => ⟨a, rfl, trivial⟩
theorem rRest : Reads Tryz.prog 34 (fun a : Rn × Int × (Int × Int) × Q3 => rnV a.1 ++ [.int .i64 a.2.1, .int .i64 a.2.2.1.1, .int .i64 a.2.2.1.2, .bool a.2.2.2.neg, .string (bs a.2.2.2.num), .string (bs a.2.2.2.den)]) (fun w a => TabAt w a.1) := (Reads.struct4 (n := 11) Tryz.underlying34 (by kernel_rfl) (by kernel_rfl) rRun rInt rTicks rRat).turn fun _ a h => ⟨a, rfl, h.1⟩
end Go.Proofs.YthkdfpbjkpgckaaGreatDoor
/-
  The law VolumeExactAsSpecified holds: for every input the call returns true, and the arguments read afterwards as they read before.
-/
namespace Go.Proofs.YthkdfpbjkpgckaaGreatDoor
open Go.RowKit Go.Sl Go.ChangeShapes Go.WideShapes Go.ChangeAt
abbrev laidL : List (String × DataW Unit) := [("unicode/utf8.acceptRanges", Rows.laid_unicode_utf8_acceptRanges), ("unicode/utf8.first", Rows.laid_unicode_utf8_first)]
set_option maxRecDepth 100000 in
theorem lifted4 (os : Os) (started : os.Started) (H : Type) (enc : TypeId × Value → H) :
    ReturnsInHanded {} Tryz.checked os 4 .any (fun w args => (Rows.volumeExactAsSpecifiedSpec.pre enc Tryz.prog Tryz.f4 [] false w args ∧ laidMetH Tryz.prog laidL w) ∧ sizedMet enc Tryz.prog Tryz.f4 (OpenSpec.ofChange Rows.volumeExactAsSpecifiedSpec) false w args)
      (Rows.volumeExactAsSpecifiedSpec.post enc Tryz.prog Tryz.f4 false true false false) := by
  refine returnsInHanded_of_change_and (C := Tryz.checked) (X := fun w _ => laidMetH Tryz.prog laidL w) (fun _ _ _ hh h => h.of_heap hh) own started (by kernel_rfl) Tryz.func4
    (ChangeSpec.witness_shaped (enc := enc) (C := Tryz.checked) (os := os) (X := fun w _ => laidMetH Tryz.prog laidL w) false (World.laidAll Tryz.prog os laidL) #[.slice none 0 0, .slice none 0 0] 8 (World.laidAll_os _ _ _)
      (World.shaped_of_ZipB (by kernel_rfl) (by kernel_rfl)) (by kernel_rfl) (by kernel_rfl) (by kernel_rfl)
      (by rw [MakeChecks.laidMetH_plain _ _ _ (by kernel_rfl)]; exact laidMet_laidAll _ (by kernel_rfl) (by kernel_rfl))) ?_
  intro W base args ds gs before hval0 hW _ _ hL _
  have hval : ∀ (j : Nat) t v, Tryz.f4.params[j]? = some t → args[j]? = some v → Value.okWide Tryz.prog W .any base t v := hval0
  have hW' := hW
  obtain ⟨p, q, hA0, hV, rfl, hfz, hnd⟩ := hW
  have hA : DataW.TrodAll enc Tryz.prog W 0 (fun _ => true) true Tryz.f4.params.toList args.toList ds p := hA0
  rw [Tryz.params4] at hA hval
  obtain ⟨v0, vs0, d0, ds0, p0, q0, hargs, rfl, rfl, h0, r0⟩ := trodAll_cons hA
  obtain ⟨v1, vs1, d1, ds1, p1, q1, rfl, rfl, rfl, h1, r1⟩ := trodAll_cons r0
  obtain ⟨rfl, rfl, rfl⟩ := trodAll_nil r1
  obtain rfl : args = #[v0, v1] := by cases args; simp_all
  obtain ⟨rfl, rfl⟩ := trodVars_none hV
  have lt : ∀ {t v d ps}, DataW.Trod enc Tryz.prog W 0 (fun _ => true) true t v d ps → ∀ x ∈ ps, x.block < W.heap.size := fun h => by obtain ⟨m, hm⟩ := h; exact DataW.trod_lt m _ _ _ hm
  obtain ⟨s0, rfl, g0⟩ := rRuns.argSlice Tryz.underlying37 (hval 0 37 v0 rfl rfl) h0
  obtain ⟨s1, rfl, g1⟩ := rSpans.argSlice Tryz.underlying25 (hval 1 25 v1 rfl rfl) h1
  clear hA0 hval0
  refine (law4_holds s0.ad s1.ad s0.l s1.l s0.cap s1.cap W g0 g1).mono fun e W' ⟨he, bel⟩ => ?_
  subst he
  have back : ∀ {t v d ps}, Tryz.prog.readableRec t = true → t < Tryz.prog.types.size → DataW.Trod enc Tryz.prog W 0 (fun _ => true) true t v d ps → DataW.Trod enc Tryz.prog W' 0 (fun b => decide (b < W.heap.size)) true t v d ps := fun hr ht h => Below.trod laidOut hr ht h bel (lt h)
  exact ⟨_, rfl, _, _, _, [], _, [], hW', trodAll_mk1 (shut_bool Tryz.underlying4 _), (trodAll_cons_mk (back (by kernel_rfl) (of_decide_eq_true (by kernel_rfl)) h0) (trodAll_cons_mk (back (by kernel_rfl) (of_decide_eq_true (by kernel_rfl)) h1) trodAll_mk0)), rfl, bel.frame _, fun h => by cases h⟩
theorem VolumeExactAsSpecified_said : Rows.VolumeExactAsSpecifiedSaid :=
  OpenClaim.holds_of_wide 4 Tryz.f4 rfl rfl rfl rfl rfl rfl rfl ⟨rfl, rfl, rfl, rfl, rfl⟩ rfl rfl rfl rfl rfl (by kernel_rfl) Tryz.func4 (by kernel_rfl)
    (of_decide_eq_true (by kernel_rfl)) (by unfold Func.isWrapper; first | (rw [if_pos (by decide +kernel)]; kernel_rfl) | (rw [if_neg (by decide +kernel)]; exact ⟨rfl, rfl⟩))
    (fun os started H enc _ => lifted4 os started H enc)
end Go.Proofs.YthkdfpbjkpgckaaGreatDoor
