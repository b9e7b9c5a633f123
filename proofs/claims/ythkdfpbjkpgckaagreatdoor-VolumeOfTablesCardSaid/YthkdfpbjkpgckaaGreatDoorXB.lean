/-
  Contract of the law: volumes are linear.
-/
import Derived.Test.YthkdfpbjkpgckaaGreatDoorXA
set_option linter.unusedVariables false
set_option linter.unusedSimpArgs false
set_option linter.unusedSectionVars false
namespace Go.Proofs.YthkdfpbjkpgckaaGreatDoor
open Go.RowKit Go.Sl Go.Num
section
variable {C : Ctx} {st : List (Nat × Value)} {M : List Row} {k : List Item} {q q' : Md} {all rest : List Oper} {d : Nat} {ty : TypeId} {pos : String} {after : Array Edge} {gd : Option (Nat × Bool)}
/-- Runs that nobody writes. -/
def runsRow (N : Nat) (a : Option Addr) (L : List Rn) : Row :=
  .fact N (fun b => slSup N a (L.map rnV) b ∨ ∃ r ∈ L, slSup N r.adr (r.tab.map hoV) b) (fun w => RunsAt w a L) fun w w' h hw =>
    ⟨slKeep w w' (fun b hb => h b (hb.imp id .inl)) hw.1, fun r hr => slKeep w w' (fun b hb => h b (hb.imp id fun hb => .inr ⟨r, hr, hb⟩)) (hw.2 r hr)⟩
theorem satRuns {w0 w : World} {N : Nat} {a : Option Addr} {L : List Rn} (h : Sat w0 M w) (hm : runsRow N a L ∈ M := by (repeat (first | exact List.Mem.head _ | apply List.Mem.tail))) : RunsAt w a L := h.hold _ hm
theorem supNew {C : Ctx} {M : List Row} {w w' : World} {sz : Nat} {a : Option Addr} {L : List (List Value)} {b : Nat} (hw : Sat C.w0 M w) (h1 : SlAt w' a sz L) (h2 : ∀ p, a = some p → w.heap.size ≤ p.block) (hb : slSup C.w0.heap.size a L b) : C.w0.heap.size ≤ b ∧ b < w'.heap.size ∧ ∀ r ∈ M, ¬ r.lock b := by
  obtain ⟨h0, p, h5, h6, h7⟩ := hb
  obtain ⟨b', off, h8, hr⟩ := h1 h0
  have hlt := (hr 0 _ (List.getElem?_eq_getElem h0)).1
  have := h2 p h5
  rw [h5] at h8; cases h8
  simp only at h6 this
  subst h6
  exact ⟨h7, hlt, hw.free (.inr (.inl this)) h7⟩
/-- A call that makes runs. -/
theorem G.cRuns {g : FuncId} {args : List Operand} {vs : List Value} {at_ : Array TypeId} (v : List Rn → Option Addr → Nat → Value) (P : List Rn → Prop) (ha : evL st args = some vs) (hs : sideB all st gd d C.N q.ext = some q') [hF : Fun C.P g]
    (hc : ∀ w, Sat C.w0 M w → Calls C.P g vs.toArray w fun e w' => ∃ L a' c', P L ∧ e = .returned (v L a' c') ∧ RunsAt w' a' L ∧ (∀ p, a' = some p → w.heap.size ≤ p.block) ∧ newR w.heap.size L ∧ Below w.heap.size w w')
    (h : ∀ L a' c', P L → G q' C all ((d, v L a' c') :: st) (runsRow C.w0.heap.size a' L :: M) rest k) :
    G q C all st M ({ dst := some d, op := .call { callee := .value (.func g), args := args.toArray, argTypes := at_ }, type := ty, pos, after, guard := gd } :: rest) k := by
  obtain ⟨g1, g2, g3⟩ := sideB_ok hs
  refine G.call0 (X := { x : List Rn × Option Addr × Nat // P x.1 }) (v := fun x => v x.1.1 x.1.2.1 x.1.2.2) (Mn := fun x => [runsRow C.w0.heap.size x.1.2.1 x.1.1]) g1 g2 g3 ha (fun w hw => (hc w hw).mono fun e w' he => ?_) fun x => h x.1.1 x.1.2.1 x.1.2.2 x.2
  obtain ⟨L, a', c', hP, rfl, h1, h2, h3, h4⟩ := he
  refine ⟨⟨(L, a', c'), hP⟩, rfl, (hw.ext h4).addFact (Nat.le_refl _) h1 fun b hb => ?_⟩
  have hw' := hw.ext h4
  rcases hb with hb | ⟨r, hr, hb⟩
  · have := supNew hw h1.1 h2 hb
    exact this
  · have := supNew hw (h1.2 r hr) (h3 r hr) hb
    exact this
end
theorem fewQ_volSum {l : List Spn} (hf : ∀ s ∈ l, fewS s) (hR : ∀ s ∈ l, RightS s) : ∀ (hs : List Int) (f : Int), (∀ x ∈ hs, 0 ≤ x ∧ x ≤ 1000) → fewQ (1 + 141 * hs.length) (rQ (volSum l f hs))
  | [], _, _ => fewQ_zero
  | x :: hs, f, h => by
    have h1 := fewQ_volSum hf hR hs (f + 1) fun y hy => h y (List.mem_cons_of_mem _ hy)
    have h2 := h x (List.mem_cons_self ..)
    rw [volSum]
    exact fewQ_le (fewQ_add (fewQ_worth hf hR h2.1 h2.2) h1 (by decide) (by omega)) (by rw [List.length_cons]; omega)
theorem fewS_cut {x y : Int} : ∀ {l : List Spn}, (∀ s ∈ l, fewS s) → ∀ s ∈ cutL x y l, fewS s
  | [], _, s, hs => by cases hs
  | s0 :: l, h, s, hs => by
    have h1 := fewS_cut (x := x) (y := y) fun t ht => h t (List.mem_cons_of_mem s0 ht)
    rw [cutL] at hs
    split at hs
    · rcases List.mem_cons.1 hs with rfl | hs
      · exact h s0 (List.mem_cons_self ..)
      · exact h1 s hs
    · exact h1 s hs
theorem valOwn {w0 w : World} {M : List Row} {f : Int} {a : Option Addr} {hs : List Int} {c : Nat} {L : List Spn} {u : Value} {Q : Q3} (hA : SlAt w a 1 (hs.map isV)) (hP : ∀ s ∈ L, PtsAt w s) (hf : ∀ s ∈ L, fewS s) (hl : hs.length ≤ 1000) (hc : hs.length ≤ c)
    (hV : volE f hs L = (Q, 0)) (hw : Sat w0 M w) (h1 : Row.own 0 u 59 7 L.length (flat spV L) ∈ M := by (repeat (first | exact List.Mem.head _ | apply List.Mem.tail))) :
    Calls Tryz.prog 11 #[.agg #[.int .i64 f, .slice a hs.length c], u] w fun e w' => e = .returned (.tuple #[qA Q, .int .i64 0]) ∧ Below w.heap.size w w' := by
  obtain ⟨a', c', rfl, k⟩ := ownAt hw h1
  have := val_holds f a a' hs L c c' w hA ⟨k, hP⟩ hf hl hc
  rw [hV] at this; exact this
set_option maxHeartbeats 4000000 in
theorem law5_holds (f : Int) (a b : Option Addr) (hs : List Int) (l : List Spn) (c d : Nat) (rf rt : Int) (tab : List (Int × Int)) (adr : Option Addr) (cap : Nat) (lo hi st x y : Int) (bn : Bool) (bnum bden : List UInt8) (w : World) (hA : SlAt w a 1 (hs.map isV)) (hc : hs.length ≤ c) (hB : SpansAt w b l) :
    Calls Tryz.prog 5 #[.agg #[.int .i64 f, .slice a hs.length c], .slice b l.length d, .agg #[.int .i64 rf, .int .i64 rt, .slice adr tab.length cap, .int .i64 lo, .int .i64 hi, .int .i64 st, .int .i64 x, .int .i64 y, .bool bn, .string (bs bnum), .string (bs bden)]] w fun e w' => e = .returned (.bool true) ∧ Below w.heap.size w w' := by
  have hsn := fun w' (_ : Below w.heap.size w w') => sanity_holds w'
  have hlg := fun w' (_ : Below w.heap.size w w') => long_holds f a hs c w'
  have hfw := fun w' (hb : Below w.heap.size w w') => few_holds b l d 12 w' (hB.below hb)
  by_cases a0 : 60 < hs.length
  · rw [decide_eq_true a0] at hlg
    refine enterA [(0, .agg #[.int .i64 f, .slice a hs.length c]), (1, .slice b l.length d), (2, .agg #[.int .i64 rf, .int .i64 rt, .slice adr tab.length cap, .int .i64 lo, .int .i64 hi, .int .i64 st, .int .i64 x, .int .i64 y, .bool bn, .string (bs bnum), .string (bs bden)])] Tryz.func5 Tryz.ntmps5 ?_
    all_goals (refine go ?_; and_intros <;> (try exact trivial) <;> intros)
    repeat' ((first | (refine G.cvb hsn ?_) | (refine G.cvb hlg ?_)) <;> (refine go ?_; and_intros <;> (try exact trivial) <;> intros))
    all_goals refine ret1b Tryz.func5 Tryz.results5 ?_
    all_goals rfl
  rw [decide_eq_false a0] at hlg
  by_cases a1 : ¬ fewL 12 l
  · rw [decide_eq_false a1] at hfw
    refine enterA [(0, .agg #[.int .i64 f, .slice a hs.length c]), (1, .slice b l.length d), (2, .agg #[.int .i64 rf, .int .i64 rt, .slice adr tab.length cap, .int .i64 lo, .int .i64 hi, .int .i64 st, .int .i64 x, .int .i64 y, .bool bn, .string (bs bnum), .string (bs bden)])] Tryz.func5 Tryz.ntmps5 ?_
    all_goals (refine go ?_; and_intros <;> (try exact trivial) <;> intros)
    repeat' ((first | (refine G.cvb hsn ?_) | (refine G.cvb hlg ?_) | (refine G.cvb hfw ?_)) <;> (refine go ?_; and_intros <;> (try exact trivial) <;> intros))
    all_goals refine ret1b Tryz.func5 Tryz.results5 ?_
    all_goals rfl
  rw [Decidable.not_not] at a1
  rw [decide_eq_true a1] at hfw
  by_cases a2 : 12 < l.length ∨ 40 < bnum.length ∨ 40 < bden.length
  · rcases a2 with a2 | a2 | a2
    all_goals
      refine enterA [(0, .agg #[.int .i64 f, .slice a hs.length c]), (1, .slice b l.length d), (2, .agg #[.int .i64 rf, .int .i64 rt, .slice adr tab.length cap, .int .i64 lo, .int .i64 hi, .int .i64 st, .int .i64 x, .int .i64 y, .bool bn, .string (bs bnum), .string (bs bden)])] Tryz.func5 Tryz.ntmps5 ?_
      all_goals (refine go ?_; and_intros <;> (try exact trivial) <;> intros)
      repeat' ((first | (refine G.cvb hsn ?_) | (refine G.cvb hlg ?_) | (refine G.cvb hfw ?_)) <;> (refine go ?_; and_intros <;> (try exact trivial) <;> intros))
      all_goals refine ret1b Tryz.func5 Tryz.results5 ?_
      all_goals rfl
  rw [not_or, not_or] at a2
  have hQ : fewQ 40 ⟨bn, bnum, bden⟩ := ⟨by show bnum.length ≤ 40; omega, by show bden.length ≤ 40; omega⟩
  have hvd := fun w' (_ : Below w.heap.size w w') => ratValid_holds ⟨bn, bnum, bden⟩ w' (fewQ_le hQ (by decide)).1 (fewQ_le hQ (by decide)).2
  dsimp only [qA] at hvd
  obtain ⟨a2, a3, a4⟩ := a2
  by_cases a5 : ¬ validQ ⟨bn, bnum, bden⟩
  · rw [decide_eq_false a5] at hvd
    refine enterA [(0, .agg #[.int .i64 f, .slice a hs.length c]), (1, .slice b l.length d), (2, .agg #[.int .i64 rf, .int .i64 rt, .slice adr tab.length cap, .int .i64 lo, .int .i64 hi, .int .i64 st, .int .i64 x, .int .i64 y, .bool bn, .string (bs bnum), .string (bs bden)])] Tryz.func5 Tryz.ntmps5 ?_
    all_goals (refine go ?_; and_intros <;> (try exact trivial) <;> intros)
    repeat' ((first | (refine G.cvb hsn ?_) | (refine G.cvb hlg ?_) | (refine G.cvb hfw ?_) | (refine G.cvb hvd ?_)) <;> (refine go ?_; and_intros <;> (try exact trivial) <;> intros))
    all_goals refine ret1b Tryz.func5 Tryz.results5 ?_
    all_goals rfl
  rw [Decidable.not_not] at a5
  rw [decide_eq_true a5] at hvd
  have hf := a1.ok
  have hv := fun w' (hb : Below w.heap.size w w') => val_holds f a b hs l c d w' (hA.below hb) (hB.below hb) hf (by omega) hc
  by_cases a6 : ¬ (volE f hs l).2 = 0
  · generalize volE f hs l = V at *
    obtain ⟨VQ, VE⟩ := V
    dsimp only [qA] at *
    refine enterA [(0, .agg #[.int .i64 f, .slice a hs.length c]), (1, .slice b l.length d), (2, .agg #[.int .i64 rf, .int .i64 rt, .slice adr tab.length cap, .int .i64 lo, .int .i64 hi, .int .i64 st, .int .i64 x, .int .i64 y, .bool bn, .string (bs bnum), .string (bs bden)])] Tryz.func5 Tryz.ntmps5 ?_
    all_goals (refine goR ?_; and_intros <;> (try exact trivial) <;> intros)
    repeat' ((first | (refine G.cvb hsn ?_) | (refine G.cvb hlg ?_) | (refine G.cvb hfw ?_) | (refine G.cvb hvd ?_) | (refine G.cvb hv ?_) | (apply J.regA (.q 0 <| .q 1 <| .q 2 <| .q 3 <| .q 4 <| .q 5 <| .e 6 <| .r 7 <| .q 8 <| .nil); exact Tryz.mixed; decide +kernel) | (apply J.regQ; exact Tryz.mixed; decide +kernel) | (apply J.regL'; exact Tryz.mixed; decide +kernel)) <;> (refine goR ?_; and_intros <;> (try exact trivial) <;> intros))
    all_goals refine ret1b Tryz.func5 Tryz.results5 ?_
    all_goals rfl
  rw [Decidable.not_not] at a6
  have ⟨g1, g2, g3, g4⟩ := volE_ok a6
  obtain ⟨j1, j2⟩ := rightH_ok g2
  have ⟨_, hR⟩ := spansErr_ok g1
  have hl : InOrd 0 l := inOrd_of (by rw [spansErr] at g1; split at g1 <;> first | cases g1 | exact g1)
  have j3 : ∀ z ∈ hs, 0 ≤ z ∧ z ≤ 1000 := fun z hz => by obtain ⟨i, hi, rfl⟩ := List.getElem_of_mem hz; exact j2 i hi
  have e1 : cutE 0 (f + min (max st 0) hs.length) l = (cutL 0 (f + min (max st 0) hs.length) l, 0) := by rw [cutE, g1, if_neg (by decide), if_neg (by rw [badT]; omega)]
  have e2 : cutE (f + min (max st 0) hs.length) 1402560 l = (cutL (f + min (max st 0) hs.length) 1402560 l, 0) := by rw [cutE, g1, if_neg (by decide), if_neg (by rw [badT]; omega)]
  have e3 : scaleE ⟨bn, bnum, bden⟩ l = (l.map (scaleS (qR ⟨bn, bnum, bden⟩)), 0) := by rw [scaleE, g1, if_neg (by decide), if_neg (fun h => h a5)]
  have v1 := volE_cut (x := 0) (y := (f + min (max st 0) hs.length)) (Int.le_refl 0) a6
  have v2 := volE_cut (x := (f + min (max st 0) hs.length)) (y := 1402560) (by omega) a6
  have v3 := volE_scale (q := qR ⟨bn, bnum, bden⟩) a6
  have hct1 := fun w' (hb : Below w.heap.size w w') => vCut_holds b l d 0 (f + min (max st 0) hs.length) w' (hB.below hb) hf
  have hct2 := fun w' (hb : Below w.heap.size w w') => vCut_holds b l d (f + min (max st 0) hs.length) 1402560 w' (hB.below hb) hf
  have hsc := fun w' (hb : Below w.heap.size w w') => vScale_holds b l d ⟨bn, bnum, bden⟩ w' (hB.below hb) hf hQ
  have p1 : ∀ w', Below w.heap.size w w' → ∀ s ∈ (cutE 0 (f + min (max st 0) hs.length) l).1, PtsAt w' s := fun w' hb => cut_at (hB.below hb)
  have p2 : ∀ w', Below w.heap.size w w' → ∀ s ∈ (cutE (f + min (max st 0) hs.length) 1402560 l).1, PtsAt w' s := fun w' hb => cut_at (hB.below hb)
  have p3 : ∀ w', Below w.heap.size w w' → ∀ s ∈ (scaleE ⟨bn, bnum, bden⟩ l).1, PtsAt w' s := fun w' hb => scale_at (hB.below hb)
  have k1 := fewS_cut (x := 0) (y := (f + min (max st 0) hs.length)) hf
  have k2 := fewS_cut (x := (f + min (max st 0) hs.length)) (y := 1402560) hf
  have k3 : ∀ s ∈ l.map (scaleS (qR ⟨bn, bnum, bden⟩)), fewS s := fun s hs => by
    obtain ⟨s0, h1, rfl⟩ := List.mem_map.1 hs
    exact ⟨(hf s0 h1).1, fewQ_mul (fewQ_valid (a1.2 s0 h1).2) (fewQ_valid hQ) (by decide) (by decide)⟩
  have z1 := fewQ_volSum k1 (right_cut (Int.le_refl 0) hR) hs f j3
  have z2 := fewQ_volSum k2 (right_cut (by omega) hR) hs f j3
  have z3 := fewQ_volSum hf hR hs f j3
  have hadd := fun w' (_ : Below w.heap.size w w') => ratAdd_holds (rQ (volSum (cutL 0 (f + min (max st 0) hs.length) l) f hs)) (rQ (volSum (cutL (f + min (max st 0) hs.length) 1402560 l) f hs)) w' (Nat.le_trans z1.1 (by omega)) (Nat.le_trans z1.2 (by omega)) (Nat.le_trans z2.1 (by omega)) (Nat.le_trans z2.2 (by omega))
  have hmul := fun w' (_ : Below w.heap.size w w') => ratMul_holds (rQ (volSum l f hs)) ⟨bn, bnum, bden⟩ w' (Nat.le_trans z3.1 (by omega)) (Nat.le_trans z3.2 (by omega)) (fewQ_le hQ (by decide)).1 (fewQ_le hQ (by decide)).2
  simp only [qR_rQ, volSum_cut hl hs f j1.2.1 (show f + hs.length ≤ 1402560 by omega)] at hadd
  simp only [qR_rQ] at hmul
  have hof := fun w' (hb : Below w.heap.size w w') => ofRuns_holds f a hs c w' (hA.below hb) (by omega) g2
  have hex : ∀ (L : List Rn) a5 c5 w', (RawsOf L (ofL f hs []) ∧ L.length ≤ 60) → RunsAt w' a5 L → Below w.heap.size w w' → Calls Tryz.prog 24 #[.slice a5 L.length c5, .slice b l.length d] w' fun e w'' => e = .returned (.tuple #[qA (rQ (volSum l f hs)), .int .i64 0]) ∧ Below w'.heap.size w' w'' := fun L a5 c5 w' hL hr hb => by
    have := exact_holds a5 b L l c5 d w' hr (hB.below hb) hf (fun r hr => by rw [(hL.1.2 r hr).1]; exact (by decide : 1 ≤ 64)) (by omega)
    rw [raw_ex hL.1 (by omega) a6, g4] at this
    exact this
  simp only [e1] at hct1 p1
  simp only [e2] at hct2 p2
  simp only [e3] at hsc p3
  simp only [g4] at hv
  clear e1 e2 e3 g4 z1 z2 z3 hR hl a1 j2 j3 g3
  generalize cutL 0 (f + min (max st 0) hs.length) l = K1 at *
  generalize cutL (f + min (max st 0) hs.length) 1402560 l = K2 at *
  generalize l.map (scaleS (qR ⟨bn, bnum, bden⟩)) = K3 at *
  generalize rQ (volSum K1 f hs) = Q1 at *
  generalize rQ (volSum K2 f hs) = Q2 at *
  generalize rQ (volSum l f hs * qR ⟨bn, bnum, bden⟩) = Q3' at *
  generalize rQ (volSum l f hs) = Q0 at *
  dsimp only [qA] at hadd hmul hv hsc
  refine enterA [(0, .agg #[.int .i64 f, .slice a hs.length c]), (1, .slice b l.length d), (2, .agg #[.int .i64 rf, .int .i64 rt, .slice adr tab.length cap, .int .i64 lo, .int .i64 hi, .int .i64 st, .int .i64 x, .int .i64 y, .bool bn, .string (bs bnum), .string (bs bden)])] Tryz.func5 Tryz.ntmps5 ?_
  all_goals (refine goR ?_; and_intros <;> (try exact trivial) <;> intros)
  repeat' ((first | (refine G.cvb hsn ?_) | (refine G.cvb hlg ?_) | (refine G.cvb hfw ?_) | (refine G.cvb hvd ?_) | (refine G.cvb hv ?_) | (apply J.regA (.q 0 <| .q 1 <| .q 2 <| .q 3 <| .q 4 <| .q 5 <| .e 6 <| .r 7 <| .q 8 <| .nil); exact Tryz.mixed; decide +kernel) | (apply G.cO (g := 13) (vs := [.slice b l.length d, .agg #[.int .i64 0, .int .i64 (f + min (max st 0) hs.length)]]) (fun u => .tuple #[u, .int .i64 0]); rfl; rfl; exact fun w' hw => hct1 w' hw.below; intro u1) | (apply G.cO (g := 13) (vs := [.slice b l.length d, .agg #[.int .i64 (f + min (max st 0) hs.length), .int .i64 1402560]]) (fun u => .tuple #[u, .int .i64 0]); rfl; rfl; exact fun w' hw => hct2 w' hw.below; intro u2) | (apply G.cO (g := 15) (fun u => .tuple #[u, .int .i64 0]); rfl; rfl; exact fun w' hw => hsc w' hw.below; intro u3) | (apply G.cV (g := 11) (vs := [.agg #[.int .i64 f, .slice a hs.length c], u1]); rfl; rfl; exact fun w' hw => valOwn (L := K1) (hA.below hw.below) (p1 w' hw.below) k1 (by omega) hc v1 hw) | (apply G.cV (g := 11) (vs := [.agg #[.int .i64 f, .slice a hs.length c], u2]); rfl; rfl; exact fun w' hw => valOwn (L := K2) (hA.below hw.below) (p2 w' hw.below) k2 (by omega) hc v2 hw) | (apply G.cV (g := 11) (vs := [.agg #[.int .i64 f, .slice a hs.length c], u3]); rfl; rfl; exact fun w' hw => valOwn (L := K3) (hA.below hw.below) (p3 w' hw.below) k3 (by omega) hc v3 hw) | (apply G.cRuns (g := 28) (fun L a' c' => .tuple #[.slice a' L.length c', .int .i64 0]) (fun L => RawsOf L (ofL f hs []) ∧ L.length ≤ 60); rfl; rfl; exact fun w' hw => (hof w' hw.below).mono fun e w'' ⟨L, a', c', h1, h2, _, h4, h5, h6, h7, h8⟩ => ⟨L, a', c', ⟨h1, by omega⟩, h2, h5, h6, h7, h8⟩; intro L a5 c5 hL) | (apply G.cV (g := 24) (vs := [.slice a5 L.length c5, .slice b l.length d]); rfl; rfl; exact fun w' hw => hex L a5 c5 w' hL (satRuns hw) hw.below) | (refine G.cvb hadd ?_) | (refine G.cvb hmul ?_) | (apply G.eqR Q0 Q0; rfl; rfl; rfl; all_goals intro h; all_goals try (exact absurd rfl h)) | (apply G.eqR Q3' Q3'; rfl; rfl; rfl; all_goals intro h; all_goals try (exact absurd rfl h)) | (apply J.regQ; exact Tryz.mixed; decide +kernel) | (apply J.regL'; exact Tryz.mixed; decide +kernel)) <;> (refine goR ?_; and_intros <;> (try exact trivial) <;> intros))
  all_goals refine ret1b Tryz.func5 Tryz.results5 ?_
  all_goals rfl
end Go.Proofs.YthkdfpbjkpgckaaGreatDoor
