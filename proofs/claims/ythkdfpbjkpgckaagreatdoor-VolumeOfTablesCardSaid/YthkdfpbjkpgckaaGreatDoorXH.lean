/-
  Contract of the law: volumes of duration tables.
-/
import Derived.Test.YthkdfpbjkpgckaaGreatDoorXG
import Derived.Test.YthkdfpbjkpgckaaGreatDoorXB
import Derived.Test.YthkdfpbjkpgckaaGreatDoorSq
set_option linter.unusedVariables false
set_option linter.unusedSimpArgs false
set_option linter.unusedSectionVars false
namespace Go.Proofs.YthkdfpbjkpgckaaGreatDoor
open Go.RowKit Go.Sl Go.Num
attribute [local irreducible] tabT
def partV (p : Nat × Spn) : List Value := .int .u8 p.1 :: spV p.2
theorem partV_len (p : Nat × Spn) : (partV p).length = 8 := rfl
theorem PtsOk.agree {f : Int} {T : List Int} {L : List Rn} {l : List Spn} (hp : PtL f T L l) (h : PtsOk f T L l) (hf : 0 ≤ f) (hn : T.length ≤ 1000) (hb : f + T.length ≤ 1402560) (hL : L.length ≤ 100) (hr : ∀ y ∈ T, 0 ≤ y ∧ y ≤ 1000) : agreeB L f T = true := by
  have h2 : rightH f T = true := by
    rw [rightH, decide_eq_true (by omega), Bool.true_and]
    have h3 : T.any badSt = false := List.any_eq_false.2 fun y hy => by rw [badSt, decide_eq_true (hr y hy)]; decide
    rw [h3]; rfl
  rw [agreeB, if_neg (by rw [h.runs hf hn hb hL, h2]; simp)]
  rcases Nat.eq_zero_or_pos L.length with hz | hz
  · rw [List.getElem?_eq_none (by omega)]
    show decide (T.length = 0) = true
    rw [h.nil hz]; rfl
  · rw [List.getElem?_eq_getElem hz, List.getElem?_eq_getElem (show L.length - 1 < L.length by omega)]
    have h4 := h.fin hz
    have h3 : L[0].from_ = f := by
      have := h.chn
      cases L with
      | nil => cases hz
      | cons r t => exact this.1
    dsimp only
    rw [if_neg (by omega)]
    exact PtL.agr (f0 := f) (hs0 := T) hr (d := 0) (by rw [List.drop_zero, Int.natCast_zero, Int.add_zero]; exact hp)
set_option maxHeartbeats 4000000 in
theorem law6_holds (f : Int) (a b : Option Addr) (hs : List Int) (ps : List (Nat × Spn)) (c d : Nat) (w : World) (hA : SlAt w a 1 (hs.map isV)) (hc : hs.length ≤ c) (hB : SlAt w b 8 (ps.map partV)) (hP : ∀ p ∈ ps, PtsAt w p.2) (hu : ∀ p ∈ ps, p.1 ≤ 255) :
    Calls Tryz.prog 6 #[.agg #[.int .i64 f, .slice a hs.length c], .slice b ps.length d] w fun e w' => e = .returned (.bool true) ∧ Below w.heap.size w w' := by
  have hsn := fun w' (_ : Below w.heap.size w w') => sanity_holds w'
  have hlg := fun w' (_ : Below w.heap.size w w') => long_holds f a hs c w'
  by_cases a0 : 60 < hs.length
  · rw [decide_eq_true a0] at hlg
    refine enterA [(0, .agg #[.int .i64 f, .slice a hs.length c]), (1, .slice b ps.length d)] Tryz.func6 Tryz.ntmps6 ?_
    all_goals (refine go ?_; and_intros <;> (try exact trivial) <;> intros)
    repeat' ((first | (refine G.cvb hsn ?_) | (refine G.cvb hlg ?_)) <;> (refine go ?_; and_intros <;> (try exact trivial) <;> intros))
    all_goals refine ret1b Tryz.func6 Tryz.results6 ?_
    all_goals rfl
  rw [decide_eq_false a0] at hlg
  by_cases a1 : 12 < ps.length
  · skip
    refine enterA [(0, .agg #[.int .i64 f, .slice a hs.length c]), (1, .slice b ps.length d)] Tryz.func6 Tryz.ntmps6 ?_
    all_goals (refine go ?_; and_intros <;> (try exact trivial) <;> intros)
    repeat' ((first | (refine G.cvb hsn ?_) | (refine G.cvb hlg ?_)) <;> (refine go ?_; and_intros <;> (try exact trivial) <;> intros))
    all_goals refine ret1b Tryz.func6 Tryz.results6 ?_
    all_goals rfl
  have hri := fun w' (hb : Below w.heap.size w w') => rRight_holds f a hs c w' (hA.below hb) (by omega)
  by_cases a2 : rightH f hs = false
  · rw [a2] at hri
    refine enterA [(0, .agg #[.int .i64 f, .slice a hs.length c]), (1, .slice b ps.length d)] Tryz.func6 Tryz.ntmps6 ?_
    all_goals (refine go ?_; and_intros <;> (try exact trivial) <;> intros)
    repeat' ((first | (refine G.cvb hsn ?_) | (refine G.cvb hlg ?_) | (refine G.cvb hri ?_)) <;> (refine go ?_; and_intros <;> (try exact trivial) <;> intros))
    all_goals refine ret1b Tryz.func6 Tryz.results6 ?_
    all_goals rfl
  rw [Bool.not_eq_false] at a2
  rw [a2] at hri
  obtain ⟨j1, j2⟩ := rightH_ok a2
  have j3 : ∀ z ∈ hs, 0 ≤ z ∧ z ≤ 1000 := fun z hz => by obtain ⟨i, hi, rfl⟩ := List.getElem_of_mem hz; exact j2 i hi
  refine enterA [(0, .agg #[.int .i64 f, .slice a hs.length c]), (1, .slice b ps.length d)] Tryz.func6 Tryz.ntmps6 ?_
  all_goals (refine go ?_; and_intros <;> (try exact trivial) <;> intros)
  repeat' ((first | (refine G.cvb hsn ?_) | (refine G.cvb hlg ?_) | (refine G.cvb hri ?_)) <;> (refine go ?_; and_intros <;> (try exact trivial) <;> intros))
  clear hsn hlg hri
  apply J.nilOwn (E := 28) (size := 5)
  apply J.fam0 Rn.adr 2 (fun r => r.tab.map hoV)
  apply J.nilOwn (E := 59) (size := 7)
  refine J.loop (c := _) ((0, .slice none 0 0, 0, [], .slice none 0 0, 0, [], 0) : Nat × Value × Nat × List Rn × Value × Nat × List Spn × Nat) (fun s => ps.length - s.1) (fun s => [(2, .pointer (some ⟨_, 0, none⟩)), (6, s.2.1), (7, s.2.2.2.2.1), (8, .int .i64 s.2.2.2.2.2.2.2), (40, .slice b ps.length d), (41, .int .i64 ps.length), (42, .int .i64 s.1)]) (fun s => [.own 0 s.2.2.2.2.1 59 7 s.2.2.2.2.2.1 (flat spV s.2.2.2.2.2.2.1), famRow w.heap.size Rn.adr 2 (fun r => r.tab.map hoV) s.2.2.2.1, .own 0 s.2.1 28 5 s.2.2.1 (flat rnV s.2.2.2.1), .blk _ 24 [.int .i64 f, .slice a hs.length c] 2]) (fun s => s.1 ≤ ps.length ∧ s.2.2.2.1.length = s.2.2.1 ∧ s.2.2.2.2.2.2.1.length = s.2.2.2.2.2.1 ∧ (s.2.2.1 ≤ s.1 ∧ s.2.2.2.2.2.1 ≤ s.1) ∧ s.2.2.2.2.2.2.2 ≤ hs.length ∧ PtL f (hs.take s.2.2.2.2.2.2.2) s.2.2.2.1 s.2.2.2.2.2.2.1 ∧ ∀ x ∈ s.2.2.2.2.2.2.1, PtsAt w x) ?_ sbT sbL ?_
  · exact ⟨Nat.zero_le _, rfl, rfl, ⟨Nat.le_refl _, Nat.le_refl _⟩, Nat.zero_le _, rfl, fun s hs => by cases hs⟩
  intro ⟨i, u6, j, L, u7, jj, l, at_⟩ ⟨h1, h2, h3, h4, h5, h6, h7⟩ ih
  dsimp only at h1 h2 h3 h4 h5 h6 h7 ⊢
  by_cases hi : i < ps.length
  · obtain ⟨bb, ob, rfl, hrb⟩ := SlAt.all hB (by omega)
    have hri := hrb i hi
    have hpi := hP _ (List.getElem_mem hi)
    have hui := hu _ (List.getElem_mem hi)
    generalize ps[i] = p at *
    obtain ⟨n, sf, su, wt, dt, pts, sa, sc⟩ := p
    dsimp only [partV, spV] at hri hpi hui
    obtain ⟨m, hm, hm2, hm3⟩ : ∃ m : Nat, min (n : Int) ((hs.length : Int) - at_) = (m : Int) ∧ m ≤ 255 ∧ at_ + m ≤ hs.length := ⟨min n (hs.length - at_), by omega, by omega, by omega⟩
    clear hrb hP hu
    all_goals (refine go ?_; and_intros <;> (try exact trivial) <;> intros)
    rw [hm]
    clear hm
    all_goals (refine goR ?_; and_intros <;> (try exact trivial) <;> intros)
    repeat' ((first | (apply J.regX 0 [4, 5, 7, 9] (.q 0 <| .q 1 <| .q 2 <| .q 3 <| .q 4 <| .q 5 <| .q 6 <| .q 7 <| .q 8 <| .q 9 <| .q 10 <| .e 11 <| .q 12 <| .e 13 <| .nil); exact Tryz.mixed; decide +kernel) | (apply G.s1w; rfl; rfl; rfl; exact ⟨rfl, rfl⟩; exact Nat.le_of_ble_eq_true rfl; rfl) | (apply J.regQ; exact Tryz.mixed; decide +kernel) | (apply J.regL'; exact Tryz.mixed; decide +kernel)) <;> (refine goR ?_; and_intros <;> (try exact trivial) <;> intros))
    · exact J.fin (ih (i + 1, u6, j, L, u7, jj, l, at_) ⟨hi, h2, h3, by dsimp only; omega, h5, h6, h7⟩ (by dsimp only; omega))
    rename_i hm0
    have hfew := fun q w' (hq : SlAt w' q 7 ([(⟨f + at_, f + at_ + m, wt, dt, pts, sa, sc⟩ : Spn)].map spV)) (hb : Below w.heap.size w w') => few_holds q [(⟨f + at_, f + at_ + m, wt, dt, pts, sa, sc⟩ : Spn)] 1 1 w' ⟨hq, fun s hs => by rw [List.mem_singleton.1 hs]; exact SlAt.below hpi hb⟩
    by_cases b1 : ¬ fewL 1 [(⟨f + at_, f + at_ + m, wt, dt, pts, sa, sc⟩ : Spn)]
    · rw [decide_eq_false b1] at hfew
      all_goals (refine go ?_; and_intros <;> (try exact trivial) <;> intros)
      repeat' ((first | (apply G.sliceL; rfl; rfl; rfl; rfl; rfl; rfl; rfl; rfl; intro Bs) | (apply G.cV (g := 26); rfl; rfl; exact fun w' hw' => hfew _ w' (SlAt.ofBlk (f := spV) (sz := 7) (l := [(⟨f + at_, f + at_ + m, wt, dt, pts, sa, sc⟩ : Spn)]) (fun _ => rfl) hw' (by exact mm)) hw'.below)) <;> (refine go ?_; and_intros <;> (try exact trivial) <;> intros))
      all_goals refine ret1b Tryz.func6 Tryz.results6 ?_
      all_goals rfl
    rw [Decidable.not_not] at b1
    rw [decide_eq_true b1] at hfew
    have b2 := b1.ok _ (List.mem_singleton.2 rfl)
    have hrt := fun w' (hb : Below w.heap.size w w') => sRight_holds (⟨f + at_, f + at_ + m, wt, dt, pts, sa, sc⟩ : Spn) w' (SlAt.below hpi hb) b2
    by_cases b3 : ¬ RightS (⟨f + at_, f + at_ + m, wt, dt, pts, sa, sc⟩ : Spn)
    · rw [decide_eq_false b3] at hrt
      dsimp only [spA] at hrt
      all_goals (refine go ?_; and_intros <;> (try exact trivial) <;> intros)
      repeat' ((first | (apply G.sliceL; rfl; rfl; rfl; rfl; rfl; rfl; rfl; rfl; intro Bs) | (apply G.cV (g := 26); rfl; rfl; exact fun w' hw' => hfew _ w' (SlAt.ofBlk (f := spV) (sz := 7) (l := [(⟨f + at_, f + at_ + m, wt, dt, pts, sa, sc⟩ : Spn)]) (fun _ => rfl) hw' (by exact mm)) hw'.below) | (apply G.cV (g := 32); rfl; rfl; exact fun w' hw' => hrt w' hw'.below)) <;> (refine go ?_; and_intros <;> (try exact trivial) <;> intros))
      all_goals refine ret1b Tryz.func6 Tryz.results6 ?_
      all_goals rfl
    rw [Decidable.not_not] at b3
    rw [decide_eq_true b3] at hrt
    dsimp only [spA] at hrt
    obtain ⟨ba, oa, rfl, hra⟩ := SlAt.all hA (by omega)
    have hsl : ((hs.drop at_).take m).length = m := by rw [List.length_take, List.length_drop]; omega
    have htb := fun w' (hb : Below w.heap.size w w') => table_holds (f + at_) (some ⟨ba, oa + at_ * 1, none⟩) ((hs.drop at_).take m) (c - at_) w' ((SlAt.seg hra at_ m hm3).below hb) (by omega) (fun i hi => j3 _ (List.mem_of_mem_drop (List.mem_of_mem_take (List.getElem_mem hi)))) (by omega)
    rw [hsl] at htb
    have hnx : ∀ a1 c1, PtL f (hs.take (at_ + m)) (L ++ [(⟨f + at_, f + at_ + m, tabT ((hs.drop at_).take m), a1, c1, 0, 0⟩ : Rn)]) (l ++ [(⟨f + at_, f + at_ + m, wt, dt, pts, sa, sc⟩ : Spn)]) := fun a1 c1 => by
      rw [List.take_add]
      exact h6.snoc (by omega) ⟨by dsimp only; rw [List.length_take]; omega, by dsimp only; rw [List.length_take, hsl]; omega, rfl, rfl, rfl⟩ ⟨by dsimp only; rw [List.length_take]; omega, by dsimp only; rw [List.length_take, hsl]; omega, b3, b2⟩
    clear hra
    all_goals (refine go ?_; and_intros <;> (try exact trivial) <;> intros)
    repeat' ((first | (apply G.cV (g := 26); rfl; rfl; exact fun w' hw' => hfew _ w' (SlAt.ofBlk (f := spV) (sz := 7) (l := [(⟨f + at_, f + at_ + m, wt, dt, pts, sa, sc⟩ : Spn)]) (fun _ => rfl) hw' (by exact mm)) hw'.below) | (apply G.cV (g := 32); rfl; rfl; exact fun w' hw' => hrt w' hw'.below) | (apply J.regS [.blk _ 59 [.int .i64 (f + at_), .int .i64 (f + at_ + m), .bool wt.neg, .string (bs wt.num), .string (bs wt.den), .int .i64 dt, .slice sa pts.length sc] 7, .blk _ 59 [.int .i64 (f + at_), .int .i64 (f + at_ + m), .bool wt.neg, .string (bs wt.num), .string (bs wt.den), .int .i64 dt, .slice sa pts.length sc] 7, .blk _ 24 [.int .i64 f, .slice (some ⟨ba, oa, none⟩) hs.length c] 2] (.q 0 <| .q 1 <| .q 2 <| .q 3 <| .q 4 <| .q 5 <| .q 6 <| .q 7 <| .q 8 <| .q 9 <| .q 10 <| .q 11 <| .q 15 <| .q 16 <| .f 12 (.f 13 (.f 14 (.e 17 <| .r 18 <| .q 19 <| .q 20 <| .nil) 17 (.e 14 <| .r 18 <| .q 19 <| .q 20 <| .nil)) 17 (.e 13 <| .e 14 <| .r 18 <| .q 19 <| .q 20 <| .nil)) 17 (.e 12 <| .e 13 <| .e 14 <| .r 18 <| .q 19 <| .q 20 <| .nil)); exact Tryz.mixed; decide +kernel; (repeat' (first | exact List.Sublist.refl _ | apply List.Sublist.cons_cons | apply List.Sublist.cons))) | (apply G.slp (l := at_) (h := at_ + m) (off := oa + at_ * 1) (len := m); rfl; rfl; rfl; omega; omega; omega; omega; omega; rfl; omega; rfl) | (apply G.cN (g := 33) (fun a' c' => .agg #[.int .i64 (f + at_), .int .i64 (f + at_ + m), .slice a' (tabT ((hs.drop at_).take m)).length c', .int .i64 0, .int .i64 0]) ((tabT ((hs.drop at_).take m)).map hoV); rfl; rfl; exact fun w' hw' => htb w' hw'.below; intro a1 c1 hp1 hq1) | (apply G.sliceL; rfl; rfl; rfl; rfl; rfl; rfl; rfl; rfl; intro Bs) | (apply G.apSO; rfl; rfl; rfl; (repeat (first | exact RAt.head | apply RAt.tail)); exact SrcV.blk (by exact mm) rfl rfl; (first | exact flat1 rnV L (⟨f + at_, f + at_ + m, tabT ((hs.drop at_).take m), a1, c1, 0, 0⟩ : Rn) | exact flat1 spV l (⟨f + at_, f + at_ + m, wt, dt, pts, sa, sc⟩ : Spn)); omega; omega; intro v2; refine ⟨by (repeat' (first | exact List.Sublist.refl _ | apply List.Sublist.cons_cons | apply List.Sublist.cons)), ?_⟩) | (apply G.apS; rfl; rfl; rfl; rfl; (repeat (first | exact RAt.head | apply RAt.tail)); exact SrcV.blk (by exact mm) rfl rfl; (first | exact flat1 rnV L (⟨f + at_, f + at_ + m, tabT ((hs.drop at_).take m), a1, c1, 0, 0⟩ : Rn) | exact flat1 spV l (⟨f + at_, f + at_ + m, wt, dt, pts, sa, sc⟩ : Spn)); omega; omega; intro v2; refine ⟨by (repeat' (first | exact List.Sublist.refl _ | apply List.Sublist.cons_cons | apply List.Sublist.cons)), ?_⟩) | (apply G.ap; rfl; rfl; rfl; (repeat (first | exact RAt.head | apply RAt.tail)); exact SrcV.blk (by exact mm) rfl rfl; (first | exact flat1 rnV L (⟨f + at_, f + at_ + m, tabT ((hs.drop at_).take m), a1, c1, 0, 0⟩ : Rn) | exact flat1 spV l (⟨f + at_, f + at_ + m, wt, dt, pts, sa, sc⟩ : Spn)); omega; omega; intro v3) | (apply G.forkS)) <;> (refine go ?_; and_intros <;> (try exact trivial) <;> intros))
    all_goals
      refine J.famAdd (r := (⟨f + at_, f + at_ + m, tabT ((hs.drop at_).take m), a1, c1, 0, 0⟩ : Rn)) (o := L) mm mm ?_
      exact J.finS (ih (i + 1, _, j + 1, L ++ [(⟨f + at_, f + at_ + m, tabT ((hs.drop at_).take m), a1, c1, 0, 0⟩ : Rn)], _, jj + 1, l ++ [(⟨f + at_, f + at_ + m, wt, dt, pts, sa, sc⟩ : Spn)], at_ + m) ⟨hi, by simp [h2], by simp [h3], by dsimp only; omega, hm3, hnx a1 c1, fun x hx => (List.mem_append.1 hx).elim (fun h => h7 x h) fun h => by rw [List.mem_singleton.1 h]; exact hpi⟩ (by dsimp only; omega))
  clear ih hP hu
  have hTl : (hs.take at_).length = at_ := by rw [List.length_take]; omega
  have hA' : SlAt w (subA a c 0 1) 1 ((hs.take at_).map isV) := by have := subA_at (lo := 0) (hi := at_) hA (Nat.zero_le _) h5 hc; simpa using this
  have hTb : ∀ y ∈ hs.take at_, 0 ≤ y ∧ y ≤ 1000 := fun y hy => j3 y (List.mem_of_mem_take hy)
  have ok := h6.ok j1.2.1 (by rw [hTl]; omega) hTb
  have hfw := h6.few hTb
  clear hA j3 j2
  generalize hs.take at_ = T at *
  subst hTl h2 h3
  have b1 : T.length ≤ 1000 := by omega
  have b2 : f + T.length ≤ 1402560 := by omega
  have b3 : L.length ≤ 100 := by omega
  have hll := ok.len
  have hVE := ok.value j1.2.1 b1 b2 b3 hTb
  have hEX := ok.exact j1.2.1 b1 b2 b3
  have hAG := PtsOk.agree h6 ok j1.2.1 b1 b2 b3 hTb
  have hTB := ok.table j1.2.1 b1 b2 b3
  have hFS := ok.fewS j1.2.1 b1 b2 b3
  have htl : ∀ r ∈ L, r.tab.length ≤ 64 := fun r hr => by
    obtain ⟨k, hk, rfl⟩ := List.getElem_of_mem hr
    have := (hfw k hk (by omega)).2
    omega
  apply J.ownForm (i := 0) rfl
  intro a7 c7 hu7
  apply J.ownForm (i := 2) rfl
  intro a6 c6 hu6
  subst hu7 hu6
  have hval : ∀ {M : List Row} w', Sat w M w' → Row.own 0 (.slice a7 l.length c7) 59 7 l.length (flat spV l) ∈ M → Calls Tryz.prog 11 #[.agg #[.int .i64 f, .slice (subA a c 0 1) T.length c], .slice a7 l.length c7] w' fun e w'' => e = .returned (.tuple #[qA (rQ (tabSum L l)), .int .i64 0]) ∧ Below w'.heap.size w' w'' := fun w' hw h1 => by
    have := val_holds f (subA a c 0 1) a7 T l c c7 w' (hA'.below hw.below) ⟨SlAt.ofOwn spV_len (hw.hold _ h1) rfl, fun s hs => SlAt.below (h7 s hs) hw.below⟩ hFS b1 (by omega)
    rw [hVE] at this; exact this
  have hexa : ∀ {M : List Row} w', Sat w M w' → Row.own 0 (.slice a7 l.length c7) 59 7 l.length (flat spV l) ∈ M → Row.own 0 (.slice a6 L.length c6) 28 5 L.length (flat rnV L) ∈ M → famRow w.heap.size Rn.adr 2 (fun r => r.tab.map hoV) L ∈ M → Calls Tryz.prog 24 #[.slice a6 L.length c6, .slice a7 l.length c7] w' fun e w'' => e = .returned (.tuple #[qA (rQ (tabSum L l)), .int .i64 0]) ∧ Below w'.heap.size w' w'' := fun w' hw h1 h2 h3 => by
    have := exact_holds a6 a7 L l c6 c7 w' ⟨SlAt.ofOwn rnV_len (hw.hold _ h2) rfl, fun r hr => hw.fam h3 r hr⟩ ⟨SlAt.ofOwn spV_len (hw.hold _ h1) rfl, fun s hs => SlAt.below (h7 s hs) hw.below⟩ hFS htl (by omega)
    rw [hEX] at this; exact this
  have hagr : ∀ {M : List Row} w', Sat w M w' → Row.own 0 (.slice a6 L.length c6) 28 5 L.length (flat rnV L) ∈ M → famRow w.heap.size Rn.adr 2 (fun r => r.tab.map hoV) L ∈ M → Calls Tryz.prog 34 #[.slice a6 L.length c6, .agg #[.int .i64 f, .slice (subA a c 0 1) T.length c]] w' fun e w'' => e = .returned (.bool true) ∧ Below w'.heap.size w' w'' := fun w' hw h2 h3 => by
    have := agree_holds a6 (subA a c 0 1) L f T c6 c w' ⟨SlAt.ofOwn rnV_len (hw.hold _ h2) rfl, fun r hr => hw.fam h3 r hr⟩ (hA'.below hw.below) htl (by omega) (by omega)
    rw [hAG] at this; exact this
  have hZ : tabSum (L.drop 0) (l.drop 0) = tabSum L l := by rw [List.drop_zero, List.drop_zero]
  generalize hTS : tabSum L l = TS at *
  have hW : ∀ x, x = TS → rQ x = rQ TS := fun x h => by rw [h]
  generalize rQ TS = W at *
  all_goals (refine go ?_; and_intros <;> (try exact trivial) <;> intros)
  repeat' ((first | (apply G.sliceTo (h := T.length); rfl; rfl; rfl; omega; rfl; rfl; rfl) | (apply G.cV (g := 11); rfl; rfl; exact fun w' hw => hval w' hw (by exact mm)) | (apply G.cV (g := 24); rfl; rfl; exact fun w' hw => hexa w' hw (by exact mm) (by exact mm) (by exact mm))) <;> (refine go ?_; and_intros <;> (try exact trivial) <;> intros))
  clear hval hexa
  refine J.loop (c := _) ((0, 0) : Nat × Rat) (fun s => L.length - s.1) (fun s => [(2, .pointer (some ⟨_, 0, none⟩)), (6, .slice a6 L.length c6), (7, .slice a7 l.length c7), (13, .pointer (some ⟨_, 0, none⟩)), (14, .int .i64 0), (15, .pointer (some ⟨_, 0, none⟩)), (16, .int .i64 0), (17, .pointer (some ⟨_, 0, none⟩)), (121, .slice a6 L.length c6), (122, .int .i64 L.length), (123, .int .i64 s.1)]) (fun s => [.blk _ 32 (qV (rQ s.2)) 3, .blk _ 32 (qV W) 3, .blk _ 32 (qV W) 3, .own 0 (.slice a7 l.length c7) 59 7 l.length (flat spV l), famRow w.heap.size Rn.adr 2 (fun r => r.tab.map hoV) L, .own 0 (.slice a6 L.length c6) 28 5 L.length (flat rnV L), .blk _ 24 [.int .i64 f, .slice (subA a c 0 1) T.length c] 2]) (fun s => s.1 ≤ L.length ∧ s.2 + tabSum (L.drop s.1) (l.drop s.1) = TS ∧ fewQ (10000 * s.1 + 1) (rQ s.2)) ?_ sbT sbL ?_
  · exact ⟨Nat.zero_le _, by dsimp only; rw [Rat.zero_add]; exact hZ, fewQ_zero⟩
  intro ⟨k, x⟩ ⟨e1, e2, e3⟩ ih
  dsimp only at e1 e2 e3 ⊢
  by_cases hk : k < L.length
  · have hk2 : k < l.length := by omega
    have hL1 : L[k]? = some L[k] := List.getElem?_eq_getElem hk
    have hL2 : l[k]? = some l[k] := List.getElem?_eq_getElem hk2
    obtain ⟨q1, q2⟩ := hfw k hk hk2
    have hst := tabSum_drop k L l hk hk2
    have hrm := List.getElem_mem hk
    have hsm := List.getElem_mem hk2
    have htb := fun w' (hA : TabAt w' L[k]) (hB : PtsAt w' l[k]) => vTable_holds L[k] l[k] w' hA hB (by omega) (hFS _ hsm)
    rw [hTB k hk hk2] at htb
    have hadd := fun w' => ratAdd_holds (rQ x) (rQ (wsum (rateOf l[k]) L[k].tab)) w' (Nat.le_trans e3.1 (by omega)) (Nat.le_trans e3.2 (by omega)) (Nat.le_trans q1.1 (by omega)) (Nat.le_trans q1.2 (by omega))
    rw [qR_rQ, qR_rQ] at hadd
    have e5 : fewQ (10000 * (k + 1) + 1) (rQ (x + wsum (rateOf l[k]) L[k].tab)) := fewQ_le (fewQ_add e3 q1 (by omega) (by omega)) (by omega)
    rw [hst, ← Rat.add_assoc] at e2
    have hps := h7 _ hsm
    have ih' := ih (k + 1, x + wsum (rateOf l[k]) L[k].tab) ⟨hk, e2, e5⟩ (by dsimp only; omega)
    clear hfw hTB ih hst e2 e5
    generalize wsum (rateOf l[k]) L[k].tab = y at *
    generalize rQ (x + y) = XY at *
    generalize rQ y = Y at *
    generalize rQ x = X at *
    generalize L[k] = r at *
    generalize l[k] = s at *
    obtain ⟨fr, to, tab, adr, cap, lo, hi⟩ := r
    obtain ⟨sf, su, wt, dt, pts, sa, sc⟩ := s
    dsimp only [rnA, spA, qA] at htb hadd
    refine J.ownOpen RAt.au (by omega) ?_
    intro g7 p7 hg7 hp7 hv7
    cases hv7
    refine J.ownOpen RAt.au (by omega) ?_
    intro g6 p6 hg6 hp6 hv6
    cases hv6
    all_goals (refine goR ?_; and_intros <;> (try exact trivial) <;> intros)
    repeat' ((first | (apply G.ix (i := k); rfl; rfl; exact rfl; omega; rfl) | (apply G.ld; rfl; exact LdV.flat rnV_len mm hL1 rfl; rfl) | (apply G.ld; rfl; exact LdV.flat spV_len mm hL2 rfl; rfl) | (apply J.regA (.q 0 <| .q 1 <| .q 2 <| .q 3 <| .q 4 <| .q 5 <| .q 6 <| .q 7 <| .q 8 <| .e 9 <| .r 10 <| .q 11 <| .nil); exact Tryz.mixed; decide +kernel) | (apply G.cV (g := 22); rfl; rfl; exact fun w' hw => htb w' (famTab (N := w.heap.size) hw hrm) (SlAt.below hps hw.below)) | (apply G.cV (g := 29); rfl; rfl; exact fun w' _ => hadd w') | (apply J.regQ; exact Tryz.mixed; decide +kernel) | (apply J.regL'; exact Tryz.mixed; decide +kernel)) <;> (refine goR ?_; and_intros <;> (try exact trivial) <;> intros))
    refine J.blkCut (l' := l) l.length spV_len RAt.au hg7 hp7 (Nat.le_refl _) List.take_length ?_
    refine J.blkCut (l' := L) L.length rnV_len RAt.au hg6 hp6 (Nat.le_refl _) List.take_length ?_
    exact J.finS ih'
  rw [List.drop_eq_nil_of_le (by omega), List.drop_eq_nil_of_le (by omega)] at e2
  have e4 := hW x (by rw [← e2, tabSum]; exact (Rat.add_zero x).symm; intros; contradiction)
  rw [e4]
  clear ih
  all_goals (refine go ?_; and_intros <;> (try exact trivial) <;> intros)
  repeat' ((first | (apply G.cV (g := 34); rfl; rfl; exact fun w' hw => hagr w' hw (by exact mm) (by exact mm)) | (apply G.eqR W W; rfl; rfl; rfl; all_goals intro h; all_goals try (exact absurd rfl h))) <;> (refine go ?_; and_intros <;> (try exact trivial) <;> intros))
  all_goals refine ret1b Tryz.func6 Tryz.results6 ?_
  all_goals rfl
end Go.Proofs.YthkdfpbjkpgckaaGreatDoor
