/-
  Contracts of rights: a rank of the specification.
-/
import Derived.Test.YteaccaieaigeaaaGreatDoorNQ8
import Derived.Test.YteaccaieaigeaaaGreatDoorNQ10
set_option linter.unusedVariables false
set_option linter.unusedSimpArgs false
set_option linter.unusedSectionVars false
namespace Go.Proofs.YteaccaieaigeaaaGreatDoor
open Go.RowKit Go.Sl Go.Num
/-- The takes after a rank. -/
def rkT (R : List Rch) (Gs : List Rat) (L : List Cm) (r : Nat) (T : List Rat) : List Rat := (rankZ (onR R) R.length (fsq Gs) r (L.zip T)).map (·.2)
theorem rkT_zip {R : List Rch} {Gs : List Rat} {L : List Cm} {T : List Rat} (h : T.length = L.length) (r : Nat) : L.zip (rkT R Gs L r T) = rankZ (onR R) R.length (fsq Gs) r (L.zip T) ∧ (rkT R Gs L r T).length = L.length := by
  have h1 := rankZ_fst (onR R) R.length (fsq Gs) r (L.zip T)
  rw [rkT]
  generalize rankZ (onR R) R.length (fsq Gs) r (L.zip T) = Z at *
  rw [List.map_fst_zip (by omega)] at h1
  refine ⟨?_, by rw [List.length_map, ← h1, List.length_map]⟩
  rw [← h1, List.zip_map']
  exact (List.map_congr_left (fun x _ => rfl)).trans (List.map_id Z)
theorem anyO {L : List Cm} {T : List Rat} {O : List Bool} (h1 : T.length = L.length) (h2 : O.length = L.length) : ((zz L T O).any fun z => z.2.2) = O.any id := by
  rw [Bool.eq_iff_iff, List.any_eq_true, List.any_eq_true]
  constructor
  · rintro ⟨z, hz, h⟩
    exact ⟨z.2.2, (List.of_mem_zip (List.of_mem_zip hz).2).2, h⟩
  · rintro ⟨b, hb, h⟩
    obtain ⟨k, hk, rfl⟩ := List.getElem_of_mem hb
    refine ⟨(L[k], T[k], O[k]), ?_, h⟩
    rw [← zz_get (by omega) (by omega) hk (by rw [zz_len h1 h2]; omega)]
    exact List.getElem_mem _
/-- The first k of one list, and what follows of another one. -/
def mixL {α : Type} (N O : List α) (k : Nat) : List α := N.take k ++ O.drop k
theorem mixL_len {α : Type} {N O : List α} {k : Nat} (h : N.length = O.length) : (mixL N O k).length = O.length := by
  rw [mixL, List.length_append, List.length_take, List.length_drop]; omega
theorem mixL_get {α : Type} {N O : List α} {k : Nat} (h : N.length = O.length) (hk : k < O.length) : (mixL N O k)[k]? = some O[k] := by
  rw [mixL, List.getElem?_append_right (by rw [List.length_take]; omega), List.length_take, List.getElem?_drop, show k + (k - min k N.length) = k by omega, List.getElem?_eq_getElem hk]
theorem mixL_set {α : Type} {N O : List α} {k : Nat} (h : N.length = O.length) (hk : k < O.length) (hk2 : k < N.length) : (mixL N O k).set k N[k] = mixL N O (k + 1) := by
  rw [mixL, mixL, List.set_append_right _ _ (by rw [List.length_take]; omega), List.length_take, show k - min k N.length = 0 by omega, List.drop_eq_getElem_cons hk, List.set_cons_zero, List.take_add_one, List.getElem?_eq_getElem hk2, List.append_assoc]
  rfl
theorem mixL_zero {α : Type} (N O : List α) : mixL N O 0 = O := by rw [mixL]; rfl
theorem mixL_end {α : Type} {N O : List α} (h : N.length = O.length) : mixL N O O.length = N := by rw [mixL, List.drop_length, List.append_nil, List.take_of_length_le (by omega)]
theorem oLen (O : List Bool) : (flat oV O).length = O.length := by rw [flat_len oV_len, Nat.mul_one]
theorem oGet {O : List Bool} {k : Nat} {b : Bool} (h : O[k]? = some b) : (flat oV O)[0 + k * 1]? = some (.bool b) := by
  rw [Nat.zero_add]
  have h1 := flat_at (f := oV) oV_len (i := k) (j := 0) (l := O) (List.getElem?_eq_some_iff.1 h).1 (by decide)
  rw [Nat.add_zero] at h1
  rw [h1, (List.getElem?_eq_some_iff.1 h).2]; rfl
theorem oSet {O : List Bool} {k : Nat} (h : k < O.length) (b : Bool) : setL (flat oV O) (0 + k * 1) [.bool b] = flat oV (O.set k b) := by rw [Nat.zero_add]; exact flat_set oV_len h b
theorem any_take {O : List Bool} {k : Nat} (h : k < O.length) : (O.take (k + 1)).any id = ((O.take k).any id || O[k]) := by
  rw [List.take_add_one, List.getElem?_eq_getElem h, Option.toList, List.any_append]
  simp
set_option maxHeartbeats 8000000 in
theorem rank_holds (w : World) (ra : Option Addr) (R : List Rch) (rc : Nat) (ga : Option Addr) (Gs : List Rat) (gc : Nat) (la : Option Addr) (L : List Cm) (lc : Nat) (ta : Option Addr) (T0 : List Rat) (tc r : Nat)
    (hS : SupAt w ra R ga (Gs.map qF)) (hsu : SupOk R Gs) (hL : SlAt w la 5 (L.map cmV)) (hC : ClOk R.length L) (hT : SlAt w ta 3 (T0.map qF)) (hA : Alo R Gs L) (hk : Rk R Gs L r T0) :
    Calls Tryz.prog 48 #[.agg #[.slice ra R.length rc, .slice ga Gs.length gc], .slice la L.length lc, .slice ta L.length tc, .int .i64 r] w fun e w' => ∃ a' c', e = .returned (.slice a' L.length c') ∧ SlAt w' a' 3 ((rkT R Gs L r T0).map qF) ∧ ((∀ p, a' = some p → w.heap.size ≤ p.block) ∨ a' = ta ∧ rkT R Gs L r T0 = T0) ∧ Below w.heap.size w w' := by
  have hl := hA.m
  have hR := riv_of hsu.riv
  have hnl := hR.len
  have htl := hk.lt
  obtain ⟨z1, z2⟩ := rkT_zip (R := R) (Gs := Gs) hk.lt r
  have hst := hk.start
  have hrz : rankZ (onR R) R.length (fsq Gs) r (L.zip T0) = tks (lpZ (onR R) R.length (fsq Gs) (cntO (zz L T0 (opO L r))) (zz L T0 (opO L r)) 0) := by rw [rankZ, start_zz hk.lt]; rfl
  rw [hrz] at z1
  have hO1 := fun k (h : k < (opO L r).length) => any_take h
  have hO2 : ∀ k (h : k < L.length) (h2 : k < (opO L r).length), (opO L r)[k] = (decide (L[k].rk = r) && decide (L[k].am ≠ 0)) := fun k h h2 => by simp only [opO, List.getElem_map]
  have hO3 : ∀ k (h : k < (opO L r).length), (opO L r).take (k + 1) = (opO L r).take k ++ [(opO L r)[k]] := fun k h => by rw [List.take_add_one, List.getElem?_eq_getElem h]; rfl
  have hOl : (opO L r).length = L.length := List.length_map _
  generalize opO L r = O0 at *
  refine enterA [(0, .agg #[.slice ra R.length rc, .slice ga Gs.length gc]), (1, .slice la L.length lc), (2, .slice ta L.length tc), (3, .int .i64 r)] Tryz.func48 Tryz.ntmps48 ?_
  all_goals (refine go ?_; and_intros <;> (try exact trivial) <;> repeat (first | refine fun (Bk : Nat) => ?_ | intro h))
  apply J.nilOwn (E := 4) (size := 1)
  revert Bk; intro B4
  refine J.loop (c := _) ((0, none, 0, false) : Nat × Option Addr × Nat × Bool) (fun s => L.length - s.1) (fun s => [(1, .slice la L.length lc), (2, .slice ta L.length tc), (3, .int .i64 r), (4, .pointer (some ⟨B4, 0, none⟩)), (9, .slice s.2.1 s.1 s.2.2.1), (10, .bool s.2.2.2), (11, .int .i64 s.1)]) (fun s => [.own 0 (.slice s.2.1 s.1 s.2.2.1) 4 1 s.1 (flat oV (O0.take s.1)), .blk B4 25 [.slice ra R.length rc, .slice ga Gs.length gc] 2]) (fun s => s.1 ≤ L.length ∧ s.2.2.2 = (O0.take s.1).any id) ?_ sbT sbL ?_
  · exact ⟨Nat.zero_le _, rfl⟩
  intro ⟨k, au, cu, sm⟩ ⟨h1, h2⟩ ih
  dsimp only at h1 h2 ⊢
  by_cases hkl : k < L.length
  · obtain ⟨bl, ol, rfl, hrl⟩ := SlAt.all hL (by omega)
    have hrl := hrl k hkl
    have ha1 := hO1 k (by omega)
    have ha2 := hO2 k hkl (by omega)
    have ha3 := hO3 k (by omega)
    rw [ha2] at ha1 ha3
    have ihN := fun a2 c2 b (hb : b = (O0.take (k + 1)).any id) => ih (k + 1, a2, c2, b) ⟨hkl, hb⟩ (by dsimp only; omega)
    dsimp only at ihN
    rw [ha1, ha3] at ihN
    have hap := fun x => flat1 oV (O0.take k) x
    have hz := rQ_zero (x := L[k].am)
    clear ih hO1 hO2 hO3 hst hk z1 hS hC hsu hA hT hrz ha1 ha2 ha3 hL
    generalize O0.take k = OO at *
    rw [← h2] at ihN
    clear h2
    generalize L[k] = cl at *
    obtain ⟨pl, rk, am⟩ := cl
    rw [cmV, qF] at hrl
    dsimp only at *
    generalize rQ am = q at *
    obtain ⟨s1, u1, v1⟩ := q
    dsimp only [qV] at *
    by_cases hr : rk = r
    · subst hr
      rw [decide_eq_true (show rk = rk from rfl), Bool.true_and] at ihN
      by_cases hz0 : am = 0
      · rw [decide_eq_false (fun e => e hz0)] at ihN
        have hz := hz.2 hz0
        have hap := hap false
        cases sm
        all_goals
          all_goals (refine go ?_; and_intros <;> (try exact trivial) <;> repeat (first | refine fun (Bk : Nat) => ?_ | intro h))
          repeat' ((first | (apply G.sliceL; rfl; rfl; rfl; rfl; rfl; rfl; rfl; rfl; intro Bs) | (apply G.apV; rfl; rfl; rfl; (repeat (first | exact RAt.head | apply RAt.tail)); exact SrcV.blk (by exact mm) rfl rfl; exact hap; omega; omega; intro a2 c2) | (apply G.neR ⟨s1, u1, v1⟩ zero3; rfl; rfl; rfl; all_goals intro h; all_goals try (exact absurd hz h))) <;> (refine go ?_; and_intros <;> (try exact trivial) <;> repeat (first | refine fun (Bk : Nat) => ?_ | intro h)))
          exact J.fin (ihN a2 c2 _ rfl)
      · rw [decide_eq_true (show am ≠ 0 from hz0)] at ihN
        have hz : ¬ _ := fun e => hz0 (hz.1 e)
        have hap := hap true
        cases sm
        all_goals
          all_goals (refine go ?_; and_intros <;> (try exact trivial) <;> repeat (first | refine fun (Bk : Nat) => ?_ | intro h))
          repeat' ((first | (apply G.sliceL; rfl; rfl; rfl; rfl; rfl; rfl; rfl; rfl; intro Bs) | (apply G.apV; rfl; rfl; rfl; (repeat (first | exact RAt.head | apply RAt.tail)); exact SrcV.blk (by exact mm) rfl rfl; exact hap; omega; omega; intro a2 c2) | (apply G.neR ⟨s1, u1, v1⟩ zero3; rfl; rfl; rfl; all_goals intro h; all_goals try (exact absurd h hz))) <;> (refine go ?_; and_intros <;> (try exact trivial) <;> repeat (first | refine fun (Bk : Nat) => ?_ | intro h)))
          exact J.fin (ihN a2 c2 _ rfl)
    · rw [decide_eq_false hr, Bool.false_and] at ihN
      have hap := hap false
      cases sm
      all_goals
        all_goals (refine go ?_; and_intros <;> (try exact trivial) <;> repeat (first | refine fun (Bk : Nat) => ?_ | intro h))
        repeat' ((first | (apply G.sliceL; rfl; rfl; rfl; rfl; rfl; rfl; rfl; rfl; intro Bs) | (apply G.apV; rfl; rfl; rfl; (repeat (first | exact RAt.head | apply RAt.tail)); exact SrcV.blk (by exact mm) rfl rfl; exact hap; omega; omega; intro a2 c2)) <;> (refine go ?_; and_intros <;> (try exact trivial) <;> repeat (first | refine fun (Bk : Nat) => ?_ | intro h)))
        exact J.fin (ihN a2 c2 _ rfl)
  obtain rfl : k = L.length := by omega
  rw [← hOl, List.take_length] at h2
  have htk : O0.take L.length = O0 := by rw [← hOl, List.take_length]
  rw [htk]
  clear ih hO1 hO2 hO3 htk
  all_goals (refine go ?_; and_intros <;> (try exact trivial) <;> repeat (first | refine fun (Bk : Nat) => ?_ | intro h))
  revert Bk; intro Bp
  refine J.slOld hT ?_
  have hbl : True := trivial
  refine J.loop (c := _) ((T0, O0, 0, zero3, ta, tc, au, cu, sm) : List Rat × List Bool × Rat × Q3 × Option Addr × Nat × Option Addr × Nat × Bool) (fun s => cntO (zz L s.1 s.2.1)) (fun s => [(1, .slice la L.length lc), (2, .slice s.2.2.2.2.1 L.length s.2.2.2.2.2.1), (4, .pointer (some ⟨B4, 0, none⟩)), (9, .slice s.2.2.2.2.2.2.1 L.length s.2.2.2.2.2.2.2.1), (10, .bool s.2.2.2.2.2.2.2.2), (13, .pointer (some ⟨Bp, 0, none⟩))])
    (fun s => [slRow w.heap.size s.2.2.2.2.1 3 (s.1.map qF), .blk Bp 51 (qV s.2.2.2.1) 3, .own 0 (.slice s.2.2.2.2.2.2.1 L.length s.2.2.2.2.2.2.2.1) 4 1 L.length (flat oV s.2.1), .blk B4 25 [.slice ra R.length rc, .slice ga Gs.length gc] 2])
    (fun s => Rnd R Gs L r s.1 s.2.1 s.2.2.1 ∧ s.2.2.2.1 = rQ s.2.2.1 ∧ s.2.2.2.2.2.2.2.2 = s.2.1.any id ∧ tks (lpZ (onR R) R.length (fsq Gs) (cntO (zz L s.1 s.2.1)) (zz L s.1 s.2.1) s.2.2.1) = L.zip (rkT R Gs L r T0) ∧ ((∀ p, s.2.2.2.2.1 = some p → w.heap.size ≤ p.block) ∨ s.2.2.2.2.1 = ta ∧ s.1 = T0)) ?_ sbT sbL ?_
  · dsimp only
    refine ⟨hst, rfl, h2, ?_, .inr ⟨rfl, rfl⟩⟩
    exact z1.symm
  clear h2 hst
  intro ⟨T, O, p, q, tb, td, au, cu, sm⟩ ⟨i1, i2, i3, i4, i5⟩ ih
  dsimp only at i1 i2 i3 i4 i5 ⊢
  rw [← hrz] at z1
  clear hrz
  have hany := anyO i1.lt i1.lo
  rw [← i3] at hany
  cases sm
  · rw [lpZ_end hany, tks_zz i1.lt i1.lo] at i4
    have hTT : rkT R Gs L r T0 = T := by
      have h3 := congrArg (List.map Prod.snd) i4
      rw [List.map_snd_zip (by have := i1.lt; omega), List.map_snd_zip (by omega)] at h3
      exact h3.symm
    rw [hTT]
    clear ih
    all_goals (refine go ?_; and_intros <;> (try exact trivial) <;> repeat (first | refine fun (Bk : Nat) => ?_ | intro h))
    (refine ret1 Tryz.func48 Tryz.results48 ?_; intro w' hw)
    exact ⟨tb, td, rfl, hw.sl (by exact mm), i5, hw.below⟩
  have hfew := i1.few hA hsu.len hC.nn
  obtain ⟨p', hp'⟩ : ∃ p', capZ (onR R) R.length (fsq Gs) (zz L T O) p = p' := ⟨_, rfl⟩
  have hrnd := i1.step hA hsu.len hC.nn hany hp'
  have hless := i1.inv.less hany
  have hstep := lpZ_step i1.inv hany
  rw [hp', step_zz i1.lt i1.lo] at hless hstep
  rw [hstep] at i4
  have hfew2 := hrnd.few hA hsu.len hC.nn
  have hol := i1.lo
  have hTl := i1.lt
  have hm0 : 0 < L.length := by
    rcases Nat.eq_zero_or_pos L.length with h0 | h0
    · rw [List.length_eq_zero_iff.1 (show O.length = 0 by omega)] at i3; cases i3
    · exact h0
  have hrea := fun w' (hb : Below w.heap.size w w') h1 h2 => reached_holds w' ra R rc ga Gs gc la L lc tb T td au O cu p (hS.below hb) hsu (hL.below hb) hC h1 hfew.1 h2 hol hfew.2
  have hgro := fun w' (hb : Below w.heap.size w w') h1 h2 => grown_holds w' la L lc tb T td au O cu p' (hL.below hb) h1 h2 hTl hol hC.len (fun c hc => fewQ.big (hC.few c hc) (by decide)) (hfew2.2.big (by decide))
  rw [hp'] at hrea
  have hnl2 := nxO_len (R := R) (Gs := Gs) (L := L) (T := grT L T O p') (O := O) (p := p') hol
  have hng := fun k (h1 : k < L.length) (h2 : k < O.length) => nxO_get (R := R) (Gs := Gs) (L := L) (T := grT L T O p') (O := O) (p := p') h1 h2
  have hgl := grT_len hTl hol p'
  clear hstep hany i1 hfew
  generalize nxO R Gs L (grT L T O p') O p' = N at *
  generalize grT L T O p' = T' at *
  rw [← i2] at hrea
  clear i2
  obtain ⟨q', hq'⟩ : ∃ q', rQ p' = q' := ⟨_, rfl⟩
  rw [hq'] at hrea hgro
  obtain ⟨s0, u0, v0⟩ := q
  obtain ⟨s1, u1, v1⟩ := q'
  dsimp only [qV, qA] at *
  have hrea := fun X w' (hw' : Sat w [slRow w.heap.size tb 3 (T.map qF), X, .own 0 (.slice au L.length cu) 4 1 L.length (flat oV O), .blk B4 25 [.slice ra R.length rc, .slice ga Gs.length gc] 2] w') => hrea w' hw'.below (hw'.sl (.head _)) (SlAt.ofOwn oV_len (hw'.hold _ (.tail _ (.tail _ (.head _)))) hol)
  have hgro := fun X w' (hw' : Sat w [slRow w.heap.size tb 3 (T.map qF), X, .own 0 (.slice au L.length cu) 4 1 L.length (flat oV O), .blk B4 25 [.slice ra R.length rc, .slice ga Gs.length gc] 2] w') => hgro w' hw'.below (hw'.sl (.head _)) (SlAt.ofOwn oV_len (hw'.hold _ (.tail _ (.tail _ (.head _)))) hol)
  all_goals (refine go ?_; and_intros <;> (try exact trivial) <;> repeat (first | refine fun (Bk : Nat) => ?_ | intro h))
  repeat' ((first | (apply G.cV (g := 81); rfl; rfl; exact fun w' hw' => hrea _ w' hw') | (apply G.cN (g := 82) (fun a' c' => .slice a' T'.length c') (T'.map qF); rfl; rfl; exact fun w' hw' => hgro _ w' hw'; intro a1 c1 hp1 hq1)) <;> (refine go ?_; and_intros <;> (try exact trivial) <;> repeat (first | refine fun (Bk : Nat) => ?_ | intro h)))
  rw [hgl]
  refine J.ownOpen (by (repeat (first | exact RAt.head | apply RAt.tail))) hm0 fun g cap g1 g2 g3 => ?_
  cases g3
  have hdry := fun p (hp : p < R.length) X Y w' (hw' : Sat w [slRow w.heap.size a1 3 (T'.map qF), X, Y, .blk B4 25 [.slice ra R.length rc, .slice ga Gs.length gc] 2] w') => dry_holds w' ra R rc ga Gs gc la L lc a1 T' c1 p (hS.below hw'.below) hsu (hL.below hw'.below) hC (hw'.sl (.head _)) hfew2.1 hp
  have hone := fun w' => sInt_holds 1 w' (by decide) (by decide)
  rw [show ((1 : Int) : Rat) = 1 from rfl] at hone
  have hp1 : (⟨s1, u1, v1⟩ : Q3) = rQ 1 ↔ p' = 1 := by
    rw [← hq']
    exact ⟨fun e => by have := congrArg qR e; rwa [qR_rQ, qR_rQ] at this, fun e => by rw [e]⟩
  have hpl := hC.pl
  have hna := fun k (h : k < N.length) => any_take h
  generalize rQ 1 = q9 at *
  obtain ⟨s9, u9, v9⟩ := q9
  have ihN := ih (T', N, p', ⟨s1, u1, v1⟩, a1, c1, some ⟨g, 0, none⟩, cu, N.any id) ⟨hrnd, hq'.symm, rfl, i4, .inl hq1⟩ hless
  dsimp only [qV, qA] at ihN hone
  clear ih hrea hgro hrnd hless i4 i5 hfew2 hq' hT hk hS hsu
  rw [show flat oV O = flat oV (mixL N O 0) from by rw [mixL_zero]]
  refine J.loop (c := _) ((0, false) : Nat × Bool) (fun s => L.length - s.1) (fun s => [(1, .slice la L.length lc), (2, .slice a1 L.length c1), (4, .pointer (some ⟨B4, 0, none⟩)), (9, .slice (some ⟨g, 0, none⟩) L.length cu), (10, .bool s.2), (13, .pointer (some ⟨Bp, 0, none⟩)), (14, .int .i64 s.1)]) (fun s => [slRow w.heap.size a1 3 (T'.map qF), .blk Bp 51 [.bool s1, .string (bs u1), .string (bs v1)] 3, .blk g 4 (flat oV (mixL N O s.1)) (cu * 1), .blk B4 25 [.slice ra R.length rc, .slice ga Gs.length gc] 2]) (fun s => s.1 ≤ L.length ∧ s.2 = (N.take s.1).any id) ?_ sbT sbL ?_
  · exact ⟨Nat.zero_le _, rfl⟩
  intro ⟨k, sm⟩ ⟨k1, k2⟩ ih2
  dsimp only at k1 k2 ⊢
  by_cases hkl : k < L.length
  case neg =>
    obtain rfl : k = L.length := by omega
    rw [← hnl2, List.take_length] at k2
    rw [show mixL N O L.length = N from by rw [← hol]; exact mixL_end (by omega)]
    rw [← k2] at ihN
    clear ih2 hng
    all_goals (refine go ?_; and_intros <;> (try exact trivial) <;> repeat (first | refine fun (Bk : Nat) => ?_ | intro h))
    refine J.blkOwn (g := g) (xs := flat oV N) L.length (by (repeat (first | exact RAt.head | apply RAt.tail))) g1 g2 (by rw [oLen]; omega) (List.take_of_length_le (by rw [oLen]; omega)) ?_
    exact J.finS ihN
  obtain ⟨bl, ol, rfl, hrl⟩ := SlAt.all hL (by omega)
  have hrk := hrl k hkl
  have hngk := hng k hkl (by omega) (by omega)
  have hset := fun b (hb : N[k]'(by omega) = b) => mixL_set (N := N) (O := O) (k := k) (by omega) (by omega) (by omega)
  have hget := mixL_get (N := N) (O := O) (k := k) (by omega) (by omega)
  have hml := mixL_len (N := N) (O := O) (k := k) (by omega)
  have hna := hna k (by omega)
  have hd := hdry L[k].pl (hpl _ (List.getElem_mem hkl))
  have ihk := fun b (hb : b = (N.take (k + 1)).any id) => ih2 (k + 1, b) ⟨hkl, hb⟩ (by dsimp only; omega)
  dsimp only at ihk
  rw [hna, ← k2] at ihk
  have h9 : (mixL N O k).set k N[k] = mixL N O (k + 1) := hset _ rfl
  have l1 : 0 + k * 1 < (flat oV (mixL N O k)).length := by rw [oLen, hml]; omega
  have hq1 := oGet hget
  have hq2 : (mixL N O (k + 1))[k]? = some N[k] := by rw [← h9, List.getElem?_set_self (by omega)]
  have hq3 := oGet hq2
  have hr1 := fun b => oSet (O := mixL N O k) (k := k) (by omega) b
  clear hrl hng hset hget hna hpl hdry ih2 ihN k2 hL hq2
  generalize N[k]'_ = nk at *
  have hr1 := hr1 nk
  rw [h9] at hr1
  clear h9
  generalize mixL N O (k + 1) = X2 at *
  generalize mixL N O k = X1 at *
  generalize L[k] = cl at *
  generalize O[k]'_ = ok at *
  obtain ⟨pl, rk, am⟩ := cl
  dsimp only at hd hngk
  generalize dryZ (onR R) R.length (rsT R Gs L T') pl = dz at *
  rw [cmV, qF] at hrk
  generalize rQ am = qa at *
  obtain ⟨s5, u5, v5⟩ := qa
  dsimp only [qV] at hrk
  cases ok
  · obtain rfl : nk = false := hngk
    clear hp1 hone
    cases sm
    all_goals
      all_goals (refine goR ?_; and_intros <;> (try exact trivial) <;> repeat (first | refine fun (Bk : Nat) => ?_ | intro h))
      repeat' ((first | (apply J.regA (.q 0 <| .q 1 <| .q 2 <| .q 3 <| .q 4 <| .q 5 <| .q 6 <| .q 7 <| .q 8 <| .q 9 <| .nil); exact Tryz.mixed; decide +kernel) | (apply J.regA (.q 0 <| .q 1 <| .q 2 <| .q 3 <| .q 4 <| .q 5 <| .q 6 <| .q 7 <| .q 8 <| .q 9 <| .q 10 <| .q 11 <| .q 12 <| .q 13 <| .q 14 <| .q 15 <| .r 16 <| .nil); exact Tryz.mixed; decide +kernel) | (apply G.cV (g := 83); rfl; rfl; exact fun w' hw' => hd _ _ w' hw') | (apply G.cV (g := 84); rfl; rfl; exact fun w' _ => hone w') | (apply G.ld; rfl; (apply LdV.one; exact CellV.blk (by exact mm) hq1); rfl) | (apply G.ld; rfl; (apply LdV.one; exact CellV.blk (by exact mm) hq3); rfl) | (apply G.s1; rfl; rfl; rfl; (repeat (first | exact RAt.head | apply RAt.tail)); exact ⟨rfl, rfl⟩; exact l1; exact hr1) | (exact absurd rfl ‹¬ _›) | (apply J.regQ; exact Tryz.mixed; decide +kernel) | (apply J.regL'; exact Tryz.mixed; decide +kernel)) <;> (refine goR ?_; and_intros <;> (try exact trivial) <;> repeat (first | refine fun (Bk : Nat) => ?_ | intro h)))
      exact J.fin (ihk _ rfl)
  · by_cases hpe : p' = 1
    · rw [decide_eq_false (fun e => e hpe)] at hngk
      obtain rfl : nk = false := hngk
      have hpz := hp1.2 hpe
      clear hp1
      cases sm
      all_goals
        all_goals (refine goR ?_; and_intros <;> (try exact trivial) <;> repeat (first | refine fun (Bk : Nat) => ?_ | intro h))
        repeat' ((first | (apply J.regA (.q 0 <| .q 1 <| .q 2 <| .q 3 <| .q 4 <| .q 5 <| .q 6 <| .q 7 <| .q 8 <| .q 9 <| .nil); exact Tryz.mixed; decide +kernel) | (apply J.regA (.q 0 <| .q 1 <| .q 2 <| .q 3 <| .q 4 <| .q 5 <| .q 6 <| .q 7 <| .q 8 <| .q 9 <| .q 10 <| .q 11 <| .q 12 <| .q 13 <| .q 14 <| .q 15 <| .r 16 <| .nil); exact Tryz.mixed; decide +kernel) | (apply G.cV (g := 83); rfl; rfl; exact fun w' hw' => hd _ _ w' hw') | (apply G.cV (g := 84); rfl; rfl; exact fun w' _ => hone w') | (apply G.ld; rfl; (apply LdV.one; exact CellV.blk (by exact mm) hq1); rfl) | (apply G.ld; rfl; (apply LdV.one; exact CellV.blk (by exact mm) hq3); rfl) | (apply G.s1; rfl; rfl; rfl; (repeat (first | exact RAt.head | apply RAt.tail)); exact ⟨rfl, rfl⟩; exact l1; exact hr1) | (apply G.neR ⟨s1, u1, v1⟩ ⟨s9, u9, v9⟩; rfl; rfl; rfl; all_goals intro h; all_goals try (exact absurd hpz h)) | (apply J.regQ; exact Tryz.mixed; decide +kernel) | (apply J.regL'; exact Tryz.mixed; decide +kernel)) <;> (refine goR ?_; and_intros <;> (try exact trivial) <;> repeat (first | refine fun (Bk : Nat) => ?_ | intro h)))
        exact J.fin (ihk _ rfl)
    · rw [decide_eq_true hpe] at hngk
      have hpz : ¬ _ := fun e => hpe (hp1.1 e)
      clear hp1
      revert hngk
      cases dz
      · intro hngk
        obtain rfl : nk = true := hngk
        cases sm
        all_goals
          all_goals (refine goR ?_; and_intros <;> (try exact trivial) <;> repeat (first | refine fun (Bk : Nat) => ?_ | intro h))
          repeat' ((first | (apply J.regA (.q 0 <| .q 1 <| .q 2 <| .q 3 <| .q 4 <| .q 5 <| .q 6 <| .q 7 <| .q 8 <| .q 9 <| .nil); exact Tryz.mixed; decide +kernel) | (apply J.regA (.q 0 <| .q 1 <| .q 2 <| .q 3 <| .q 4 <| .q 5 <| .q 6 <| .q 7 <| .q 8 <| .q 9 <| .q 10 <| .q 11 <| .q 12 <| .q 13 <| .q 14 <| .q 15 <| .r 16 <| .nil); exact Tryz.mixed; decide +kernel) | (apply G.cV (g := 83); rfl; rfl; exact fun w' hw' => hd _ _ w' hw') | (apply G.cV (g := 84); rfl; rfl; exact fun w' _ => hone w') | (apply G.ld; rfl; (apply LdV.one; exact CellV.blk (by exact mm) hq1); rfl) | (apply G.ld; rfl; (apply LdV.one; exact CellV.blk (by exact mm) hq3); rfl) | (apply G.s1; rfl; rfl; rfl; (repeat (first | exact RAt.head | apply RAt.tail)); exact ⟨rfl, rfl⟩; exact l1; exact hr1) | (apply G.neR ⟨s1, u1, v1⟩ ⟨s9, u9, v9⟩; rfl; rfl; rfl; all_goals intro h; all_goals try (exact absurd h hpz)) | (apply J.regQ; exact Tryz.mixed; decide +kernel) | (apply J.regL'; exact Tryz.mixed; decide +kernel)) <;> (refine goR ?_; and_intros <;> (try exact trivial) <;> repeat (first | refine fun (Bk : Nat) => ?_ | intro h)))
          exact J.fin (ihk _ rfl)
      · intro hngk
        obtain rfl : nk = false := hngk
        cases sm
        all_goals
          all_goals (refine goR ?_; and_intros <;> (try exact trivial) <;> repeat (first | refine fun (Bk : Nat) => ?_ | intro h))
          repeat' ((first | (apply J.regA (.q 0 <| .q 1 <| .q 2 <| .q 3 <| .q 4 <| .q 5 <| .q 6 <| .q 7 <| .q 8 <| .q 9 <| .nil); exact Tryz.mixed; decide +kernel) | (apply J.regA (.q 0 <| .q 1 <| .q 2 <| .q 3 <| .q 4 <| .q 5 <| .q 6 <| .q 7 <| .q 8 <| .q 9 <| .q 10 <| .q 11 <| .q 12 <| .q 13 <| .q 14 <| .q 15 <| .r 16 <| .nil); exact Tryz.mixed; decide +kernel) | (apply G.cV (g := 83); rfl; rfl; exact fun w' hw' => hd _ _ w' hw') | (apply G.cV (g := 84); rfl; rfl; exact fun w' _ => hone w') | (apply G.ld; rfl; (apply LdV.one; exact CellV.blk (by exact mm) hq1); rfl) | (apply G.ld; rfl; (apply LdV.one; exact CellV.blk (by exact mm) hq3); rfl) | (apply G.s1; rfl; rfl; rfl; (repeat (first | exact RAt.head | apply RAt.tail)); exact ⟨rfl, rfl⟩; exact l1; exact hr1) | (apply G.neR ⟨s1, u1, v1⟩ ⟨s9, u9, v9⟩; rfl; rfl; rfl; all_goals intro h; all_goals try (exact absurd h hpz)) | (apply J.regQ; exact Tryz.mixed; decide +kernel) | (apply J.regL'; exact Tryz.mixed; decide +kernel)) <;> (refine goR ?_; and_intros <;> (try exact trivial) <;> repeat (first | refine fun (Bk : Nat) => ?_ | intro h)))
          exact J.fin (ihk _ rfl)
end Go.Proofs.YteaccaieaigeaaaGreatDoor
/-
  Contracts: the keys of a map, collected and sorted.
-/
namespace Go.Proofs.YteaccaieaigeaaaGreatDoor
open Go.RowKit Go.Sl Go.Num
instance : TMap Tryz.prog 74 3 4 (.bool false) := ⟨by kernel_rfl, fun w => Tryz.zeroValue4 w⟩
/-- A call of yield in a loop that is never left. -/
theorem callPG {C : Ctx} {st : List (Nat × Value)} {M : List Row} {k : List Item} {all rest : List Oper} {d : Nat} {ty : TypeId} {pos : String} {after : Array Edge} {gd : Option (Nat × Bool)} {X : Type} {Rs : X → List Row} {x : X} {K M1 : List Row} {f : Operand} {args : List Operand} {vs : List Value} {fv : Value} {at_ : Array TypeId} (Ok : X → Prop)
    (hc : ∀ M' w, Sat C.w0 (Rs x ++ M') w → CallsV C.P fv vs w fun v w' => ∃ x', Sat C.w0 (Rs x' ++ M') w' ∧ v = .bool true ∧ Ok x')
    (hf : evS st f = some fv) (ha : evL st args = some vs) (hw : wnB all st gd = true) (hd : Nat.blt d C.N = true) (hM : Splt (Rs x ++ M1) M K)
    (h1 : ∀ x', Ok x' → G .seq C all ((d, .bool true) :: st) (K ++ (Rs x' ++ M1)) rest k) :
    G .seq C all st M ({ dst := some d, op := .call { callee := .value f, args := args.toArray, argTypes := at_ }, type := ty, pos, after, guard := gd } :: rest) k :=
  G.callG (Rs := Rs) (x := x) (M1 := M1) Ok (fun _ => False) (fun M' w hw' => (hc M' w hw').mono fun v w' ⟨x', h2, h3, h4⟩ => ⟨x', h2, .inl ⟨h3, h4⟩⟩) hf ha hw hd hM h1 fun _ h => h.elim
theorem map_eraseIdx' {α β : Type} (f : α → β) : ∀ (l : List α) (k : Nat), (l.map f).eraseIdx k = (l.eraseIdx k).map f
  | [], _ => rfl
  | _ :: _, 0 => rfl
  | x :: l, k + 1 => by rw [List.map_cons, List.eraseIdx_cons_succ, List.eraseIdx_cons_succ, List.map_cons, map_eraseIdx' f l k]
theorem cons_eraseIdx {α : Type} : ∀ {l : List α} {i : Nat} (h : i < l.length), (l[i] :: l.eraseIdx i).Perm l
  | x :: l, 0, _ => .refl _
  | x :: l, i + 1, h => by
    rw [List.eraseIdx_cons_succ, List.getElem_cons_succ]
    exact (List.Perm.swap _ _ _).trans (.cons x (cons_eraseIdx (by simpa using h)))
theorem keys_iter (w0 : World) (Bm b : Nat) (es : Array MapEntry) (clock : Nat) (L : List (Int × Value)) (hI : MapIs (Value.int .i64) es clock L) :
    IterP Tryz.prog w0 [.blk Bm 74 [.map (some b)] 1, .obj b (.map es clock)] 76 #[.pointer (some ⟨Bm, 0, none⟩)] (fun e : Int => [.int .i64 e]) (L.map (·.1)) := by
  intro X Rs Inv fY cY hY x0 hI0 M1 w hw
  refine enterR [(0, .func fY #[] cY), (1, .pointer (some ⟨Bm, 0, none⟩))] hw Tryz.func76 Tryz.ntmps76 ?_
  all_goals (refine go ?_; and_intros <;> (try exact trivial) <;> repeat (first | refine fun (Bk : Nat) => ?_ | intro h))
  repeat' ((first | (apply G.rg; rfl; exact mm; rfl; intro br)) <;> (refine go ?_; and_intros <;> (try exact trivial) <;> repeat (first | refine fun (Bk : Nat) => ?_ | intro h)))
  refine J.loop (c := _) ((L, #[], x0) : List (Int × Value) × Array Nat × X) (fun s => s.1.length) (fun s => [(0, .func fY #[] cY), (5, .pointer (some ⟨br, 0, none⟩))]) (fun s => .obj br (.mapIter (some b) clock s.2.1 clock) :: .blk Bm 74 [.map (some b)] 1 :: .obj b (.map es clock) :: (Rs s.2.2 ++ M1)) (fun s => Rem (Value.int .i64) es s.2.1 s.1 ∧ Inv (s.1.map (·.1)) s.2.2) ?_ sbT sbL ?_
  · exact ⟨Rem.start hI, hI0⟩
  clear hI0 hw
  intro ⟨R, seen, x⟩ ⟨hR, h2⟩ ih
  dsimp only at hR h2 ⊢
  by_cases hR0 : R = []
  · subst hR0
    clear ih
    all_goals (refine go ?_; and_intros <;> (try exact trivial) <;> repeat (first | refine fun (Bk : Nat) => ?_ | intro h))
    repeat' ((first | (apply G.nx0 hI hR; rfl; rfl; exact mm; exact mm)) <;> (refine go ?_; and_intros <;> (try exact trivial) <;> repeat (first | refine fun (Bk : Nat) => ?_ | intro h)))
    refine end0 Tryz.func76 Tryz.results76 ?_
    exact fun w' hw' => ⟨rfl, x, hw'.forget sbL, h2⟩
  · have hy : ∀ j (hj : j < R.length), ∀ M' w', Sat w0 (Rs x ++ M') w' → CallsV Tryz.prog (.func fY #[] cY) [.int .i64 R[j].1] w' fun v w2 => ∃ x', Sat w0 (Rs x' ++ M') w2 ∧ v = .bool true ∧ Inv ((R.eraseIdx j).map (·.1)) x' := fun j hj M' w' hw' => by
      have h3 := hY (R.map (·.1)) x j (by rw [List.length_map]; exact hj) h2 M' w' hw'
      rw [List.getElem_map, map_eraseIdx'] at h3
      exact h3
    have ih := fun j (hj : j < R.length) seen' x' h3 h4 => ih (R.eraseIdx j, seen', x') ⟨h3, h4⟩ (by dsimp only; rw [List.length_eraseIdx]; rw [if_pos hj]; omega)
    dsimp only at ih
    clear hY
    all_goals (refine go ?_; and_intros <;> (try exact trivial) <;> repeat (first | refine fun (Bk : Nat) => ?_ | intro h))
    repeat' ((first | (apply G.nx1 hI hR hR0; rfl; rfl; (repeat (first | exact RAt.head | apply RAt.tail)); exact mm; intro j hj seen' hR' ⟨e, he, hsn, hek, hev⟩) | (apply G.en hI he hsn hek hev; rfl; rfl; exact mm; exact mm) | (refine callPG (Rs := Rs) (x := x) (M1 := M1) (fun x' => Inv ((R.eraseIdx j).map (·.1)) x') (hy j hj) rfl rfl rfl rfl (by (repeat (first | exact Splt.nil | apply Splt.cons))) ?_; intro x' hx')) <;> (refine go ?_; and_intros <;> (try exact trivial) <;> repeat (first | refine fun (Bk : Nat) => ?_ | intro h)))
    exact J.fin (ih j hj seen' x' hR' hx')
theorem keys_holds (w0 : World) (M : List Row) (w : World) (v : Value) (b : Nat) (hw : Sat w0 M w) :
    Calls Tryz.prog 38 #[.map (some b)] w fun e w' => ∃ x : Nat, e = .returned (.func (.func 76) #[] #[.pointer (some ⟨x, 0, none⟩)]) ∧ Sat w0 (.blk x 74 [.map (some b)] 1 :: M) w' := by
  refine enterR [(0, .map (some b))] hw Tryz.func38 Tryz.ntmps38 ?_
  all_goals (refine go ?_; and_intros <;> (try exact trivial) <;> repeat (first | refine fun (Bk : Nat) => ?_ | intro h))
  refine ret1 Tryz.func38 Tryz.results38 ?_
  exact fun w' hw' => ⟨_, rfl, hw'⟩
theorem eraseIdx_perm {α : Type} {R S : List α} : ∀ {T : List α} {i : Nat} (hi : i < T.length), (S ++ T).Perm R → ((S ++ [T[i]]) ++ T.eraseIdx i).Perm R := fun {T} {i} hi h => by
  refine List.Perm.trans ?_ h
  rw [List.append_assoc]
  refine List.Perm.append_left _ ?_
  exact cons_eraseIdx hi
/-- A call that hands back a slice of its own which holds the keys in some order, and loses K. -/
theorem appendSeq_holds (w0 : World) (M K : List Row) (w : World) (f : FuncId) [hF : Fun Tryz.prog f] (cap : Array Value) (Ks : List Int) (hIt : IterP Tryz.prog w0 K f cap (fun e : Int => [.int .i64 e]) Ks) (hl : Ks.length ≤ 1000000) (hw : Sat w0 (K ++ M) w) :
    Calls Tryz.prog 109 #[.slice none 0 0, .func (.func f) #[] cap] w fun e w' => ∃ x : Option Addr × Nat × List Int, e = .returned (.slice x.1 x.2.2.length x.2.1) ∧ x.2.2.Perm Ks ∧ Sat w0 (.own 0 (.slice x.1 x.2.2.length x.2.1) 3 1 x.2.2.length (flat isV x.2.2) :: M) w' := by
  refine enterR [(0, .slice none 0 0), (1, .func (.func f) #[] cap)] hw Tryz.func109 Tryz.ntmps109 ?_
  all_goals (refine go ?_; and_intros <;> (try exact trivial) <;> repeat (first | refine fun (Bk : Nat) => ?_ | intro h))
  apply J.nilOwn (E := 3) (size := 1)
  refine J.rangeP1 (e1 := fun e : Int => .int .i64 e) (es := Ks) (K := K) (fun s : Option Addr × Nat × List Int => [.own 0 (.slice s.1 s.2.2.length s.2.1) 3 1 s.2.2.length (flat isV s.2.2), .blk Bk 42 [.slice s.1 s.2.2.length s.2.1] 1]) (fun R s => (s.2.2 ++ R).Perm Ks) (none, 0, []) M hIt rfl rfl rfl (perm_cat [[_], [_], K, M] [0, 1, 2, 3] [2, 0, 1, 3] rfl) (.refl _) ?_ ?_
  · intro R ⟨au, cu, S⟩ i hi hP L0 rr M' hrs hrp
    dsimp only at hP ⊢
    have hP2 := eraseIdx_perm hi hP
    have hlS : S.length + 1 ≤ 1000000 := by
      have := hP.length_eq
      rw [List.length_append] at this
      omega
    have hap : flat isV S ++ isV R[i] = flat isV (S ++ [R[i]]) := flat1 isV _ _
    have hsl : (S ++ [R[i]]).length = S.length + 1 := by rw [List.length_append]; rfl
    generalize R[i] = y at *
    dsimp only [isV] at hap ⊢
    all_goals (refine goR ?_; and_intros <;> (try exact trivial) <;> repeat (first | refine fun (Bk : Nat) => ?_ | intro h))
    repeat' ((first | (refine J.beginR rfl (i := 0) rfl hrs ?_) | (apply G.sliceL; rfl; rfl; rfl; rfl; rfl; rfl; rfl; rfl; intro Bs) | (apply G.apV; rfl; rfl; rfl; (repeat (first | exact RAt.head | apply RAt.tail)); exact SrcV.blk (by exact mm) rfl rfl; exact hap; omega; omega; intro a2 c2) | (apply J.regQ; exact Tryz.mixed; decide +kernel) | (apply J.regL'; exact Tryz.mixed; decide +kernel)) <;> (refine goR ?_; and_intros <;> (try exact trivial) <;> repeat (first | refine fun (Bk : Nat) => ?_ | intro h)))
    rw [← hsl]
    exact J.sel (leaveP hrs hrp (a2, c2, S ++ [y]) hP2 rfl)
  · intro Bd ⟨au, cu, S⟩ hP
    dsimp only at hP ⊢
    rw [List.append_nil] at hP
    all_goals (refine go ?_; and_intros <;> (try exact trivial) <;> repeat (first | refine fun (Bk : Nat) => ?_ | intro h))
    refine J.sel (T := .obj Bd (.deferred (some [])) :: .own 0 (.slice au S.length cu) 3 1 S.length (flat isV S) :: M) ?_
    refine leaveM (v := .slice au S.length cu) (ds := [Bd]) (M0 := .own 0 (.slice au S.length cu) 3 1 S.length (flat isV S) :: M) Tryz.func109 rfl rfl rfl rfl (RunsTo.one Tryz.results109 (by (first | (apply ResV.tmp; rfl) | (apply ResV.cell; rfl; (first | (apply LdV.one; (first | exact CellV.row0 (by assumption) rfl | exact CellV.rowS (by assumption) rfl | exact CellV.rowSS (by assumption) rfl | (apply CellV.blk; exact mm; rfl))) | (apply LdV.aggBlk; exact mm; rfl) | (apply LdV.part; exact mm; rfl; rfl) | (apply LdV.aggRow; assumption; rfl) | (apply LdV.partRow; assumption; rfl; rfl)))))) (List.Perm.refl _) fun w' hw' => ?_
    exact ⟨(au, cu, S), rfl, hP, hw'⟩
theorem collect_holds (w0 : World) (M K : List Row) (w : World) (f : FuncId) [hF : Fun Tryz.prog f] (cap : Array Value) (Ks : List Int) (hIt : IterP Tryz.prog w0 K f cap (fun e : Int => [.int .i64 e]) Ks) (hl : Ks.length ≤ 1000000) (hw : Sat w0 (K ++ M) w) :
    Calls Tryz.prog 74 #[.func (.func f) #[] cap] w fun e w' => ∃ x : Option Addr × Nat × List Int, e = .returned (.slice x.1 x.2.2.length x.2.1) ∧ x.2.2.Perm Ks ∧ Sat w0 (.own 0 (.slice x.1 x.2.2.length x.2.1) 3 1 x.2.2.length (flat isV x.2.2) :: M) w' := by
  refine enterR [(0, .func (.func f) #[] cap)] hw Tryz.func74 Tryz.ntmps74 ?_
  all_goals (refine go ?_; and_intros <;> (try exact trivial) <;> repeat (first | refine fun (Bk : Nat) => ?_ | intro h))
  repeat' ((first | (refine G.cP (g := 109) (X := { x : Option Addr × Nat × List Int // x.2.2.Perm Ks }) (fun x => .slice x.1.1 x.1.2.2.length x.1.2.1) K (fun x => [.own 0 (.slice x.1.1 x.1.2.2.length x.1.2.1) 3 1 x.1.2.2.length (flat isV x.1.2.2)]) rfl rfl (List.Perm.refl _) (fun w' hw' => (appendSeq_holds w0 M K w' f cap Ks hIt hl hw').mono fun e w2 ⟨x, h1, h2, h3⟩ => ⟨⟨x, h2⟩, h1, h3⟩) ?_; rintro ⟨⟨au, cu, S⟩, hS⟩)) <;> (refine go ?_; and_intros <;> (try exact trivial) <;> repeat (first | refine fun (Bk : Nat) => ?_ | intro h)))
  refine ret1 Tryz.func74 Tryz.results74 ?_
  exact fun w' hw' => ⟨(au, cu, S), rfl, hS, hw'⟩
/-- slices.Sort does so for slices of n elements. -/
def SortsTo (n : Nat) : Prop := ∀ (w0 : World) (M : List Row) (w : World) (au : Option Addr) (cu : Nat) (S : List Int), Sat w0 (.own 0 (.slice au n cu) 3 1 n (flat isV S) :: M) w → n = S.length →
  Calls Tryz.prog 75 #[.slice au n cu] w fun e w' => ∃ S', e = .returned (.tuple #[]) ∧ (S'.Perm S ∧ S'.Pairwise (· ≤ ·)) ∧ Sat w0 (.own 0 (.slice au n cu) 3 1 n (flat isV S') :: M) w'
theorem sortsTo12 {n : Nat} (h : n ≤ 12) : SortsTo n := fun w0 M w au cu S hw hn => sort12_holds w0 M w au n cu S hw hn h
theorem sorted_holds (w0 : World) (M K : List Row) (w : World) (f : FuncId) [hF : Fun Tryz.prog f] (cap : Array Value) (Ks : List Int) (hIt : IterP Tryz.prog w0 K f cap (fun e : Int => [.int .i64 e]) Ks) (hl : Ks.length ≤ 1000000) (hso : SortsTo Ks.length) (hw : Sat w0 (K ++ M) w) :
    Calls Tryz.prog 37 #[.func (.func f) #[] cap] w fun e w' => ∃ x : Option Addr × Nat × List Int, e = .returned (.slice x.1 x.2.2.length x.2.1) ∧ (x.2.2.Perm Ks ∧ x.2.2.Pairwise (· ≤ ·)) ∧ Sat w0 (.own 0 (.slice x.1 x.2.2.length x.2.1) 3 1 x.2.2.length (flat isV x.2.2) :: M) w' := by
  refine enterR [(0, .func (.func f) #[] cap)] hw Tryz.func37 Tryz.ntmps37 ?_
  all_goals (refine go ?_; and_intros <;> (try exact trivial) <;> repeat (first | refine fun (Bk : Nat) => ?_ | intro h))
  repeat' ((first | (refine G.cP (g := 74) (X := { x : Option Addr × Nat × List Int // x.2.2.Perm Ks }) (fun x => .slice x.1.1 x.1.2.2.length x.1.2.1) K (fun x => [.own 0 (.slice x.1.1 x.1.2.2.length x.1.2.1) 3 1 x.1.2.2.length (flat isV x.1.2.2)]) rfl rfl (List.Perm.refl _) (fun w' hw' => (collect_holds w0 M K w' f cap Ks hIt hl hw').mono fun e w2 ⟨x, h1, h2, h3⟩ => ⟨⟨x, h2⟩, h1, h3⟩) ?_; rintro ⟨⟨au, cu, S⟩, hS⟩; have hSl := hS.length_eq; dsimp only at hS hSl ⊢) | (refine G.cP (g := 75) (X := { S' : List Int // S'.Perm S ∧ S'.Pairwise (· ≤ ·) }) (fun _ => .tuple #[]) [.own 0 (.slice au S.length cu) 3 1 S.length (flat isV S)] (fun x => [.own 0 (.slice au S.length cu) 3 1 S.length (flat isV x.1)]) rfl rfl (List.Perm.refl _) (fun w' hw' => ((hSl ▸ hso : SortsTo S.length) w0 M w' au cu S hw' rfl).mono fun e w2 ⟨S', h1, h2, h3⟩ => ⟨⟨S', h2⟩, h1, h3⟩) ?_; rintro ⟨S', hS', hs2⟩; have hS'l := hS'.length_eq; dsimp only at hS' hS'l ⊢)) <;> (refine go ?_; and_intros <;> (try exact trivial) <;> repeat (first | refine fun (Bk : Nat) => ?_ | intro h)))
  refine ret1 Tryz.func37 Tryz.results37 ?_
  refine fun w' hw' => ⟨(au, cu, S'), by dsimp only; rw [hS'l], ⟨hS'.trans hS, hs2⟩, ?_⟩
  dsimp only
  rw [hS'l]; exact hw'
end Go.Proofs.YteaccaieaigeaaaGreatDoor
/-
  Contracts of rights: the specification's Allot.
-/
namespace Go.Proofs.YteaccaieaigeaaaGreatDoor
open Go.RowKit Go.Sl Go.Num
/-- What all claims get. -/
def allT (R : List Rch) (Gs : List Rat) (L : List Cm) : Nat → List Rat
  | 0 => gl L.length fun _ => 0
  | r + 1 => rkT R Gs L r (allT R Gs L r)
theorem used_zero {on : Nat → Nat → Bool} {zs : List (Cm × Rat)} (h : ∀ z ∈ zs, z.2 = 0) (g : Nat) : used on zs g = 0 := by
  rw [used]
  refine (qs_congr (g := fun _ => 0) fun z hz => ?_).trans (qs_zero _)
  rw [h z hz]; split <;> rfl
theorem mem_gl0 {n : Nat} {x : Rat} (h : x ∈ gl n fun _ => 0) : x = 0 := by
  obtain ⟨_, _, rfl⟩ := List.mem_map.1 h; rfl
theorem rk0 {R : List Rch} {Gs : List Rat} {L : List Cm} (hA : Alo R Gs L) (hs : SupOk R Gs) (hC : ClOk R.length L) : Rk R Gs L 0 (allT R Gs L 0) := by
  have h0 : ∀ z ∈ L.zip (gl L.length fun _ => 0), z.2 = 0 := fun z hz => mem_gl0 (List.of_mem_zip hz).2
  refine ⟨gl_len _ _, ⟨fun z hz => ?_, fun g _ => ?_, fun z hz _ => h0 z hz, fun z hz hr => absurd hr (Nat.not_lt_zero _)⟩, 0, ?_, 1, by decide, by rw [Nat.pow_zero]; exact Nat.le_refl 1, fun t ht => ?_⟩
  · rw [h0 z hz]; exact ⟨Rat.le_refl, hC.nn _ (List.of_mem_zip hz).1⟩
  · show used _ (L.zip (gl L.length fun _ => 0)) g ≤ _
    rw [used_zero h0]
    exact qs_nn fun p _ => by
      have := (hs.fsq p).2
      split
      · exact this
      · exact Rat.le_refl
  · have := hA.m
    have : hiC 0 L ≤ L.length := List.length_filter_le _ _
    omega
  · rw [mem_gl0 ht, Rat.zero_mul, Rat.zero_mul]; exact Iq.zero
theorem rk_next {R : List Rch} {Gs : List Rat} {L : List Cm} {r : Nat} {T : List Rat} (h : Rk R Gs L r T) (hA : Alo R Gs L) (hl : Gs.length = R.length) (hn : ∀ c ∈ L, 0 ≤ c.am) : Rk R Gs L (r + 1) (rkT R Gs L r T) := by
  obtain ⟨z1, z2⟩ := rkT_zip (R := R) (Gs := Gs) h.lt r
  -- the rounds, one by one
  have key : ∀ (N : Nat) (T' : List Rat) (O : List Bool) (p : Rat), cntO (zz L T' O) ≤ N → Rnd R Gs L r T' O p → tks (lpZ (onR R) R.length (fsq Gs) (cntO (zz L T' O)) (zz L T' O) p) = L.zip (rkT R Gs L r T) → ∃ O2 p2, Rnd R Gs L r (rkT R Gs L r T) O2 p2 := by
    intro N
    induction N with
    | zero =>
      intro T' O p hc hr he
      have h0 := cntO_none.2 (Nat.le_zero.1 hc)
      rw [lpZ_end h0, tks_zz hr.lt hr.lo] at he
      have h3 := congrArg (List.map Prod.snd) he
      rw [List.map_snd_zip (by have := hr.lt; omega), List.map_snd_zip (by omega)] at h3
      exact ⟨O, p, h3 ▸ hr⟩
    | succ N ih =>
      intro T' O p hc hr he
      cases ho : ((zz L T' O).any fun z => z.2.2) with
      | false =>
        rw [lpZ_end ho, tks_zz hr.lt hr.lo] at he
        have h3 := congrArg (List.map Prod.snd) he
        rw [List.map_snd_zip (by have := hr.lt; omega), List.map_snd_zip (by omega)] at h3
        exact ⟨O, p, h3 ▸ hr⟩
      | true =>
        have h1 := hr.inv.less ho
        rw [lpZ_step hr.inv ho] at he
        rw [step_zz hr.lt hr.lo] at h1 he
        exact ih _ _ _ (by omega) (hr.step hA hl hn ho rfl) he
  obtain ⟨O2, p2, h2⟩ := key _ T (opO L r) 0 (Nat.le_refl _) h.start (by rw [z1, rankZ, start_zz h.lt]; rfl)
  exact h2.end h z1
theorem rk_all {R : List Rch} {Gs : List Rat} {L : List Cm} (hA : Alo R Gs L) (hs : SupOk R Gs) (hC : ClOk R.length L) : ∀ r, Rk R Gs L r (allT R Gs L r)
  | 0 => rk0 hA hs hC
  | r + 1 => rk_next (rk_all hA hs hC r) hA hs.len hC.nn
theorem rAllot_holds (w : World) (ra : Option Addr) (R : List Rch) (rc : Nat) (ga : Option Addr) (Gs : List Rat) (gc : Nat) (la : Option Addr) (L : List Cm) (lc : Nat)
    (hS : SupAt w ra R ga (Gs.map qF)) (hsu : SupOk R Gs) (hL : SlAt w la 5 (L.map cmV)) (hC : ClOk R.length L) (hA : Alo R Gs L)
    (hck : ∀ w', Below w.heap.size w w' → Calls Tryz.prog 16 #[.agg #[.slice ra R.length rc, .slice ga Gs.length gc], .slice la L.length lc] w' fun e w2 => e = .returned (.int .i64 0) ∧ Below w'.heap.size w' w2) :
    Calls Tryz.prog 14 #[.agg #[.slice ra R.length rc, .slice ga Gs.length gc], .slice la L.length lc] w (RetQ (fun v => .agg #[v, .int .i64 0]) w (allT R Gs L 101)) := by
  have hl := hA.m
  have hal := fun r => (rk_all hA hsu hC r).lt
  have hrk := fun r ta tc w' (hb : Below w.heap.size w w') hT => rank_holds w' ra R rc ga Gs gc la L lc ta (allT R Gs L r) tc r (hS.below hb) hsu (hL.below hb) hC hT hA (rk_all hA hsu hC r)
  have h0 : allT R Gs L 0 = gl L.length fun _ => 0 := rfl
  have hnx : ∀ r, rkT R Gs L r (allT R Gs L r) = allT R Gs L (r + 1) := fun r => rfl
  simp only [hnx] at hrk
  clear hS hsu hL hC hA hnx
  generalize allT R Gs L = A at *
  refine enterA [(0, .agg #[.slice ra R.length rc, .slice ga Gs.length gc]), (1, .slice la L.length lc)] Tryz.func14 Tryz.ntmps14 ?_
  all_goals (refine go ?_; and_intros <;> (try exact trivial) <;> repeat (first | refine fun (Bk : Nat) => ?_ | intro h))
  repeat' ((first | (apply G.cV (g := 16); rfl; rfl; exact fun w' hw' => hck w' hw'.below) | (apply G.make (n := L.length) (qV zero3); rfl; rfl; rfl; rfl; rfl; rfl; rfl; rfl; omega; omega; intro B)) <;> (refine go ?_; and_intros <;> (try exact trivial) <;> repeat (first | refine fun (Bk : Nat) => ?_ | intro h)))
  rw [zeroG, ← h0]
  rename_i B2
  refine J.blkSlF (f := qF) (sz := 3) qF_len (M' := [.blk Bk 33 [.slice none 0 0, .int .i64 0] 2, .blk B2 25 [.slice ra R.length rc, .slice ga Gs.length gc] 2]) (by (repeat (first | exact Pick.head | apply Pick.tail))) fun hB => ?_
  refine J.loop (c := _) ((0, some ⟨B, 0, none⟩, L.length) : Nat × Option Addr × Nat) (fun s => 101 - s.1) (fun s => [(1, .slice la L.length lc), (2, .pointer (some ⟨B2, 0, none⟩)), (4, .pointer (some ⟨Bk, 0, none⟩)), (6, .slice s.2.1 L.length s.2.2), (7, .int .i64 s.1)]) (fun s => [slRow w.heap.size s.2.1 3 ((A s.1).map qF), .blk Bk 33 [.slice none 0 0, .int .i64 0] 2, .blk B2 25 [.slice ra R.length rc, .slice ga Gs.length gc] 2]) (fun s => s.1 ≤ 101 ∧ ∀ p, s.2.1 = some p → w.heap.size ≤ p.block) ?_ sbT sbL ?_
  · exact ⟨Nat.zero_le _, fun p hp => by cases hp; exact hB⟩
  intro ⟨n, ta, tc⟩ ⟨h1, h2⟩ ih
  dsimp only at h1 h2 ⊢
  by_cases hn : n ≤ 100
  · have ih := fun a2 c2 hf => ih (n + 1, a2, c2) ⟨by dsimp only; omega, hf⟩ (by dsimp only; omega)
    dsimp only at ih
    have hrn : ∀ w', Sat w [slRow w.heap.size ta 3 ((A n).map qF), .blk Bk 33 [.slice none 0 0, .int .i64 0] 2, .blk B2 25 [.slice ra R.length rc, .slice ga Gs.length gc] 2] w' → Calls Tryz.prog 48 #[.agg #[.slice ra R.length rc, .slice ga Gs.length gc], .slice la L.length lc, .slice ta L.length tc, .int .i64 n] w' fun e w2 => ∃ a' c', e = .returned (.slice a' L.length c') ∧ SlAt w2 a' 3 ((A (n + 1)).map qF) ∧ ((∀ p, a' = some p → w'.heap.size ≤ p.block) ∨ a' = ta ∧ (A (n + 1)).map qF = (A n).map qF) ∧ Below w'.heap.size w' w2 :=
      fun w' hw' => (hrk n ta tc w' hw'.below (hw'.sl (.head _))).mono fun e w2 ⟨a', c', e1, e2, e3, e4⟩ => ⟨a', c', e1, e2, e3.imp id fun h => ⟨h.1, by rw [h.2]⟩, e4⟩
    clear hrk
    all_goals (refine go ?_; and_intros <;> (try exact trivial) <;> repeat (first | refine fun (Bk : Nat) => ?_ | intro h))
    repeat' ((first | (apply G.cSame (g := 48) (N := w.heap.size) (ta := ta) (L0 := (A n).map qF) (fun a' c' => .slice a' L.length c') ((A (n + 1)).map qF) (.head _) h2 (Nat.le_refl _); rfl; rfl; exact fun w' hw' => hrn w' hw'; intro a2 c2 hf)) <;> (refine go ?_; and_intros <;> (try exact trivial) <;> repeat (first | refine fun (Bk : Nat) => ?_ | intro h)))
    exact J.fin (ih a2 c2 hf)
  · obtain rfl : n = 101 := by omega
    clear ih
    all_goals (refine go ?_; and_intros <;> (try exact trivial) <;> repeat (first | refine fun (Bk : Nat) => ?_ | intro h))
    (refine ret1 Tryz.func14 Tryz.results14 ?_; intro w' hw)
    exact ⟨ta, tc, by rw [hal 101]; rfl, hw.sl (by exact mm), h2, hw.below⟩
end Go.Proofs.YteaccaieaigeaaaGreatDoor
/-
  Contracts of rights: what the program's Allot leans on.
-/
namespace Go.Proofs.YteaccaieaigeaaaGreatDoor
open Go.RowKit Go.Sl Go.Num
theorem allT_len {R : List Rch} {Gs : List Rat} {L : List Cm} : ∀ r, (allT R Gs L r).length = L.length
  | 0 => gl_len _ _
  | r + 1 => (rkT_zip (allT_len r) r).2
theorem allT_skip {R : List Rch} {Gs : List Rat} {L : List Cm} (r : Nat) : ∀ d, (∀ c ∈ L, ¬ (r ≤ c.rk ∧ c.rk < r + d)) → allT R Gs L (r + d) = allT R Gs L r
  | 0, _ => rfl
  | d + 1, h => by
    have ih := allT_skip (R := R) (Gs := Gs) r d fun c hc hh => h c hc ⟨hh.1, by omega⟩
    have h1 : rankZ (onR R) R.length (fsq Gs) (r + d) (L.zip (allT R Gs L (r + d))) = L.zip (allT R Gs L (r + d)) := rankZ_none fun z hz => fun e => h _ (List.of_mem_zip hz).1 ⟨by omega, by omega⟩
    show rkT R Gs L (r + d) (allT R Gs L (r + d)) = _
    rw [rkT, h1, List.map_snd_zip (by rw [allT_len]; exact Nat.le_refl _), ih]
theorem qs_range {α : Type} (f : α → Rat) (L : List α) : ∀ k, k ≤ L.length → qs (L.take k) f = qs (List.range k) fun i => (L.map f).getD i 0
  | 0, _ => rfl
  | k + 1, h => by
    rw [qs_take f (show k < L.length by omega), qs_range f L k (by omega), List.range_succ, qs_app, qs_cons, qs_nil, Rat.add_zero]
    congr 1
    rw [List.getD_eq_getElem?_getD, List.getElem?_map, List.getElem?_eq_getElem (show k < L.length by omega)]; rfl
/-- The amount of the k-th claim. -/
def amK (L : List Cm) (k : Nat) : Rat := (L.map (·.am)).getD k 0
theorem amK_at {L : List Cm} {k : Nat} (h : k < L.length) : amK L k = L[k].am := by
  rw [amK, List.getD_eq_getElem?_getD, List.getElem?_map, List.getElem?_eq_getElem h]; rfl
theorem sI_at {on : Nat → Nat → Bool} {L : List Cm} {o : Nat → Bool} {nm : Nat → Rat} {n g : Nat} : sIt on (atI L o nm n) g = qs (List.range n) fun i => if o i = true then (if on ((L.map (·.pl)).getD i 0) g = true then nm i else 0) else 0 := by
  rw [sIt, atI, qs_map, qs_filter]
theorem sI_unit {on : Nat → Nat → Bool} {L : List Cm} {T : List Rat} {O : List Bool} (h1 : T.length = L.length) (h2 : O.length = L.length) (g : Nat) : sIt on (atI L (fun k => O.getD k false) (amK L) L.length) g = unitZ on (zz L T O) g := by
  have h3 := qs_range (fun z : Cm × Rat × Bool => if (on z.1.pl g && z.2.2) = true then z.1.am else 0) (zz L T O) (zz L T O).length (Nat.le_refl _)
  rw [List.take_length] at h3
  rw [sI_at, unitZ, h3, zz_len h1 h2]
  refine qs_congr fun i hi => ?_
  have hil := List.mem_range.1 hi
  rw [amK_at hil]
  simp only [List.getD_eq_getElem?_getD, List.getElem?_map, List.getElem?_eq_getElem hil, List.getElem?_eq_getElem (show i < O.length by omega), List.getElem?_eq_getElem (show i < (zz L T O).length by rw [zz_len h1 h2]; exact hil), zz_get hil (show i < T.length by omega) (show i < O.length by omega), Option.map_some, Option.getD_some]
  cases O[i] <;> cases on L[i].pl g <;> rfl
theorem qmin_shift (c p x : Rat) : qmin (c - p) x = qmin c (p + x) - p := by unfold qmin; grind
theorem rsT_grow {R : List Rch} {Gs : List Rat} {L : List Cm} {r : Nat} {T : List Rat} {O : List Bool} {p : Rat} (h : Rnd R Gs L r T O p) (q : Rat) (g : Nat) : rsT R Gs L (grT L T O q) g = rsT R Gs L T g - unitZ (onR R) (zz L T O) g * (q - p) := by
  have h1 := used_mid (on := onR R) (p' := q) (fun z hz hp => (h.inv.op z hz hp).2.2) g
  rw [mid_zz h.lt h.lo, tks_zz (grT_len h.lt h.lo q) h.lo, tks_zz h.lt h.lo] at h1
  rw [rsT, rsT, h1]; grind
theorem atI_big {L : List Cm} {o : Nat → Bool} {nm : Nat → Rat} {k : Nat} (hk : 1 ≤ k) (hk2 : k ≤ 100000) (hl : L.length ≤ 205) (hn : ∀ i, fewQ k (rQ (nm i))) (on : Nat → Nat → Bool) (i g : Nat) : big (sIt on ((atI L o nm L.length).take i) g) := by
  refine fewQ.big (k := (k + 1) * ((atI L o nm L.length).take i).length + 1) ?_ ?_
  · refine few_qs hk fun x hx => ?_
    split
    · obtain ⟨j, _, rfl⟩ := List.mem_map.1 (List.mem_of_mem_take hx)
      exact hn j
    · exact fewQ_zero
  · have h1 : ((atI L o nm L.length).take i).length ≤ 205 := by
      rw [List.length_take, atI, List.length_map]
      have := List.length_filter_le o (List.range L.length)
      rw [List.length_range] at this
      omega
    have h2 : (k + 1) * ((atI L o nm L.length).take i).length ≤ 100001 * 205 := Nat.mul_le_mul (by omega) h1
    omega
theorem atI_pl {L : List Cm} {o : Nat → Bool} {nm : Nat → Rat} {n : Nat} (hC : ∀ c ∈ L, c.pl < n) {e : Nat × Rat} (he : e ∈ atI L o nm L.length) : e.1 < n ∧ ∃ i, e.2 = nm i := by
  obtain ⟨i, hi, rfl⟩ := List.mem_map.1 he
  have hil := List.mem_range.1 (List.mem_filter.1 hi).1
  refine ⟨?_, i, rfl⟩
  dsimp only
  rw [List.getD_eq_getElem?_getD, List.getElem?_map, List.getElem?_eq_getElem hil]
  exact hC _ (List.getElem_mem hil)
/-! ### closures -/
theorem aIs_holds (w0 : World) (M : List Row) (w : World) (B15 Bb : Nat) (O : List Bool) (m tot k : Nat) (hm : O.length = m) (hk : k < m) (hw : Sat w0 ([.blk B15 79 [.slice (some ⟨Bb, 0, none⟩) m m] 1, .blk Bb 4 (flat oV O) tot] ++ M) w) :
    Calls Tryz.prog 40 (#[.int .i64 k] ++ #[.pointer (some ⟨B15, 0, none⟩)]) w fun e w' => e = .returned (.bool (O.getD k false)) ∧ Below w.heap.size w w' := by
  have hq1 := oGet (O := O) (k := k) (List.getElem?_eq_getElem (by omega))
  rw [List.getD_eq_getElem?_getD, List.getElem?_eq_getElem (by omega), Option.getD_some]
  have hsa : SlAt w (some ⟨Bb, 0, none⟩) 1 (O.map oV) := SlAt.ofBlk oV_len hw (.tail _ (.head _))
  have hb := hw.cellBlk (b := B15) (.head _) (j := 0) rfl
  have hlt := ((hw.old _ (.head _)).2 B15 rfl).2
  obtain ⟨bo, oo, e1, hro⟩ := SlAt.all hsa (by omega)
  cases e1
  have hrk := hro k (by omega)
  clear hro hq1 hsa
  generalize O[k]'_ = b at *
  dsimp only [oV] at hrk
  refine enterA [(0, .int .i64 k), (1, .pointer (some ⟨B15, 0, none⟩))] Tryz.func40 Tryz.ntmps40 ?_
  all_goals (refine go ?_; and_intros <;> (try exact trivial) <;> repeat (first | refine fun (Bk : Nat) => ?_ | intro h))
  repeat' ((first | (apply G.ld; rfl; (apply LdV.one; exact CellV.old hb hlt); rfl)) <;> (refine go ?_; and_intros <;> (try exact trivial) <;> repeat (first | refine fun (Bk : Nat) => ?_ | intro h)))
  all_goals refine ret1b Tryz.func40 Tryz.results40 ?_
  all_goals rfl
theorem aNm_holds (w0 : World) (M : List Row) (w : World) (B3 : Nat) (la : Option Addr) (L : List Cm) (lc k : Nat) (hL : SlAt w0 la 5 (L.map cmV)) (hk : k < L.length) (hw : Sat w0 ([.blk B3 26 [.slice la L.length lc] 1] ++ M) w) :
    Calls Tryz.prog 43 (#[.int .i64 k] ++ #[.pointer (some ⟨B3, 0, none⟩)]) w fun e w' => e = .returned (qA (rQ (amK L k))) ∧ Below w.heap.size w w' := by
  have hb := hw.cellBlk (b := B3) (.head _) (j := 0) rfl
  have hlt := ((hw.old _ (.head _)).2 B3 rfl).2
  obtain ⟨bl, ol, rfl, hrl⟩ := SlAt.all (hL.below hw.below) (by omega)
  have hrk := hrl k hk
  rw [amK_at hk]
  rw [cmV, qF] at hrk
  clear hrl hL
  generalize rQ L[k].am = q at *
  obtain ⟨s1, u1, v1⟩ := q
  dsimp only [qV, qA] at *
  refine enterA [(0, .int .i64 k), (1, .pointer (some ⟨B3, 0, none⟩))] Tryz.func43 Tryz.ntmps43 ?_
  all_goals (refine go ?_; and_intros <;> (try exact trivial) <;> repeat (first | refine fun (Bk : Nat) => ?_ | intro h))
  repeat' ((first | (apply G.ld; rfl; (apply LdV.one; exact CellV.old hb hlt); rfl)) <;> (refine go ?_; and_intros <;> (try exact trivial) <;> repeat (first | refine fun (Bk : Nat) => ?_ | intro h)))
  all_goals refine ret1b Tryz.func43 Tryz.results43 ?_
  all_goals rfl
theorem lIs_holds (w : World) (k : Nat) : Calls Tryz.prog 55 (#[.int .i64 k] ++ #[]) w fun e w' => e = .returned (.bool true) ∧ Below w.heap.size w w' := by
  refine enterA [(0, .int .i64 k)] Tryz.func55 Tryz.ntmps55 ?_
  all_goals (refine go ?_; and_intros <;> (try exact trivial) <;> repeat (first | refine fun (Bk : Nat) => ?_ | intro h))
  all_goals refine ret1b Tryz.func55 Tryz.results55 ?_
  all_goals rfl
theorem lNm_holds (w0 : World) (M : List Row) (w : World) (B5 : Nat) (ta : Option Addr) (T : List Rat) (tc k : Nat) (hT : SlAt w0 ta 3 (T.map qF)) (hk : k < T.length) (hw : Sat w0 ([.blk B5 23 [.slice ta T.length tc] 1] ++ M) w) :
    Calls Tryz.prog 56 (#[.int .i64 k] ++ #[.pointer (some ⟨B5, 0, none⟩)]) w fun e w' => e = .returned (qA (rQ (fsq T k))) ∧ Below w.heap.size w w' := by
  have hb := hw.cellBlk (b := B5) (.head _) (j := 0) rfl
  have hlt := ((hw.old _ (.head _)).2 B5 rfl).2
  obtain ⟨bl, ol, rfl, hrl⟩ := SlAt.all (hT.below hw.below) (by omega)
  have hrk := hrl k hk
  rw [fsq_lt hk]
  rw [qF] at hrk
  clear hrl hT
  generalize rQ T[k] = q at *
  obtain ⟨s1, u1, v1⟩ := q
  dsimp only [qV, qA] at *
  refine enterA [(0, .int .i64 k), (1, .pointer (some ⟨B5, 0, none⟩))] Tryz.func56 Tryz.ntmps56 ?_
  all_goals (refine go ?_; and_intros <;> (try exact trivial) <;> repeat (first | refine fun (Bk : Nat) => ?_ | intro h))
  repeat' ((first | (apply G.ld; rfl; (apply LdV.one; exact CellV.old hb hlt); rfl)) <;> (refine go ?_; and_intros <;> (try exact trivial) <;> repeat (first | refine fun (Bk : Nat) => ?_ | intro h)))
  all_goals refine ret1b Tryz.func56 Tryz.results56 ?_
  all_goals rfl
/-! ### whether one is open -/
theorem indexB_holds (a : Option Addr) (O : List Bool) (c : Nat) (w : World) (hA : SlAt w a 1 (O.map oV)) (hl : O.length ≤ 1000000) :
    Calls Tryz.prog 77 #[.slice a O.length c, .bool true] w fun e w' => ∃ x : { x : Int // 0 ≤ x ↔ O.any id = true }, e = .returned (.int .i64 x.1) ∧ Below w.heap.size w w' := by
  refine enterA [(0, .slice a O.length c), (1, .bool true)] Tryz.func77 Tryz.ntmps77 ?_
  all_goals (refine go ?_; and_intros <;> (try exact trivial) <;> repeat (first | refine fun (Bk : Nat) => ?_ | intro h))
  refine J.loop (c := _) (0 : Nat) (fun s => O.length - s) (fun s => [(0, .slice a O.length c), (1, .bool true), (7, .int .i64 O.length), (8, .int .i64 s)]) (fun s => []) (fun s => s ≤ O.length ∧ ∀ i (h : i < O.length), i < s → O[i] = false) ?_ sbT sbL ?_
  · exact ⟨Nat.zero_le _, fun i h h2 => absurd h2 (Nat.not_lt_zero _)⟩
  intro k ⟨h1, h2⟩ ih
  by_cases hk : k < O.length
  · obtain ⟨ba, oa, rfl, hra⟩ := SlAt.all hA (by omega)
    have hr := hra k hk
    have ih := fun (h : O[k] = false) => ih (k + 1) ⟨hk, fun i hi h3 => by
      rcases Nat.lt_or_ge i k with h4 | h4
      · exact h2 i hi h4
      · obtain rfl : i = k := by omega
        exact h⟩ (by omega)
    have hyes : O[k] = true → O.any id = true := fun h => List.any_eq_true.2 ⟨_, List.getElem_mem hk, h⟩
    clear hra h2
    generalize O[k] = b at *
    dsimp only [oV] at hr
    cases b
    · have ih := ih rfl
      all_goals (refine go ?_; and_intros <;> (try exact trivial) <;> repeat (first | refine fun (Bk : Nat) => ?_ | intro h))
      exact J.fin ih
    · have hyes := hyes rfl
      all_goals (refine go ?_; and_intros <;> (try exact trivial) <;> repeat (first | refine fun (Bk : Nat) => ?_ | intro h))
      (refine ret1 Tryz.func77 Tryz.results77 ?_; intro w' hw)
      exact ⟨⟨k, fun _ => hyes, fun _ => by omega⟩, rfl, hw.below⟩
  · have hno : O.any id = false := by
      rw [List.any_eq_false]
      intro b hb hb2
      obtain ⟨i, hi, rfl⟩ := List.getElem_of_mem hb
      rw [h2 i hi (by omega)] at hb2; cases hb2
    clear ih
    all_goals (refine go ?_; and_intros <;> (try exact trivial) <;> repeat (first | refine fun (Bk : Nat) => ?_ | intro h))
    (refine ret1 Tryz.func77 Tryz.results77 ?_; intro w' hw)
    exact ⟨⟨-1, fun h => by omega, fun h => by rw [hno] at h; cases h⟩, rfl, hw.below⟩
theorem containsB_holds (a : Option Addr) (O : List Bool) (c : Nat) (w : World) (hA : SlAt w a 1 (O.map oV)) (hl : O.length ≤ 1000000) :
    Calls Tryz.prog 41 #[.slice a O.length c, .bool true] w fun e w' => e = .returned (.bool (O.any id)) ∧ Below w.heap.size w w' := by
  have hi := fun w' (hb : Below w.heap.size w w') => indexB_holds a O c w' (hA.below hb) hl
  generalize O.any id = b at *
  refine enterA [(0, .slice a O.length c), (1, .bool true)] Tryz.func41 Tryz.ntmps41 ?_
  all_goals (refine go ?_; and_intros <;> (try exact trivial) <;> repeat (first | refine fun (Bk : Nat) => ?_ | intro h))
  repeat' ((first | (refine G.cX (g := 77) (X := { x : Int // 0 ≤ x ↔ b = true }) (v := fun x => .int .i64 x.1) (fun w' hb => hi w' hb) ?_; rintro ⟨x, hx⟩; dsimp only)) <;> (refine go ?_; and_intros <;> (try exact trivial) <;> repeat (first | refine fun (Bk : Nat) => ?_ | intro h)))
  all_goals refine ret1b Tryz.func41 Tryz.results41 ?_
  all_goals
    cases b
    all_goals first
      | rfl
      | (exfalso; simp at hx; omega)
end Go.Proofs.YteaccaieaigeaaaGreatDoor
/-
  Contracts of rights: the ranks of claims, in order; slices of one's own that nobody writes any more.
-/
namespace Go.Sl
open Go.RowKit Go.Proofs.YteaccaieaigeaaaGreatDoor
variable {C : Ctx} {st : List (Nat × Value)} {M : List Row} {k : List Item}
theorem J.ownSlF {A : Type} {f : A → List Value} {base n c E sz : Nat} {a : Option Addr} {l : List A} {M' : List Row} (hf : ∀ x, (f x).length = sz) (hp : Pick (.own base (.slice a n c) E sz n (flat f l)) M M') (hn : l.length = n) (h : J C st (slRow C.w0.heap.size a sz (l.map f) :: M') k) : J C st M k := .mk fun ac w hfit hd hw => by
  have hw2 := hw.perm hp.perm
  have h1 := SlAt.ofOwn hf (hw2.hold _ (.head _)) hn
  refine h.go ac w hfit hd ((hw2.forget (List.sublist_cons_self _ _)).addSl h1 fun p hp2 r hr hl => ?_)
  subst hp2
  exact ((List.pairwise_cons.1 hw2.apart).1 r hr p.block).1 rfl (Row.lock_sup hl)
end Go.Sl
namespace Go.Proofs.YteaccaieaigeaaaGreatDoor
open Go.RowKit Go.Sl Go.Num
theorem keys_put (x : Int) (v : Value) : ∀ Ls : List (Int × Value), (putM x v Ls).map (·.1) = if x ∈ Ls.map (·.1) then Ls.map (·.1) else Ls.map (·.1) ++ [x]
  | [] => by simp [putM]
  | (y, u) :: r => by
    rw [putM]
    by_cases h : x = y
    · subst h; rw [if_pos rfl, if_pos (by simp)]; rfl
    · rw [if_neg h, List.map_cons, keys_put x v r]
      by_cases h2 : x ∈ r.map (·.1)
      · rw [if_pos h2, if_pos (by rw [List.map_cons]; exact List.mem_cons_of_mem _ h2)]; rfl
      · rw [if_neg h2, if_neg (by rw [List.map_cons, List.mem_cons]; exact fun h3 => h3.elim h h2)]; rfl
/-- Ks are the ranks of claims. -/
def RkIs (L : List Cm) (Ks : List Int) : Prop := ∀ x : Int, x ∈ Ks ↔ ∃ c ∈ L, (c.rk : Int) = x
theorem RkIs.next {L : List Cm} {k : Nat} (hk : k < L.length) {Ls : List (Int × Value)} (h : RkIs (L.take k) (Ls.map (·.1))) (v : Value) : RkIs (L.take (k + 1)) ((putM (L[k].rk : Int) v Ls).map (·.1)) := fun x => by
  have h1 : x ∈ (putM (L[k].rk : Int) v Ls).map (·.1) ↔ x ∈ Ls.map (·.1) ∨ x = L[k].rk := by
    rw [keys_put]
    split
    · rename_i h2
      exact ⟨.inl, fun h3 => h3.elim id fun e => e ▸ h2⟩
    · rw [List.mem_append, List.mem_singleton]
  have h2 : L.take (k + 1) = L.take k ++ [L[k]] := by rw [List.take_add_one, List.getElem?_eq_getElem hk]; rfl
  rw [h1, h x, h2]
  constructor
  · rintro (⟨c, hc, e⟩ | e)
    · exact ⟨c, List.mem_append_left _ hc, e⟩
    · exact ⟨L[k], List.mem_append_right _ (List.mem_singleton.2 rfl), e.symm⟩
  · rintro ⟨c, hc, e⟩
    rcases List.mem_append.1 hc with hc | hc
    · exact .inl ⟨c, hc, e⟩
    · rw [List.mem_singleton] at hc; subst hc
      exact .inr e.symm
/-- The rank behind the first i ones. -/
def nxR (S : List Int) (i : Nat) : Nat := if i = 0 then 0 else (S.getD (i - 1) 0).toNat + 1
structure RkSo (L : List Cm) (S : List Int) : Prop where
  lt : S.Pairwise (· < ·)
  mem : RkIs L S
theorem RkSo.of {L : List Cm} {S Ks : List Int} (h : RkIs L Ks) (hn : Ks.Nodup) (hp : S.Perm Ks) (hs : S.Pairwise (· ≤ ·)) : RkSo L S := by
  refine ⟨?_, fun x => by rw [hp.mem_iff]; exact h x⟩
  have h1 : S.Nodup := (hp.nodup_iff).2 hn
  have h2 := List.Pairwise.and hs h1
  exact h2.imp fun ⟨h3, h4⟩ => by omega
theorem RkSo.nn {L : List Cm} {S : List Int} (h : RkSo L S) {i : Nat} (hi : i < S.length) : 0 ≤ S[i] := by
  obtain ⟨c, _, e⟩ := (h.mem S[i]).1 (List.getElem_mem hi)
  omega
theorem RkSo.skip {L : List Cm} {S : List Int} (h : RkSo L S) {i : Nat} (hi : i < S.length) (R : List Rch) (Gs : List Rat) : allT R Gs L S[i].toNat = allT R Gs L (nxR S i) ∧ nxR S (i + 1) = S[i].toNat + 1 := by
  have hle : nxR S i ≤ S[i].toNat := by
    rw [nxR]
    split
    · exact Nat.zero_le _
    · have h1 := List.pairwise_iff_getElem.1 h.lt (i - 1) i (by omega) hi (by omega)
      have h2 := h.nn (i := i - 1) (by omega)
      rw [List.getD_eq_getElem?_getD, List.getElem?_eq_getElem (by omega), Option.getD_some]
      omega
  refine ⟨?_, ?_⟩
  · obtain ⟨d, hd⟩ : ∃ d, S[i].toNat = nxR S i + d := ⟨S[i].toNat - nxR S i, by omega⟩
    rw [hd]
    refine allT_skip _ _ fun c hc hr => ?_
    obtain ⟨j, hj, e⟩ := List.getElem_of_mem ((h.mem (c.rk : Int)).2 ⟨c, hc, rfl⟩)
    have h3 : S[j] < S[i] := by have := h.nn hi; omega
    have h4 : j < i := by
      apply Nat.lt_of_not_le
      intro h5
      rcases Nat.lt_or_ge i j with h6 | h6
      · have := List.pairwise_iff_getElem.1 h.lt i j hi hj h6; omega
      · obtain rfl : i = j := by omega
        omega
    have h5 : S[j] ≤ S[i - 1]'(by omega) := by
      rcases Nat.lt_or_ge j (i - 1) with h6 | h6
      · have := List.pairwise_iff_getElem.1 h.lt j (i - 1) hj (by omega) h6; omega
      · obtain rfl : j = i - 1 := by omega
        exact Int.le_refl _
    have h6 := hr.1
    rw [nxR, if_neg (by omega), List.getD_eq_getElem?_getD, List.getElem?_eq_getElem (by omega), Option.getD_some] at h6
    omega
  · rw [nxR, if_neg (by omega), Nat.add_sub_cancel, List.getD_eq_getElem?_getD, List.getElem?_eq_getElem hi, Option.getD_some]
theorem RkSo.fin {L : List Cm} {S : List Int} (h : RkSo L S) (hc : ∀ c ∈ L, c.rk ≤ 100) (R : List Rch) (Gs : List Rat) : allT R Gs L 101 = allT R Gs L (nxR S S.length) := by
  have hle : nxR S S.length ≤ 101 := by
    rw [nxR]
    split
    · exact Nat.zero_le _
    · obtain ⟨c, h1, h2⟩ := (h.mem (S[S.length - 1]'(by omega))).1 (List.getElem_mem _)
      have := hc c h1
      rw [List.getD_eq_getElem?_getD, List.getElem?_eq_getElem (by omega), Option.getD_some]
      omega
  obtain ⟨d, hd⟩ : ∃ d, 101 = nxR S S.length + d := ⟨101 - nxR S S.length, by omega⟩
  rw [hd]
  refine allT_skip _ _ fun c hc hr => ?_
  obtain ⟨j, hj, e⟩ := List.getElem_of_mem ((h.mem (c.rk : Int)).2 ⟨c, hc, rfl⟩)
  have h5 : S[j] ≤ S[S.length - 1]'(by omega) := by
    rcases Nat.lt_or_ge j (S.length - 1) with h6 | h6
    · have := List.pairwise_iff_getElem.1 h.lt j (S.length - 1) hj (by omega) h6; omega
    · obtain rfl : j = S.length - 1 := by omega
      exact Int.le_refl _
  have h6 := hr.1
  rw [nxR, if_neg (by omega), List.getD_eq_getElem?_getD, List.getElem?_eq_getElem (by omega), Option.getD_some] at h6
  omega
/-! ### a round -/
theorem zeroB (m : Nat) (N : List Bool) : flat (fun x : List Value => x) (List.replicate m [Value.bool false]) = flat oV (mixL N (List.replicate m false) 0) := by
  rw [mixL_zero]
  induction m with
  | zero => rfl
  | succ m ih => rw [List.replicate_succ, List.replicate_succ, flat_cons, flat_cons, ih]; rfl
/-- Whether a claim stays open, by the first i gauges of its way. -/
def stO (R : List Rch) (f : Nat → Rat) (p : Nat) (b : Bool) (i : Nat) : Bool := b && (List.range i).all fun j => decide (f (itr R j (p : Int)).toNat ≠ 0)
theorem stO_succ (R : List Rch) (f : Nat → Rat) (p : Nat) (b : Bool) (i : Nat) : stO R f p b (i + 1) = (stO R f p b i && decide (f (itr R i (p : Int)).toNat ≠ 0)) := by
  rw [stO, stO, List.range_succ, List.all_append, List.all_cons, List.all_nil, Bool.and_true, Bool.and_assoc]
theorem stO_end {R : List Rch} (hR : Riv R) {f : Nat → Rat} {p : Nat} (hp : p < R.length) (b : Bool) : stO R f p b (dpt R (p : Int)) = (b && !dryZ (onR R) R.length f p) := by
  rw [stO]
  congr 1
  rw [Bool.eq_iff_iff, List.all_eq_true, Bool.not_eq_true', dryZ, List.any_eq_false]
  have hm := fun g => mem_wayN hR hp (g := g)
  simp only [wayN, List.mem_map] at hm
  constructor
  · intro h g hg hc
    rw [Bool.and_eq_true, decide_eq_true_eq] at hc
    obtain ⟨j, h1, rfl⟩ := (hm g).2 hc.1
    exact of_decide_eq_true (h j h1) hc.2
  · intro h j hj
    have h1 := (hm _).1 ⟨j, hj, rfl⟩
    refine decide_eq_true fun hc => h _ (List.mem_range.2 (onR_lt hR hp h1)) ?_
    rw [h1, hc, decide_eq_true rfl]; rfl
end Go.Proofs.YteaccaieaigeaaaGreatDoor
