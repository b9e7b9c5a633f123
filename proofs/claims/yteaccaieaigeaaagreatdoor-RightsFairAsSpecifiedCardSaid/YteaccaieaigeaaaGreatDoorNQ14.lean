/-
  Contracts of rights: what bounds a claim, by the specification.
-/
import Derived.Test.YteaccaieaigeaaaGreatDoorNQ13
set_option linter.unusedVariables false
set_option linter.unusedSimpArgs false
set_option linter.unusedSectionVars false
namespace Go.Proofs.YteaccaieaigeaaaGreatDoor
open Go.RowKit Go.Sl Go.Num
theorem part_holds (c : Cm) (t : Rat) (w : World) (hc : big c.am) (ht : big t) (h0 : c.am ≠ 0) : Calls Tryz.prog 91 #[.agg (cmV c).toArray, qA (rQ t)] w fun e w' => e = .returned (qA (rQ (t / c.am))) ∧ Below w.heap.size w w' := by
  have hd := sDiv ht hc h0
  obtain ⟨pl, rk, am⟩ := c
  rw [cmV, qF]
  dsimp only at *
  generalize rQ (t / am) = q3 at *
  generalize rQ am = q1 at *
  generalize rQ t = q2 at *
  obtain ⟨s1, u1, v1⟩ := q1
  obtain ⟨s2, u2, v2⟩ := q2
  obtain ⟨s3, u3, v3⟩ := q3
  dsimp only [qV, qA] at *
  refine enterA [(0, .agg #[.int .i64 (pl : Nat), .int .i64 (rk : Nat), .bool s1, .string (bs u1), .string (bs v1)]), (1, .agg #[.bool s2, .string (bs u2), .string (bs v2)])] Tryz.func91 Tryz.ntmps91 ?_
  all_goals (refine go ?_; and_intros <;> (try exact trivial) <;> repeat (first | refine fun (Bk : Nat) => ?_ | intro h))
  repeat' ((first | (apply G.cV (g := 112); rfl; rfl; exact fun w' _ => hd w')) <;> (refine go ?_; and_intros <;> (try exact trivial) <;> repeat (first | refine fun (Bk : Nat) => ?_ | intro h)))
  all_goals refine ret1b Tryz.func91 Tryz.results91 ?_
  all_goals rfl
theorem part_cmp {x y a b : Rat} (ha : 0 < a) (hb : 0 < b) : 0 < sgnR (x / a - y / b) ↔ y * a < x * b := by
  have h1 : x / a * a = x := Rat.div_mul_cancel (by grind)
  have h2 : y / b * b = y := Rat.div_mul_cancel (by grind)
  generalize x / a = p at *
  generalize y / b = q at *
  subst h1 h2
  have h3 := sgn_le (a := p) (b := q)
  constructor
  · intro h
    have h4 : q < p := by
      apply Decidable.byContradiction
      intro h5
      have := h3.2 (by grind)
      omega
    have h5 := Rat.mul_lt_mul_of_pos_right (Rat.mul_lt_mul_of_pos_right h4 ha) hb
    grind
  · intro h
    apply Decidable.byContradiction
    intro h4
    have h5 := h3.1 (by omega)
    have h6 := Rat.mul_le_mul_of_nonneg_right (Rat.mul_le_mul_of_nonneg_right h5 (c := a) (by grind)) (c := b) (by grind)
    grind
set_option maxHeartbeats 16000000 in
theorem bounds_holds (w : World) (ra : Option Addr) (R : List Rch) (rc : Nat) (ga : Option Addr) (Gs : List Rat) (gc : Nat) (la : Option Addr) (L : List Cm) (lc : Nat) (ta : Option Addr) (T : List Rat) (tc k g : Nat)
    (hS : SupAt w ra R ga (Gs.map qF)) (hsu : SupOk R Gs) (hL : SlAt w la 5 (L.map cmV)) (hC : ClOk R.length L) (hT : SlAt w ta 3 (T.map qF)) (hK : tkOk L T) (hk : k < L.length) (hk2 : k < T.length) (ha0 : L[k].am ≠ 0) :
    Calls Tryz.prog 60 #[.agg #[.slice ra R.length rc, .slice ga Gs.length gc], .slice la L.length lc, .slice ta L.length tc, .int .i64 k, .int .i64 g] w fun e w' => e = .returned (.bool (bndB (onR R) R.length (fsq Gs) (L.zip T) (L[k], T[k]) g)) ∧ Below w.heap.size w w' := by
  have hR := riv_of hsu.riv
  have hl := hC.len
  have htl := hK.1
  have hrs := fun w' (hb : Below w.heap.size w w') => rest_holds w' ra R rc ga Gs gc la L lc ta T tc g (hS.below hb) hsu (hL.below hb) hC (hT.below hb) hK
  have hrs : ∀ w' (hb : Below w.heap.size w w'), Calls Tryz.prog 58 #[.agg #[.slice ra R.length rc, .slice ga Gs.length gc], .slice la L.length lc, .slice ta L.length tc, .int .i64 g] w' fun e w2 => e = .returned (qA (rQ (rsT R Gs L T g))) ∧ Below w'.heap.size w' w2 := hrs
  have hbl := fun (p : Nat) (hp : p < R.length) w' (hb : Below w.heap.size w w') => below_holds ra R rc g p w' (hS.riv.below hb) hR hp
  have hbn : bndB (onR R) R.length (fsq Gs) (L.zip T) (L[k], T[k]) g = (!((L.zip T).any (badB (onR R) (L[k], T[k]) g)) && decide (rsT R Gs L T g = 0)) := rfl
  have hzb : ∀ i (h1 : i < L.length) (h2 : i < T.length), badB (onR R) (L[k], T[k]) g (L[i], T[i]) = true → (L.zip T).any (badB (onR R) (L[k], T[k]) g) = true := fun i h1 h2 h => by
    rw [List.any_eq_true]
    refine ⟨(L[i], T[i]), ?_, h⟩
    rw [← List.getElem_zip (h := by rw [List.length_zip]; omega)]
    exact List.getElem_mem _
  have hzn : (∀ i (h1 : i < L.length) (h2 : i < T.length), badB (onR R) (L[k], T[k]) g (L[i], T[i]) = false) → (L.zip T).any (badB (onR R) (L[k], T[k]) g) = false := fun h => by
    rw [List.any_eq_false]
    intro z hz hb
    obtain ⟨j, hj, rfl⟩ := List.getElem_of_mem hz
    rw [List.length_zip] at hj
    rw [List.getElem_zip, h j (by omega) (by omega)] at hb
    cases hb
  have hbad : ∀ i (h1 : i < L.length) (h2 : i < T.length), badB (onR R) (L[k], T[k]) g (L[i], T[i]) = (onR R L[i].pl g && (decide (L[i].am ≠ 0) && (decide (L[k].rk < L[i].rk ∧ T[i] ≠ 0) || decide (L[i].rk = L[k].rk ∧ T[k] * L[i].am < T[i] * L[k].am)))) := fun i h1 h2 => rfl
  have hcf := fun i (h : i < L.length) => hC.few _ (List.getElem_mem h)
  have hcn := fun i (h : i < L.length) => hC.nn _ (List.getElem_mem h)
  have hcp := fun i (h : i < L.length) => hC.pl _ (List.getElem_mem h)
  have htf := fun i (h : i < T.length) => hK.2 _ (List.getElem_mem h)
  have hkf := hcf k hk
  have hkn := hcn k hk
  have hpk := fun w' => part_holds L[k] T[k] w' (hkf.big (by decide)) ((htf k hk2).big (by decide)) ha0
  obtain ⟨bl, ol, rfl, hrl⟩ := SlAt.all hL (by omega)
  obtain ⟨bt, ot, rfl, hrt⟩ := SlAt.all hT (by omega)
  have hrlk := hrl k hk
  have hrtk := hrt k hk2
  have htk := htf k hk2
  rw [hbn]
  clear hbn hS hsu hL hC hT hK
  have hz := rQ_zero (x := rsT R Gs L T g)
  generalize rsT R Gs L T g = rs at *
  generalize (L.zip T).any (badB (onR R) (L[k], T[k]) g) = bd at *
  generalize badB (onR R) (L[k], T[k]) g = BB at *
  generalize hclk : L[k] = ck at *
  generalize htkk : T[k]'_ = tk at *
  generalize rQ rs = qr at *
  obtain ⟨s0, u0, v0⟩ := qr
  obtain ⟨plk, rkk, amk⟩ := ck
  rw [cmV, qF] at hrlk
  rw [cmV, qF] at hpk
  rw [qF] at hrtk
  dsimp only at *
  refine enterA [(0, .agg #[.slice ra R.length rc, .slice ga Gs.length gc]), (1, .slice (some ⟨bl, ol, none⟩) L.length lc), (2, .slice (some ⟨bt, ot, none⟩) L.length tc), (3, .int .i64 k), (4, .int .i64 g)] Tryz.func60 Tryz.ntmps60 ?_
  by_cases h0 : rs = 0
  case neg =>
    rw [decide_eq_false h0, Bool.and_false]
    have hz : ¬ _ := fun e => h0 (hz.1 e)
    dsimp only [qA] at hrs
    all_goals (refine go ?_; and_intros <;> (try exact trivial) <;> repeat (first | refine fun (Bk : Nat) => ?_ | intro h))
    repeat' ((first | (apply G.cV (g := 58); rfl; rfl; exact fun w' hw' => hrs w' hw'.below) | (apply G.neR ⟨s0, u0, v0⟩ zero3; rfl; rfl; rfl; all_goals intro h; all_goals try (exact absurd h hz))) <;> (refine go ?_; and_intros <;> (try exact trivial) <;> repeat (first | refine fun (Bk : Nat) => ?_ | intro h)))
    all_goals refine ret1b Tryz.func60 Tryz.results60 ?_
    all_goals rfl
  rw [decide_eq_true h0, Bool.and_true]
  have hz := hz.2 h0
  dsimp only [qA] at hrs
  all_goals (refine go ?_; and_intros <;> (try exact trivial) <;> repeat (first | refine fun (Bk : Nat) => ?_ | intro h))
  repeat' ((first | (apply G.cV (g := 58); rfl; rfl; exact fun w' hw' => hrs w' hw'.below) | (apply G.neR ⟨s0, u0, v0⟩ zero3; rfl; rfl; rfl; all_goals intro h; all_goals try (exact absurd hz h))) <;> (refine go ?_; and_intros <;> (try exact trivial) <;> repeat (first | refine fun (Bk : Nat) => ?_ | intro h)))
  refine J.loop (c := _) (0 : Nat) (fun s => L.length - s) (fun s => [(1, .slice (some ⟨bl, ol, none⟩) L.length lc), (2, .slice (some ⟨bt, ot, none⟩) L.length tc), (3, .int .i64 k), (4, .int .i64 g), (5, .pointer (some ⟨Bk, 0, none⟩)), (11, .int .i64 s)]) (fun s => [.blk Bk 25 [.slice ra R.length rc, .slice ga Gs.length gc] 2]) (fun s => s ≤ L.length ∧ ∀ i (h1 : i < L.length) (h2 : i < T.length), i < s → BB (L[i], T[i]) = false) ?_ sbT sbL ?_
  · exact ⟨Nat.zero_le _, fun i _ _ h => absurd h (Nat.not_lt_zero _)⟩
  clear hrs hz
  intro i ⟨i1, i2⟩ ih
  by_cases hi : i < L.length
  case neg =>
    obtain rfl : i = L.length := by omega
    have hbf := hzn fun j h1 h2 => i2 j h1 h2 h1
    subst hbf
    clear ih i2 hzn hzb hbad
    all_goals (refine go ?_; and_intros <;> (try exact trivial) <;> repeat (first | refine fun (Bk : Nat) => ?_ | intro h))
    all_goals refine ret1b Tryz.func60 Tryz.results60 ?_
    all_goals rfl
  have hri := hrl i hi
  have hti := hrt i (by omega)
  have hbi := hbad i hi (by omega)
  have hzi := hzb i hi (by omega)
  have hfi := hcf i hi
  have hni := hcn i hi
  have hbl := hbl L[i].pl (hcp i hi)
  have hgi := htf i (by omega)
  have hpi := fun (h : L[i].am ≠ 0) w' => part_holds L[i] T[i] w' (hfi.big (by decide)) (hgi.big (by decide)) h
  have ihN := fun (hb : BB (L[i], T[i]) = false) => ih (i + 1) ⟨hi, fun j h1 h2 h3 => by
    rcases Nat.lt_or_ge j i with h4 | h4
    · exact i2 j h1 h2 h4
    · obtain rfl : j = i := by omega
      exact hb⟩ (by omega)
  clear ih i2 hzn hzb hbad hcf hcn hcp htf hrl hrt hclk htkk
  generalize BB (L[i], T[i]) = bi at *
  generalize L[i] = ci at *
  generalize T[i]'_ = ti at *
  obtain ⟨pli, rki, ami⟩ := ci
  rw [cmV, qF] at hri
  rw [cmV, qF] at hpi
  rw [qF] at hti
  dsimp only at *
  have hcm := fun (h1 : 0 < ami) (h2 : 0 < amk) => part_cmp (x := ti) (y := tk) h1 h2
  have hqa : fewQ 30100 (rQ (ti / ami)) := fewQ_quo hgi hfi (by decide) (by decide)
  have hqb : fewQ 30100 (rQ (tk / amk)) := fewQ_quo htk hkf (by decide) (by decide)
  have hcp := sCmp' (hqa.big (by decide)) (hqb.big (by decide))
  have hz1 := rQ_zero (x := ami)
  have hz2 := rQ_zero (x := ti)
  clear hqa hqb hfi hgi htk hkf
  generalize sgnR (ti / ami - tk / amk) = sg at *
  generalize rQ (ti / ami) = qx at *
  generalize rQ (tk / amk) = qy at *
  generalize rQ ami = q1 at *
  generalize rQ ti = q2 at *
  generalize rQ amk = q3 at *
  generalize rQ tk = q4 at *
  obtain ⟨s1, u1, v1⟩ := q1
  obtain ⟨s2, u2, v2⟩ := q2
  obtain ⟨s3, u3, v3⟩ := q3
  obtain ⟨s4, u4, v4⟩ := q4
  obtain ⟨sx, ux, vx⟩ := qx
  obtain ⟨sy, uy, vy⟩ := qy
  dsimp only [qV, qA] at *
  cases hon : onR R pli g
  · rw [hon] at hbl hbi
    have ihN := ihN hbi
    all_goals (refine goR ?_; and_intros <;> (try exact trivial) <;> repeat (first | refine fun (Bk : Nat) => ?_ | intro h))
    repeat' ((first | (apply J.regA (.q 0 <| .q 1 <| .q 2 <| .q 3 <| .q 4 <| .q 5 <| .q 6 <| .q 7 <| .q 8 <| .q 9 <| .nil); exact Tryz.mixed; decide +kernel) | (apply J.regA (.q 0 <| .q 1 <| .q 2 <| .q 3 <| .q 4 <| .q 5 <| .q 6 <| .q 7 <| .q 8 <| .q 9 <| .q 10 <| .q 11 <| .q 12 <| .q 13 <| .q 14 <| .q 15 <| .q 16 <| .q 17 <| .q 18 <| .q 19 <| .q 20 <| .q 21 <| .q 22 <| .q 23 <| .q 24 <| .q 25 <| .q 26 <| .q 27 <| .q 28 <| .q 29 <| .q 30 <| .q 31 <| .q 32 <| .nil); exact Tryz.mixed; decide +kernel) | (apply G.cV (g := 72); rfl; rfl; exact fun w' hw' => hbl w' hw'.below) | (apply G.cV (d := 85) (g := 91); rfl; rfl; exact fun w' _ => hpi w') | (apply G.cV (d := 94) (g := 91); rfl; rfl; exact fun w' _ => hpk w') | (apply G.cV (g := 57); rfl; rfl; exact fun w' _ => hcp w') | (exact absurd rfl ‹¬ _›) | (apply J.regQ; exact Tryz.mixed; decide +kernel) | (apply J.regL'; exact Tryz.mixed; decide +kernel)) <;> (refine goR ?_; and_intros <;> (try exact trivial) <;> repeat (first | refine fun (Bk : Nat) => ?_ | intro h)))
    exact J.fin ihN
  rw [hon] at hbl hbi
  rw [Bool.true_and] at hbi
  by_cases ha : ami = 0
  · rw [decide_eq_false (fun e => e ha), Bool.false_and] at hbi
    have ihN := ihN hbi
    have hz1 := hz1.2 ha
    all_goals (refine goR ?_; and_intros <;> (try exact trivial) <;> repeat (first | refine fun (Bk : Nat) => ?_ | intro h))
    repeat' ((first | (apply J.regA (.q 0 <| .q 1 <| .q 2 <| .q 3 <| .q 4 <| .q 5 <| .q 6 <| .q 7 <| .q 8 <| .q 9 <| .nil); exact Tryz.mixed; decide +kernel) | (apply J.regA (.q 0 <| .q 1 <| .q 2 <| .q 3 <| .q 4 <| .q 5 <| .q 6 <| .q 7 <| .q 8 <| .q 9 <| .q 10 <| .q 11 <| .q 12 <| .q 13 <| .q 14 <| .q 15 <| .q 16 <| .q 17 <| .q 18 <| .q 19 <| .q 20 <| .q 21 <| .q 22 <| .q 23 <| .q 24 <| .q 25 <| .q 26 <| .q 27 <| .q 28 <| .q 29 <| .q 30 <| .q 31 <| .q 32 <| .nil); exact Tryz.mixed; decide +kernel) | (apply G.cV (g := 72); rfl; rfl; exact fun w' hw' => hbl w' hw'.below) | (apply G.cV (d := 85) (g := 91); rfl; rfl; exact fun w' _ => hpi w') | (apply G.cV (d := 94) (g := 91); rfl; rfl; exact fun w' _ => hpk w') | (apply G.cV (g := 57); rfl; rfl; exact fun w' _ => hcp w') | (apply G.eqR ⟨s1, u1, v1⟩ zero3; rfl; rfl; rfl; all_goals intro h; all_goals try (exact absurd hz1 h)) | (apply J.regQ; exact Tryz.mixed; decide +kernel) | (apply J.regL'; exact Tryz.mixed; decide +kernel)) <;> (refine goR ?_; and_intros <;> (try exact trivial) <;> repeat (first | refine fun (Bk : Nat) => ?_ | intro h)))
    exact J.fin ihN
  rw [decide_eq_true ha, Bool.true_and] at hbi
  have hz1 : ¬ _ := fun e => ha (hz1.1 e)
  have hpi := hpi ha
  rcases Nat.lt_trichotomy rki rkk with hr | hr | hr
  · rw [decide_eq_false (show ¬ (rkk < rki ∧ ti ≠ 0) from fun e => by omega), decide_eq_false (show ¬ (rki = rkk ∧ tk * ami < ti * amk) from fun e => by omega)] at hbi
    have ihN := ihN hbi
    all_goals (refine goR ?_; and_intros <;> (try exact trivial) <;> repeat (first | refine fun (Bk : Nat) => ?_ | intro h))
    repeat' ((first | (apply J.regA (.q 0 <| .q 1 <| .q 2 <| .q 3 <| .q 4 <| .q 5 <| .q 6 <| .q 7 <| .q 8 <| .q 9 <| .nil); exact Tryz.mixed; decide +kernel) | (apply J.regA (.q 0 <| .q 1 <| .q 2 <| .q 3 <| .q 4 <| .q 5 <| .q 6 <| .q 7 <| .q 8 <| .q 9 <| .q 10 <| .q 11 <| .q 12 <| .q 13 <| .q 14 <| .q 15 <| .q 16 <| .q 17 <| .q 18 <| .q 19 <| .q 20 <| .q 21 <| .q 22 <| .q 23 <| .q 24 <| .q 25 <| .q 26 <| .q 27 <| .q 28 <| .q 29 <| .q 30 <| .q 31 <| .q 32 <| .nil); exact Tryz.mixed; decide +kernel) | (apply G.cV (g := 72); rfl; rfl; exact fun w' hw' => hbl w' hw'.below) | (apply G.cV (d := 85) (g := 91); rfl; rfl; exact fun w' _ => hpi w') | (apply G.cV (d := 94) (g := 91); rfl; rfl; exact fun w' _ => hpk w') | (apply G.cV (g := 57); rfl; rfl; exact fun w' _ => hcp w') | (apply G.eqR ⟨s1, u1, v1⟩ zero3; rfl; rfl; rfl; all_goals intro h; all_goals try (exact absurd h hz1)) | (apply J.regQ; exact Tryz.mixed; decide +kernel) | (apply J.regL'; exact Tryz.mixed; decide +kernel)) <;> (refine goR ?_; and_intros <;> (try exact trivial) <;> repeat (first | refine fun (Bk : Nat) => ?_ | intro h)))
    exact J.fin ihN
  · rw [decide_eq_false (show ¬ (rkk < rki ∧ ti ≠ 0) from fun e => by omega), Bool.false_or] at hbi
    have hcm := hcm (by grind) (by grind)
    by_cases hs : 0 < sg
    · rw [decide_eq_true (show rki = rkk ∧ tk * ami < ti * amk from ⟨hr, hcm.1 hs⟩)] at hbi
      have hbd := hzi hbi
      subst hbd
      clear ihN
      all_goals (refine goR ?_; and_intros <;> (try exact trivial) <;> repeat (first | refine fun (Bk : Nat) => ?_ | intro h))
      repeat' ((first | (apply J.regA (.q 0 <| .q 1 <| .q 2 <| .q 3 <| .q 4 <| .q 5 <| .q 6 <| .q 7 <| .q 8 <| .q 9 <| .nil); exact Tryz.mixed; decide +kernel) | (apply J.regA (.q 0 <| .q 1 <| .q 2 <| .q 3 <| .q 4 <| .q 5 <| .q 6 <| .q 7 <| .q 8 <| .q 9 <| .q 10 <| .q 11 <| .q 12 <| .q 13 <| .q 14 <| .q 15 <| .q 16 <| .q 17 <| .q 18 <| .q 19 <| .q 20 <| .q 21 <| .q 22 <| .q 23 <| .q 24 <| .q 25 <| .q 26 <| .q 27 <| .q 28 <| .q 29 <| .q 30 <| .q 31 <| .q 32 <| .nil); exact Tryz.mixed; decide +kernel) | (apply G.cV (g := 72); rfl; rfl; exact fun w' hw' => hbl w' hw'.below) | (apply G.cV (d := 85) (g := 91); rfl; rfl; exact fun w' _ => hpi w') | (apply G.cV (d := 94) (g := 91); rfl; rfl; exact fun w' _ => hpk w') | (apply G.cV (g := 57); rfl; rfl; exact fun w' _ => hcp w') | (apply G.eqR ⟨s1, u1, v1⟩ zero3; rfl; rfl; rfl; all_goals intro h; all_goals try (exact absurd h hz1)) | (apply J.regQ; exact Tryz.mixed; decide +kernel) | (apply J.regL'; exact Tryz.mixed; decide +kernel)) <;> (refine goR ?_; and_intros <;> (try exact trivial) <;> repeat (first | refine fun (Bk : Nat) => ?_ | intro h)))
      all_goals refine ret1b Tryz.func60 Tryz.results60 ?_
      all_goals rfl
    · rw [decide_eq_false (show ¬ (rki = rkk ∧ tk * ami < ti * amk) from fun e => hs (hcm.2 e.2))] at hbi
      have ihN := ihN hbi
      all_goals (refine goR ?_; and_intros <;> (try exact trivial) <;> repeat (first | refine fun (Bk : Nat) => ?_ | intro h))
      repeat' ((first | (apply J.regA (.q 0 <| .q 1 <| .q 2 <| .q 3 <| .q 4 <| .q 5 <| .q 6 <| .q 7 <| .q 8 <| .q 9 <| .nil); exact Tryz.mixed; decide +kernel) | (apply J.regA (.q 0 <| .q 1 <| .q 2 <| .q 3 <| .q 4 <| .q 5 <| .q 6 <| .q 7 <| .q 8 <| .q 9 <| .q 10 <| .q 11 <| .q 12 <| .q 13 <| .q 14 <| .q 15 <| .q 16 <| .q 17 <| .q 18 <| .q 19 <| .q 20 <| .q 21 <| .q 22 <| .q 23 <| .q 24 <| .q 25 <| .q 26 <| .q 27 <| .q 28 <| .q 29 <| .q 30 <| .q 31 <| .q 32 <| .nil); exact Tryz.mixed; decide +kernel) | (apply G.cV (g := 72); rfl; rfl; exact fun w' hw' => hbl w' hw'.below) | (apply G.cV (d := 85) (g := 91); rfl; rfl; exact fun w' _ => hpi w') | (apply G.cV (d := 94) (g := 91); rfl; rfl; exact fun w' _ => hpk w') | (apply G.cV (g := 57); rfl; rfl; exact fun w' _ => hcp w') | (apply G.eqR ⟨s1, u1, v1⟩ zero3; rfl; rfl; rfl; all_goals intro h; all_goals try (exact absurd h hz1)) | (apply J.regQ; exact Tryz.mixed; decide +kernel) | (apply J.regL'; exact Tryz.mixed; decide +kernel)) <;> (refine goR ?_; and_intros <;> (try exact trivial) <;> repeat (first | refine fun (Bk : Nat) => ?_ | intro h)))
      exact J.fin ihN
  · rw [decide_eq_false (show ¬ (rki = rkk ∧ tk * ami < ti * amk) from fun e => by omega), Bool.or_false] at hbi
    by_cases ht0 : ti = 0
    · rw [decide_eq_false (fun e => e.2 ht0)] at hbi
      have ihN := ihN hbi
      have hz2 := hz2.2 ht0
      all_goals (refine goR ?_; and_intros <;> (try exact trivial) <;> repeat (first | refine fun (Bk : Nat) => ?_ | intro h))
      repeat' ((first | (apply J.regA (.q 0 <| .q 1 <| .q 2 <| .q 3 <| .q 4 <| .q 5 <| .q 6 <| .q 7 <| .q 8 <| .q 9 <| .nil); exact Tryz.mixed; decide +kernel) | (apply J.regA (.q 0 <| .q 1 <| .q 2 <| .q 3 <| .q 4 <| .q 5 <| .q 6 <| .q 7 <| .q 8 <| .q 9 <| .q 10 <| .q 11 <| .q 12 <| .q 13 <| .q 14 <| .q 15 <| .q 16 <| .q 17 <| .q 18 <| .q 19 <| .q 20 <| .q 21 <| .q 22 <| .q 23 <| .q 24 <| .q 25 <| .q 26 <| .q 27 <| .q 28 <| .q 29 <| .q 30 <| .q 31 <| .q 32 <| .nil); exact Tryz.mixed; decide +kernel) | (apply G.cV (g := 72); rfl; rfl; exact fun w' hw' => hbl w' hw'.below) | (apply G.cV (d := 85) (g := 91); rfl; rfl; exact fun w' _ => hpi w') | (apply G.cV (d := 94) (g := 91); rfl; rfl; exact fun w' _ => hpk w') | (apply G.cV (g := 57); rfl; rfl; exact fun w' _ => hcp w') | (apply G.eqR ⟨s1, u1, v1⟩ zero3; rfl; rfl; rfl; all_goals intro h; all_goals try (exact absurd h hz1)) | (apply G.neR ⟨s2, u2, v2⟩ zero3; rfl; rfl; rfl; all_goals intro h; all_goals try (exact absurd hz2 h)) | (apply J.regQ; exact Tryz.mixed; decide +kernel) | (apply J.regL'; exact Tryz.mixed; decide +kernel)) <;> (refine goR ?_; and_intros <;> (try exact trivial) <;> repeat (first | refine fun (Bk : Nat) => ?_ | intro h)))
      exact J.fin ihN
    · rw [decide_eq_true (show rkk < rki ∧ ti ≠ 0 from ⟨hr, ht0⟩)] at hbi
      have hbd := hzi hbi
      subst hbd
      have hz2 : ¬ _ := fun e => ht0 (hz2.1 e)
      clear ihN
      all_goals (refine goR ?_; and_intros <;> (try exact trivial) <;> repeat (first | refine fun (Bk : Nat) => ?_ | intro h))
      repeat' ((first | (apply J.regA (.q 0 <| .q 1 <| .q 2 <| .q 3 <| .q 4 <| .q 5 <| .q 6 <| .q 7 <| .q 8 <| .q 9 <| .nil); exact Tryz.mixed; decide +kernel) | (apply J.regA (.q 0 <| .q 1 <| .q 2 <| .q 3 <| .q 4 <| .q 5 <| .q 6 <| .q 7 <| .q 8 <| .q 9 <| .q 10 <| .q 11 <| .q 12 <| .q 13 <| .q 14 <| .q 15 <| .q 16 <| .q 17 <| .q 18 <| .q 19 <| .q 20 <| .q 21 <| .q 22 <| .q 23 <| .q 24 <| .q 25 <| .q 26 <| .q 27 <| .q 28 <| .q 29 <| .q 30 <| .q 31 <| .q 32 <| .nil); exact Tryz.mixed; decide +kernel) | (apply G.cV (g := 72); rfl; rfl; exact fun w' hw' => hbl w' hw'.below) | (apply G.cV (d := 85) (g := 91); rfl; rfl; exact fun w' _ => hpi w') | (apply G.cV (d := 94) (g := 91); rfl; rfl; exact fun w' _ => hpk w') | (apply G.cV (g := 57); rfl; rfl; exact fun w' _ => hcp w') | (apply G.eqR ⟨s1, u1, v1⟩ zero3; rfl; rfl; rfl; all_goals intro h; all_goals try (exact absurd h hz1)) | (apply G.neR ⟨s2, u2, v2⟩ zero3; rfl; rfl; rfl; all_goals intro h; all_goals try (exact absurd h hz2)) | (apply J.regQ; exact Tryz.mixed; decide +kernel) | (apply J.regL'; exact Tryz.mixed; decide +kernel)) <;> (refine goR ?_; and_intros <;> (try exact trivial) <;> repeat (first | refine fun (Bk : Nat) => ?_ | intro h)))
      all_goals refine ret1b Tryz.func60 Tryz.results60 ?_
      all_goals rfl
end Go.Proofs.YteaccaieaigeaaaGreatDoor
/-
  Contracts of rights: the specification's Fair.
-/
namespace Go.Proofs.YteaccaieaigeaaaGreatDoor
open Go.RowKit Go.Sl Go.Num
/-- The error of takes, or the gauges that bound the claims. -/
def frE (R : List Rch) (Gs : List Rat) (L : List Cm) (Tq : List Q3) : Int × List Int :=
  if lfE R Gs L Tq ≠ 0 then (lfE R Gs L Tq, []) else match fairZ R (fsq Gs) (L.zip (Tq.map qR)) with
    | none => (22, [])
    | some l => (0, l)
theorem lfE_ok {R : List Rch} {Gs : List Rat} {L : List Cm} {Tq : List Q3} (h : lfE R Gs L Tq = 0) : Tq.length = L.length ∧ (L.zip Tq).any badT = false ∧ ∀ g, g < R.length → 0 ≤ rsT R Gs L (Tq.map qR) g := by
  rw [lfE] at h
  split at h
  · cases h
  · rename_i h1
    split at h
    · cases h
    · rename_i h2
      split at h
      · cases h
      · rename_i h3
        refine ⟨Decidable.not_not.1 h1, by simpa using h2, fun g hg => ?_⟩
        have h4 : (List.range R.length).any (fun g => decide (rsT R Gs L (Tq.map qR) g < 0)) = false := by simpa using h3
        rw [List.any_eq_false] at h4
        have h5 := h4 g (List.mem_range.2 hg)
        have h6 : ¬ rsT R Gs L (Tq.map qR) g < 0 := fun e => h5 (decide_eq_true e)
        grind
theorem wayN_find {R : List Rch} {p i : Nat} {B : Nat → Bool} (hi : i < dpt R (p : Int)) (h1 : B (itr R i p).toNat = true) (h2 : ∀ j, j < i → B (itr R j p).toNat = false) : (wayN R p).find? B = some (itr R i p).toNat := by
  rw [wayN, List.find?_map]
  have h3 : (List.range (dpt R (p : Int))).find? (B ∘ fun i => (itr R i (p : Int)).toNat) = some i := by
    rw [List.find?_range_eq_some]
    refine ⟨h1, List.mem_range.2 hi, fun j hj => ?_⟩
    show (!B (itr R j p).toNat) = true
    rw [h2 j hj]; rfl
  rw [h3]; rfl
theorem wayN_none {R : List Rch} {p : Nat} {B : Nat → Bool} (h2 : ∀ j, j < dpt R (p : Int) → B (itr R j p).toNat = false) : (wayN R p).find? B = none := by
  rw [List.find?_eq_none]
  intro g hg
  obtain ⟨i, hi, rfl⟩ := List.mem_map.1 hg
  rw [h2 i (List.mem_range.1 hi)]; decide
set_option maxHeartbeats 4000000 in
theorem rFair_holds (w : World) (ra : Option Addr) (R : List Rch) (rc : Nat) (ga : Option Addr) (Gs : List Rat) (gc : Nat) (la : Option Addr) (L : List Cm) (lc : Nat) (ta : Option Addr) (Tq : List Q3) (tc : Nat)
    (hS : SupAt w ra R ga (Gs.map qF)) (hsu : SupOk R Gs) (hL : SlAt w la 5 (L.map cmV)) (hC : ClOk R.length L) (hT : SlAt w ta 3 (Tq.map qV)) (hf : ∀ q ∈ Tq, fewQ 30000 q) (htl : Tq.length ≤ 1000000)
    (hck : ∀ w', Below w.heap.size w w' → Calls Tryz.prog 16 #[.agg #[.slice ra R.length rc, .slice ga Gs.length gc], .slice la L.length lc] w' fun e w2 => e = .returned (.int .i64 0) ∧ Below w'.heap.size w' w2) :
    Calls Tryz.prog 22 #[.agg #[.slice ra R.length rc, .slice ga Gs.length gc], .slice la L.length lc, .slice ta Tq.length tc] w (RetI (fun v => .agg #[v, .int .i64 (frE R Gs L Tq).1]) w (frE R Gs L Tq).2) := by
  have hl := hC.len
  have hR := riv_of hsu.riv
  have hnl := hR.len
  have hlf := fun w' (hb : Below w.heap.size w w') => rLeft_holds w' ra R rc ga Gs gc la L lc ta Tq tc (hS.below hb) hsu (hL.below hb) hC (hT.below hb) hf htl (fun w2 hb2 => hck w2 (hb.trans (hb2.mono hb.size)))
  rw [frE]
  by_cases h0 : lfE R Gs L Tq = 0
  case neg =>
    rw [if_pos h0]
    rw [if_neg h0] at hlf
    dsimp only
    generalize lfE R Gs L Tq = E at *
    refine enterA [(0, .agg #[.slice ra R.length rc, .slice ga Gs.length gc]), (1, .slice la L.length lc), (2, .slice ta Tq.length tc)] Tryz.func22 Tryz.ntmps22 ?_
    all_goals (refine go ?_; and_intros <;> (try exact trivial) <;> repeat (first | refine fun (Bk : Nat) => ?_ | intro h))
    repeat' ((first | (apply G.cN (g := 20) (fun a' c' => .agg #[.slice a' 0 c', .int .i64 E]) ([] : List (List Value)); rfl; rfl; exact fun w' hw' => hlf w' hw'.below; intro a1 c1 hp1 hq1)) <;> (refine go ?_; and_intros <;> (try exact trivial) <;> repeat (first | refine fun (Bk : Nat) => ?_ | intro h)))
    (refine ret1 Tryz.func22 Tryz.results22 ?_; intro w' hw)
    exact retI_nil (fun v => .agg #[v, .int .i64 E]) hw.below
  rw [if_neg (fun h => h h0)]
  rw [if_pos h0, h0] at hlf
  obtain ⟨hlen, hgood, -⟩ := lfE_ok h0
  have hgq := good_all hlen hgood
  have hok := good_ok hlen hgq hf
  have hTm : SlAt w ta 3 ((Tq.map qR).map qF) := by rw [good_map hgq]; exact hT
  have hle : ∀ k (h1 : k < L.length) (h2 : k < (Tq.map qR).length), 0 ≤ (Tq.map qR)[k] ∧ (Tq.map qR)[k] ≤ L[k].am := fun k h1 h2 => by
    rw [List.length_map] at h2
    rw [List.getElem_map]
    rw [List.any_eq_false] at hgood
    have h3 := hgood (L[k], Tq[k]) (by
      rw [← List.getElem_zip (h := by rw [List.length_zip]; omega)]
      exact List.getElem_mem _)
    have h4 := hgq _ (List.getElem_mem h2)
    have h5 := natB_rQ (qR Tq[k])
    rw [natB_q h4, h4] at h5
    rw [badT, h4] at h3
    simp only [Bool.true_and, Bool.not_eq_true', decide_eq_false_iff_not, Decidable.not_not, Bool.not_eq_eq_eq_not] at h3
    exact ⟨of_decide_eq_true h5.symm, by simpa using h3⟩
  rw [hlen] at hlf ⊢
  clear hgood hgq hT hf h0 htl
  generalize Tq.map qR = T at *
  have hTl := hok.1
  have hbd := fun k (h1 : k < L.length) (h2 : k < T.length) (ha : L[k].am ≠ 0) (g : Nat) w' (hb : Below w.heap.size w w') => bounds_holds w' ra R rc ga Gs gc la L lc ta T tc k g (hS.below hb) hsu (hL.below hb) hC (hTm.below hb) hok h1 h2 ha
  have hcp := fun i (h : i < L.length) => hC.pl _ (List.getElem_mem h)
  have hA := hS.riv
  rw [fairZ]
  have hzl : (L.zip T).length = L.length := by rw [List.length_zip]; omega
  have hat : ∀ k (h1 : k < L.length) (h2 : k < T.length) (h3 : k < ((L.zip T).map (atZ R (fsq Gs) (L.zip T))).length), ((L.zip T).map (atZ R (fsq Gs) (L.zip T)))[k] = atZ R (fsq Gs) (L.zip T) (L[k], T[k]) := fun k h1 h2 h3 => by rw [List.getElem_map, List.getElem_zip]
  have hAl : ((L.zip T).map (atZ R (fsq Gs) (L.zip T))).length = L.length := by rw [List.length_map]; exact hzl
  have hA0 : ∀ k (h1 : k < L.length) (h2 : k < T.length), T[k] = L[k].am → atZ R (fsq Gs) (L.zip T) (L[k], T[k]) = some (-1) := fun k h1 h2 h => atZ_neg.2 h
  have hA1 : ∀ k (h1 : k < L.length) (h2 : k < T.length) i, T[k] ≠ L[k].am → i < dpt R (L[k].pl : Int) → bndB (onR R) R.length (fsq Gs) (L.zip T) (L[k], T[k]) (itr R i L[k].pl).toNat = true → (∀ j, j < i → bndB (onR R) R.length (fsq Gs) (L.zip T) (L[k], T[k]) (itr R j L[k].pl).toNat = false) → atZ R (fsq Gs) (L.zip T) (L[k], T[k]) = some ((itr R i L[k].pl).toNat : Int) := fun k h1 h2 i h3 h4 h5 h6 => by
    rw [atZ, if_neg h3, wayN_find h4 h5 h6]; rfl
  have hA2 : ∀ k (h1 : k < L.length) (h2 : k < T.length), T[k] ≠ L[k].am → (∀ j, j < dpt R (L[k].pl : Int) → bndB (onR R) R.length (fsq Gs) (L.zip T) (L[k], T[k]) (itr R j L[k].pl).toNat = false) → atZ R (fsq Gs) (L.zip T) (L[k], T[k]) = none := fun k h1 h2 h3 h4 => by
    rw [atZ, if_neg h3, wayN_none h4]; rfl
  clear hck hS hC hok hsu
  generalize atZ R (fsq Gs) (L.zip T) = AZ at *
  generalize (L.zip T).map AZ = A at *
  generalize bndB (onR R) R.length (fsq Gs) (L.zip T) = FB at *
  refine enterA [(0, .agg #[.slice ra R.length rc, .slice ga Gs.length gc]), (1, .slice la L.length lc), (2, .slice ta L.length tc)] Tryz.func22 Tryz.ntmps22 ?_
  all_goals (refine go ?_; and_intros <;> (try exact trivial) <;> repeat (first | refine fun (Bk : Nat) => ?_ | intro h))
  repeat' ((first | (apply G.cN (g := 20) (fun a' c' => .agg #[.slice a' (gl R.length (rsT R Gs L T)).length c', .int .i64 0]) ((gl R.length (rsT R Gs L T)).map qF); rfl; rfl; exact fun w' hw' => hlf w' hw'.below; intro a1 c1 hp1 hq1)) <;> (refine go ?_; and_intros <;> (try exact trivial) <;> repeat (first | refine fun (Bk : Nat) => ?_ | intro h)))
  rename_i B3 B6
  apply J.nilOwn (E := 3) (size := 1)
  refine J.loop (c := _) ((0, [], none, 0) : Nat × List Int × Option Addr × Nat) (fun s => L.length - s.1) (fun s => [(1, .slice la L.length lc), (2, .slice ta L.length tc), (3, .pointer (some ⟨B3, 0, none⟩)), (6, .pointer (some ⟨B6, 0, none⟩)), (8, .slice s.2.2.1 s.1 s.2.2.2), (9, .int .i64 s.1)]) (fun s => [.own 0 (.slice s.2.2.1 s.1 s.2.2.2) 3 1 s.1 (flat isV s.2.1), .blk B6 46 [.slice none 0 0, .int .i64 0] 2, .blk B3 25 [.slice ra R.length rc, .slice ga Gs.length gc] 2]) (fun s => s.1 ≤ L.length ∧ s.2.1.length = s.1 ∧ A.take s.1 = s.2.1.map some) ?_ sbT sbL ?_
  · exact ⟨Nat.zero_le _, rfl, rfl⟩
  intro ⟨k, l, au, cu⟩ ⟨k1, k2, k3⟩ ih
  dsimp only at k1 k2 k3 ⊢
  by_cases hk : k < L.length
  case neg =>
    obtain rfl : k = L.length := by omega
    rw [← hAl, List.take_length] at k3
    have h5 : allO A = some l := allO_some.2 k3
    rw [h5]
    clear ih
    all_goals (refine go ?_; and_intros <;> (try exact trivial) <;> repeat (first | refine fun (Bk : Nat) => ?_ | intro h))
    (refine ret1 Tryz.func22 Tryz.results22 ?_; intro w' hw)
    exact satI hw (i := 0) rfl k2 fun v => .agg #[v, .int .i64 0]
  have hk2 : k < T.length := by omega
  have hkA : k < A.length := by omega
  have hAk := hat k hk hk2 hkA
  have hA0 := hA0 k hk hk2
  have hA1 := hA1 k hk hk2
  have hA2 := hA2 k hk hk2
  have hbd := hbd k hk hk2
  have hlek := hle k hk hk2
  have hplk := hcp k hk
  have htk1 : A.take (k + 1) = A.take k ++ [A[k]] := by rw [List.take_add_one, List.getElem?_eq_getElem hkA]; rfl
  have hno : A[k] = none → allO A = none := fun h => allO_none.2 (by rw [← h]; exact List.getElem_mem _)
  have ihN := fun (at_ : Int) (h : A[k] = some at_) a2 c2 => ih (k + 1, l ++ [at_], a2, c2) ⟨hk, by dsimp only; rw [List.length_append, k2]; rfl, by dsimp only; rw [htk1, k3, h, List.map_append]; rfl⟩ (by dsimp only; omega)
  have hap := fun (at_ : Int) => flat1 isV l at_
  dsimp only at ihN
  obtain ⟨bl, ol, rfl, hrl⟩ := SlAt.all hL (by omega)
  obtain ⟨bt, ot, rfl, hrt⟩ := SlAt.all hTm (by omega)
  have hrlk := hrl k hk
  have hrtk := hrt k hk2
  clear ih hat hcp hle hlf hrl hrt hp1 hq1 hL hTm htk1
  generalize AZ (L[k], T[k]) = az at *
  subst hAk
  generalize A[k] = Ak at *
  generalize FB (L[k], T[k]) = F at *
  generalize L[k] = cl at *
  generalize T[k] = tk at *
  obtain ⟨pl, rk, am⟩ := cl
  rw [cmV, qF] at hrlk
  rw [qF] at hrtk
  dsimp only at *
  have hqe : rQ tk = rQ am ↔ tk = am := ⟨fun e => by have := congrArg qR e; rwa [qR_rQ, qR_rQ] at this, fun e => by rw [e]⟩
  obtain ⟨d1, d2, d3⟩ := hR.dep (g := (pl : Int)) (by omega)
  have hin := fun i => (hR.in_ i (g := (pl : Int)) (by omega) (by omega)).2
  generalize rQ am = q1 at *
  generalize rQ tk = q2 at *
  obtain ⟨s1, u1, v1⟩ := q1
  obtain ⟨s2, u2, v2⟩ := q2
  dsimp only [qV] at *
  by_cases he : tk = am
  · have hqe := hqe.2 he
    have hA0 := hA0 he
    subst hA0
    have ihN := ihN (-1) rfl
    have hap := hap (-1)
    dsimp only [isV] at hap
    clear hno hA1 hA2 hbd
    all_goals (refine go ?_; and_intros <;> (try exact trivial) <;> repeat (first | refine fun (Bk : Nat) => ?_ | intro h))
    repeat' ((first | (apply G.eqR ⟨s2, u2, v2⟩ ⟨s1, u1, v1⟩; rfl; rfl; rfl; all_goals intro h; all_goals try (exact absurd hqe h))) <;> (refine go ?_; and_intros <;> (try exact trivial) <;> repeat (first | refine fun (Bk : Nat) => ?_ | intro h)))
    refine J.loop (c := _) () (fun s => 0) (fun s => [(1, .slice (some ⟨bl, ol, none⟩) L.length lc), (2, .slice (some ⟨bt, ot, none⟩) L.length tc), (3, .pointer (some ⟨B3, 0, none⟩)), (6, .pointer (some ⟨B6, 0, none⟩)), (8, .slice au k cu), (9, .int .i64 k), (10, .bool true), (11, .int .i64 (-1)), (12, .int .i64 pl)]) (fun s => [.own 0 (.slice au k cu) 3 1 k (flat isV l), .blk B6 46 [.slice none 0 0, .int .i64 0] 2, .blk B3 25 [.slice ra R.length rc, .slice ga Gs.length gc] 2]) (fun s => True) ?_ sbT sbL ?_
    · trivial
    intro _ _ ih2
    clear ih2
    all_goals (refine go ?_; and_intros <;> (try exact trivial) <;> repeat (first | refine fun (Bk : Nat) => ?_ | intro h))
    repeat' ((first | (apply G.sliceL; rfl; rfl; rfl; rfl; rfl; rfl; rfl; rfl; intro Bs) | (apply G.apV; rfl; rfl; rfl; (repeat (first | exact RAt.head | apply RAt.tail)); exact SrcV.blk (by exact mm) rfl rfl; exact hap; omega; omega; intro a2 c2)) <;> (refine go ?_; and_intros <;> (try exact trivial) <;> repeat (first | refine fun (Bk : Nat) => ?_ | intro h)))
    exact J.fin (ihN a2 c2)
  have hqe : ¬ _ := fun e => he (hqe.1 e)
  have hA1 := fun i => hA1 i he
  have hA2 := hA2 he
  have hbd := hbd (by grind)
  clear hA0
  all_goals (refine go ?_; and_intros <;> (try exact trivial) <;> repeat (first | refine fun (Bk : Nat) => ?_ | intro h))
  repeat' ((first | (apply G.eqR ⟨s2, u2, v2⟩ ⟨s1, u1, v1⟩; rfl; rfl; rfl; all_goals intro h; all_goals try (exact absurd h hqe))) <;> (refine go ?_; and_intros <;> (try exact trivial) <;> repeat (first | refine fun (Bk : Nat) => ?_ | intro h)))
  refine J.loop (c := _) ((0, false, -1) : Nat × Bool × Int) (fun s => R.length + 1 - s.1) (fun s => [(1, .slice (some ⟨bl, ol, none⟩) L.length lc), (2, .slice (some ⟨bt, ot, none⟩) L.length tc), (3, .pointer (some ⟨B3, 0, none⟩)), (6, .pointer (some ⟨B6, 0, none⟩)), (8, .slice au k cu), (9, .int .i64 k), (10, .bool s.2.1), (11, .int .i64 s.2.2), (12, .int .i64 (itr R s.1 pl))]) (fun s => [.own 0 (.slice au k cu) 3 1 k (flat isV l), .blk B6 46 [.slice none 0 0, .int .i64 0] 2, .blk B3 25 [.slice ra R.length rc, .slice ga Gs.length gc] 2]) (fun s => (s.2.1 = true ∧ Ak = some s.2.2) ∨ (s.2.1 = false ∧ s.2.2 = -1 ∧ s.1 ≤ dpt R (pl : Int) ∧ ∀ j, j < s.1 → F (itr R j pl).toNat = false)) ?_ sbT sbL ?_
  · exact .inr ⟨rfl, rfl, Nat.zero_le _, fun j h => absurd h (Nat.not_lt_zero _)⟩
  intro ⟨i, fd, at_⟩ hinv ih2
  dsimp only at hinv ⊢
  rcases hinv with ⟨rfl, rfl⟩ | ⟨rfl, rfl, j1, j2⟩
  · have ihN := ihN at_ rfl
    have hap := hap at_
    dsimp only [isV] at hap
    clear ih2 hA1 hA2 hbd hno
    generalize itr R i pl = y at *
    all_goals (refine go ?_; and_intros <;> (try exact trivial) <;> repeat (first | refine fun (Bk : Nat) => ?_ | intro h))
    repeat' ((first | (apply G.sliceL; rfl; rfl; rfl; rfl; rfl; rfl; rfl; rfl; intro Bs) | (apply G.apV; rfl; rfl; rfl; (repeat (first | exact RAt.head | apply RAt.tail)); exact SrcV.blk (by exact mm) rfl rfl; exact hap; omega; omega; intro a2 c2)) <;> (refine go ?_; and_intros <;> (try exact trivial) <;> repeat (first | refine fun (Bk : Nat) => ?_ | intro h)))
    all_goals exact J.fin (ihN a2 c2)
  by_cases hi : i < dpt R (pl : Int)
  case neg =>
    have hid : i = dpt R (pl : Int) := by omega
    subst hid
    have hAn := hA2 j2
    rw [hno hAn]
    dsimp only
    clear ih2 hA1 hA2 hbd hno ihN j2
    generalize itr R (dpt R (pl : Int)) pl = y at *
    all_goals (refine go ?_; and_intros <;> (try exact trivial) <;> repeat (first | refine fun (Bk : Nat) => ?_ | intro h))
    (refine ret1 Tryz.func22 Tryz.results22 ?_; intro w' hw)
    exact retI_nil (fun v => .agg #[v, .int .i64 22]) hw.below
  have hy0 := d3 i hi
  have hy1 := hin i
  have hbd := fun (g : Nat) => hbd g
  have ih3 := fun fd' at' h => ih2 (i + 1, fd', at') h (by dsimp only; omega)
  simp only [itr_succ] at ih3
  have hA1 := hA1 i hi
  have hj3 : F (itr R i pl).toNat = false → ∀ j, j < i + 1 → F (itr R j pl).toNat = false := fun h j hj => by
    rcases Nat.lt_or_ge j i with h4 | h4
    · exact j2 j h4
    · obtain rfl : j = i := by omega
      exact h
  have hA1 := fun h => hA1 h j2
  clear ih2 hA2 hno ihN j2
  generalize itr R i pl = y at *
  obtain ⟨j, rfl⟩ : ∃ j : Nat, y = j := ⟨y.toNat, by omega⟩
  have hj : j < R.length := by omega
  rw [Int.toNat_natCast] at hA1 hj3
  obtain ⟨ba, oa, rfl, hra⟩ := SlAt.all hA (by omega)
  have hraj := hra j hj
  rw [dnOf_at hj] at ih3
  have hbdj := hbd j
  clear hra hA hbd
  generalize R[j] = r at *
  obtain ⟨dn, ws, adr, cap⟩ := r
  dsimp only [rcV] at *
  cases hFj : F j
  · have ih4 := ih3 false (-1) (.inr ⟨rfl, rfl, hi, hj3 hFj⟩)
    rw [hFj] at hbdj
    clear ih3 hA1 hj3
    all_goals (refine go ?_; and_intros <;> (try exact trivial) <;> repeat (first | refine fun (Bk : Nat) => ?_ | intro h))
    repeat' ((first | (apply G.cV (g := 60); rfl; rfl; exact fun w' hw' => hbdj w' hw'.below)) <;> (refine go ?_; and_intros <;> (try exact trivial) <;> repeat (first | refine fun (Bk : Nat) => ?_ | intro h)))
    exact J.fin ih4
  · have ih4 := ih3 true j (.inl ⟨rfl, hA1 hFj⟩)
    rw [hFj] at hbdj
    clear ih3 hA1 hj3
    all_goals (refine go ?_; and_intros <;> (try exact trivial) <;> repeat (first | refine fun (Bk : Nat) => ?_ | intro h))
    repeat' ((first | (apply G.cV (g := 60); rfl; rfl; exact fun w' hw' => hbdj w' hw'.below)) <;> (refine go ?_; and_intros <;> (try exact trivial) <;> repeat (first | refine fun (Bk : Nat) => ?_ | intro h)))
    exact J.fin ih4
end Go.Proofs.YteaccaieaigeaaaGreatDoor
