/-
  Contracts of rights: what bounds a claim, by the program.
-/
import Derived.Test.YtcdgibkbbcekhaaGreatDoorGR12
set_option linter.unusedVariables false
set_option linter.unusedSimpArgs false
set_option linter.unusedSectionVars false
namespace Go.Sl
open Go.RowKit
variable {C : Ctx} {st : List (Nat × Value)} {M : List Row} {k : List Item} {q q' : Md} {all rest : List Oper} {d : Nat} {ty : TypeId} {pos : String} {after : Array Edge} {gd : Option (Nat × Bool)}
/-- A lookup in an old map. -/
theorem G.lkOld {κ : Type} [DecidableEq κ] {T K E b : TypeId} {z v : Value} {kf : κ → Value} {es : Array MapEntry} {clock : Nat} {L : List (κ × Value)} {x y : Operand} {a : κ} (hb : C.w0.heap[b]? = some (.map es clock)) (hI : MapIs kf es clock L) (hx : evS st x = some (.map (some b))) (hy : evS st y = some (kf a)) [hT : TMap C.P T K E z] [hK : TKey C.P K kf] (hv : (getM a L).getD z = v)
    (hs : sideB all st gd d C.N q.calm = some q') (h : G q' C all ((d, v) :: st) M rest k) : G q C all st M ({ dst := some d, op := .lookup T x y false, type := ty, pos, after, guard := gd } :: rest) k := by
  obtain ⟨g1, g2, g3⟩ := sideB_ok hs
  subst hv
  refine G.op (OpV.of fun ac w hf hw dst pos after guard => ?_) g1 rfl g2 g3 h
  have hlt : b < C.w0.heap.size := (Array.getElem?_eq_some_iff.1 hb).1
  have := lookup_run (P := C.P) (T := T) (K := K) (E := E) (z := z) hI ((hw.below.block b hlt).trans hb) a false
  simp only [execOp, hf.eval hx, hf.eval hy, Sem.run_bind, this, Result.andThen_ok]; rfl
end Go.Sl
namespace Go.Proofs.YtcdgibkbbcekhaaGreatDoor
open Go.RowKit Go.Sl Go.Num
def mpV (b : Nat) : List Value := [.map (some b)]
/-- A box holds a value. -/
structure BoxAt (w : World) (B : Nat) (v : Value) : Prop where
  c : w.cell? ⟨B, 0, none⟩ = some v
  lt : B < w.heap.size
theorem prod_cmp {x y a b : Rat} : 0 < sgnR (x * b - y * a) ↔ y * a < x * b := by
  have h := sgn_le (a := x * b) (b := y * a)
  constructor
  · intro h1
    apply Decidable.byContradiction
    intro h2
    have := h.2 (by grind)
    omega
  · intro h1
    apply Decidable.byContradiction
    intro h2
    have := h.1 (by omega)
    grind
set_option maxHeartbeats 16000000 in
theorem fb_holds (w : World) (R : List Rch) (Gs : List Rat) (la : Option Addr) (L : List Cm) (lc : Nat) (ta : Option Addr) (T : List Rat) (tc : Nat) (a1 : Option Addr) (c1 B4 B10 B5 B8 Bp : Nat) (pts : List Nat) (k g : Nat)
    (hL : SlAt w la 5 (L.map cmV)) (hC : ClOk R.length L) (hT : SlAt w ta 3 (T.map qF)) (hK : tkOk L T) (hLf : SlAt w a1 3 ((gl R.length (rsT R Gs L T)).map qF)) (hP : SlAt w (some ⟨Bp, 0, none⟩) 1 (pts.map mpV)) (hpl : pts.length = L.length)
    (hM : ∀ i (h : i < L.length) (h2 : i < pts.length), ∃ es c Ls, w.heap[pts[i]]? = some (.map es c) ∧ MapIs (Value.int .i64) es c Ls ∧ ∀ g : Nat, (getM (g : Int) Ls).getD (.bool false) = .bool (onR R L[i].pl g))
    (hb4 : BoxAt w B4 (.slice la L.length lc)) (hb10 : BoxAt w B10 (.slice (some ⟨Bp, 0, none⟩) L.length L.length)) (hb5 : BoxAt w B5 (.slice ta L.length tc)) (hb8 : BoxAt w B8 (.slice a1 R.length c1))
    (hk : k < L.length) (hk2 : k < T.length) (hg : g < R.length) :
    Calls Tryz.prog 122 (#[.int .i64 k, .int .i64 g] ++ #[.pointer (some ⟨B4, 0, none⟩), .pointer (some ⟨B10, 0, none⟩), .pointer (some ⟨B5, 0, none⟩), .pointer (some ⟨B8, 0, none⟩)]) w fun e w' => e = .returned (.bool (bndB (onR R) R.length (fsq Gs) (L.zip T) (L[k], T[k]) g)) ∧ Below w.heap.size w w' := by
  have hl := hC.len
  have htl := hK.1
  have hbn : bndB (onR R) R.length (fsq Gs) (L.zip T) (L[k], T[k]) g = (!((L.zip T).any (badB (onR R) (L[k], T[k]) g)) && decide (rsT R Gs L T g = 0)) := rfl
  have hzb : ∀ i (h1 : i < L.length) (h2 : i < T.length), badB (onR R) (L[k], T[k]) g (L[i], T[i]) = true → (L.zip T).any (badB (onR R) (L[k], T[k]) g) = true := fun i h1 h2 h => by
    rw [List.any_eq_true]
    refine ⟨(L[i], T[i]), ?_, h⟩
    rw [← List.getElem_zip (h := by rw [List.length_zip]; omega)]
    exact List.getElem_mem _
  have hzn : (∀ i (h1 : i < L.length) (h2 : i < T.length), badB (onR R) (L[k], T[k]) g (L[i], T[i]) = false) → (L.zip T).any (badB (onR R) (L[k], T[k]) g) = false := fun h => by
    rw [List.any_eq_false]
    intro z hz hb
    obtain ⟨j, hj, rfl⟩ := List.getElem_of_mem hz
    rw [List.length_zip] at hj
    rw [List.getElem_zip, h j (by omega) (by omega)] at hb
    cases hb
  have hbad : ∀ i (h1 : i < L.length) (h2 : i < T.length), badB (onR R) (L[k], T[k]) g (L[i], T[i]) = (onR R L[i].pl g && (decide (L[i].am ≠ 0) && (decide (L[k].rk < L[i].rk ∧ T[i] ≠ 0) || decide (L[i].rk = L[k].rk ∧ T[k] * L[i].am < T[i] * L[k].am)))) := fun i h1 h2 => rfl
  have hcf := fun i (h : i < L.length) => hC.few _ (List.getElem_mem h)
  have htf := fun i (h : i < T.length) => hK.2 _ (List.getElem_mem h)
  have hkf := hcf k hk
  obtain ⟨bl, ol, rfl, hrl⟩ := SlAt.all hL (by omega)
  obtain ⟨bt, ot, rfl, hrt⟩ := SlAt.all hT (by omega)
  obtain ⟨bq, oq, rfl, hrq⟩ := SlAt.all hLf (by rw [gl_len]; omega)
  obtain ⟨bp, op, ep, hrp⟩ := SlAt.all hP (by omega)
  cases ep
  have hrlk := hrl k hk
  have hrtk := hrt k hk2
  have hrqg := hrq g (by rw [gl_len]; exact hg)
  rw [gl_get] at hrqg
  have htk := htf k hk2
  rw [hbn]
  clear hbn hL hC hT hK hLf hP hrq
  have hz := rQ_zero (x := rsT R Gs L T g)
  rw [qF] at hrqg
  generalize rsT R Gs L T g = rs at *
  generalize (L.zip T).any (badB (onR R) (L[k], T[k]) g) = bd at *
  generalize badB (onR R) (L[k], T[k]) g = BB at *
  generalize hclk : L[k] = ck at *
  generalize htkk : T[k]'_ = tk at *
  generalize rQ rs = qr at *
  obtain ⟨s0, u0, v0⟩ := qr
  obtain ⟨plk, rkk, amk⟩ := ck
  rw [cmV, qF] at hrlk
  rw [qF] at hrtk
  dsimp only [qV] at *
  refine enterA [(0, .int .i64 k), (1, .int .i64 g), (2, .pointer (some ⟨B4, 0, none⟩)), (3, .pointer (some ⟨B10, 0, none⟩)), (4, .pointer (some ⟨B5, 0, none⟩)), (5, .pointer (some ⟨B8, 0, none⟩))] Tryz.func122 Tryz.ntmps122 ?_
  all_goals (refine go ?_; and_intros <;> (try exact trivial) <;> repeat (first | refine fun (Bk : Nat) => ?_ | intro h))
  repeat' ((first | (apply G.ld; rfl; (apply LdV.one; exact CellV.old hb4.c hb4.lt); rfl)) <;> (refine go ?_; and_intros <;> (try exact trivial) <;> repeat (first | refine fun (Bk : Nat) => ?_ | intro h)))
  refine J.loop (c := _) (0 : Nat) (fun s => L.length - s) (fun s => [(0, .int .i64 k), (1, .int .i64 g), (2, .pointer (some ⟨B4, 0, none⟩)), (3, .pointer (some ⟨B10, 0, none⟩)), (4, .pointer (some ⟨B5, 0, none⟩)), (5, .pointer (some ⟨B8, 0, none⟩)), (11, .slice (some ⟨bl, ol, none⟩) L.length lc), (12, .int .i64 L.length), (13, .int .i64 s)]) (fun s => []) (fun s => s ≤ L.length ∧ ∀ i (h1 : i < L.length) (h2 : i < T.length), i < s → BB (L[i], T[i]) = false) ?_ sbT sbL ?_
  · exact ⟨Nat.zero_le _, fun i _ _ h => absurd h (Nat.not_lt_zero _)⟩
  intro i ⟨i1, i2⟩ ih
  by_cases hi : i < L.length
  case neg =>
    obtain rfl : i = L.length := by omega
    have hbf := hzn fun j h1 h2 => i2 j h1 h2 h1
    subst hbf
    clear ih i2 hzn hzb hbad
    by_cases h0 : rs = 0
    · rw [decide_eq_true h0]
      have hz := hz.2 h0
      all_goals (refine goR ?_; and_intros <;> (try exact trivial) <;> repeat (first | refine fun (Bk : Nat) => ?_ | intro h))
      repeat' ((first | (apply J.regA (.q 0 <| .q 1 <| .q 2 <| .q 3 <| .q 4 <| .q 5 <| .q 6 <| .nil); exact Tryz.mixed; decide +kernel) | (apply G.ld; rfl; (apply LdV.one; exact CellV.old hb8.c hb8.lt); rfl) | (apply G.cV (g := 61); rfl; rfl; exact fun w' _ => zero_holds w') | (apply G.eqR ⟨s0, u0, v0⟩ zero3; rfl; rfl; rfl; all_goals intro h; all_goals try (exact absurd hz h)) | (apply J.regQ; exact Tryz.mixed; decide +kernel) | (apply J.regL'; exact Tryz.mixed; decide +kernel)) <;> (refine goR ?_; and_intros <;> (try exact trivial) <;> repeat (first | refine fun (Bk : Nat) => ?_ | intro h)))
      all_goals refine ret1b Tryz.func122 Tryz.results122 ?_
      all_goals rfl
    · rw [decide_eq_false h0]
      have hz : ¬ _ := fun e => h0 (hz.1 e)
      all_goals (refine goR ?_; and_intros <;> (try exact trivial) <;> repeat (first | refine fun (Bk : Nat) => ?_ | intro h))
      repeat' ((first | (apply J.regA (.q 0 <| .q 1 <| .q 2 <| .q 3 <| .q 4 <| .q 5 <| .q 6 <| .nil); exact Tryz.mixed; decide +kernel) | (apply G.ld; rfl; (apply LdV.one; exact CellV.old hb8.c hb8.lt); rfl) | (apply G.cV (g := 61); rfl; rfl; exact fun w' _ => zero_holds w') | (apply G.eqR ⟨s0, u0, v0⟩ zero3; rfl; rfl; rfl; all_goals intro h; all_goals try (exact absurd h hz)) | (apply J.regQ; exact Tryz.mixed; decide +kernel) | (apply J.regL'; exact Tryz.mixed; decide +kernel)) <;> (refine goR ?_; and_intros <;> (try exact trivial) <;> repeat (first | refine fun (Bk : Nat) => ?_ | intro h)))
      all_goals refine ret1b Tryz.func122 Tryz.results122 ?_
      all_goals rfl
  have hri := hrl i hi
  have hti := hrt i (by omega)
  have hpi := hrp i (by omega)
  have hbi := hbad i hi (by omega)
  have hzi := hzb i hi (by omega)
  have hfi := hcf i hi
  have hgi := htf i (by omega)
  obtain ⟨es, cc, Ls, hmb, hmi, hmo⟩ := hM i hi (by omega)
  have hmo := hmo g
  have ihN := fun (hb : BB (L[i], T[i]) = false) => ih (i + 1) ⟨hi, fun j h1 h2 h3 => by
    rcases Nat.lt_or_ge j i with h4 | h4
    · exact i2 j h1 h2 h4
    · obtain rfl : j = i := by omega
      exact hb⟩ (by omega)
  clear ih i2 hzn hzb hbad hcf htf hrl hrt hclk htkk hM hrp hz
  generalize BB (L[i], T[i]) = bi at *
  generalize L[i] = ci at *
  generalize T[i]'_ = ti at *
  generalize pts[i]'_ = pb at *
  obtain ⟨pli, rki, ami⟩ := ci
  rw [cmV, qF] at hri
  rw [qF] at hti
  rw [mpV] at hpi
  dsimp only at *
  have hcm := prod_cmp (x := ti) (y := tk) (a := ami) (b := amk)
  have hma := vMul (hgi.big (by decide)) (hkf.big (by decide))
  have hmb2 := vMul (htk.big (by decide)) (hfi.big (by decide))
  have hqa : fewQ 30100 (rQ (ti * amk)) := fewQ_mul hgi hkf (by decide) (by decide)
  have hqb : fewQ 30100 (rQ (tk * ami)) := fewQ_mul htk hfi (by decide) (by decide)
  have hcp := vCmp (hqa.big (by decide)) (hqb.big (by decide))
  have hz1 := rQ_zero (x := ami)
  have hz2 := rQ_zero (x := ti)
  clear hqa hqb hfi hgi htk hkf
  generalize sgnR (ti * amk - tk * ami) = sg at *
  generalize rQ (ti * amk) = qx at *
  generalize rQ (tk * ami) = qy at *
  generalize rQ ami = q1 at *
  generalize rQ ti = q2 at *
  generalize rQ amk = q3 at *
  generalize rQ tk = q4 at *
  obtain ⟨s1, u1, v1⟩ := q1
  obtain ⟨s2, u2, v2⟩ := q2
  obtain ⟨s3, u3, v3⟩ := q3
  obtain ⟨s4, u4, v4⟩ := q4
  obtain ⟨sx, ux, vx⟩ := qx
  obtain ⟨sy, uy, vy⟩ := qy
  dsimp only [qV, qA] at *
  cases hon : onR R pli g
  · rw [hon] at hmo hbi
    have ihN := ihN hbi
    all_goals (refine goR ?_; and_intros <;> (try exact trivial) <;> repeat (first | refine fun (Bk : Nat) => ?_ | intro h))
    repeat' ((first | (apply J.regA (.q 0 <| .q 1 <| .q 2 <| .q 3 <| .q 4 <| .q 5 <| .q 6 <| .q 7 <| .q 8 <| .q 9 <| .q 10 <| .q 11 <| .q 12 <| .nil); exact Tryz.mixed; decide +kernel) | (apply J.regA (.q 0 <| .q 1 <| .q 2 <| .q 3 <| .q 4 <| .q 5 <| .q 6 <| .q 7 <| .q 8 <| .q 9 <| .q 10 <| .q 11 <| .q 12 <| .q 13 <| .q 14 <| .q 15 <| .q 16 <| .q 17 <| .q 18 <| .q 19 <| .q 20 <| .q 21 <| .q 22 <| .q 23 <| .q 24 <| .q 25 <| .q 26 <| .q 27 <| .q 28 <| .q 29 <| .q 30 <| .q 31 <| .q 32 <| .q 33 <| .q 34 <| .q 35 <| .q 36 <| .q 37 <| .q 38 <| .q 39 <| .q 40 <| .q 41 <| .q 42 <| .q 43 <| .q 44 <| .q 45 <| .q 46 <| .nil); exact Tryz.mixed; decide +kernel) | (apply J.regA (.q 0 <| .q 1 <| .q 2 <| .q 3 <| .q 4 <| .q 5 <| .q 6 <| .nil); exact Tryz.mixed; decide +kernel) | (apply G.ld; rfl; (apply LdV.one; first | exact CellV.old hb4.c hb4.lt | exact CellV.old hb10.c hb10.lt | exact CellV.old hb5.c hb5.lt | exact CellV.old hb8.c hb8.lt); rfl) | (apply G.lkOld hmb hmi; rfl; rfl; exact hmo; rfl) | (apply G.cV (g := 61); rfl; rfl; exact fun w' _ => zero_holds w') | (exact absurd rfl ‹¬ _›) | (apply J.regQ; exact Tryz.mixed; decide +kernel) | (apply J.regL'; exact Tryz.mixed; decide +kernel)) <;> (refine goR ?_; and_intros <;> (try exact trivial) <;> repeat (first | refine fun (Bk : Nat) => ?_ | intro h)))
    exact J.fin ihN
  rw [hon] at hmo hbi
  rw [Bool.true_and] at hbi
  by_cases ha : ami = 0
  · rw [decide_eq_false (fun e => e ha), Bool.false_and] at hbi
    have ihN := ihN hbi
    have hz1 := hz1.2 ha
    all_goals (refine goR ?_; and_intros <;> (try exact trivial) <;> repeat (first | refine fun (Bk : Nat) => ?_ | intro h))
    repeat' ((first | (apply J.regA (.q 0 <| .q 1 <| .q 2 <| .q 3 <| .q 4 <| .q 5 <| .q 6 <| .q 7 <| .q 8 <| .q 9 <| .q 10 <| .q 11 <| .q 12 <| .nil); exact Tryz.mixed; decide +kernel) | (apply J.regA (.q 0 <| .q 1 <| .q 2 <| .q 3 <| .q 4 <| .q 5 <| .q 6 <| .q 7 <| .q 8 <| .q 9 <| .q 10 <| .q 11 <| .q 12 <| .q 13 <| .q 14 <| .q 15 <| .q 16 <| .q 17 <| .q 18 <| .q 19 <| .q 20 <| .q 21 <| .q 22 <| .q 23 <| .q 24 <| .q 25 <| .q 26 <| .q 27 <| .q 28 <| .q 29 <| .q 30 <| .q 31 <| .q 32 <| .q 33 <| .q 34 <| .q 35 <| .q 36 <| .q 37 <| .q 38 <| .q 39 <| .q 40 <| .q 41 <| .q 42 <| .q 43 <| .q 44 <| .q 45 <| .q 46 <| .nil); exact Tryz.mixed; decide +kernel) | (apply J.regA (.q 0 <| .q 1 <| .q 2 <| .q 3 <| .q 4 <| .q 5 <| .q 6 <| .nil); exact Tryz.mixed; decide +kernel) | (apply G.ld; rfl; (apply LdV.one; first | exact CellV.old hb4.c hb4.lt | exact CellV.old hb10.c hb10.lt | exact CellV.old hb5.c hb5.lt | exact CellV.old hb8.c hb8.lt); rfl) | (apply G.lkOld hmb hmi; rfl; rfl; exact hmo; rfl) | (apply G.cV (g := 61); rfl; rfl; exact fun w' _ => zero_holds w') | (apply G.eqR ⟨s1, u1, v1⟩ zero3; rfl; rfl; rfl; all_goals intro h; all_goals try (exact absurd hz1 h)) | (apply J.regQ; exact Tryz.mixed; decide +kernel) | (apply J.regL'; exact Tryz.mixed; decide +kernel)) <;> (refine goR ?_; and_intros <;> (try exact trivial) <;> repeat (first | refine fun (Bk : Nat) => ?_ | intro h)))
    exact J.fin ihN
  rw [decide_eq_true ha, Bool.true_and] at hbi
  have hz1 : ¬ _ := fun e => ha (hz1.1 e)
  rcases Nat.lt_trichotomy rki rkk with hr | hr | hr
  · rw [decide_eq_false (show ¬ (rkk < rki ∧ ti ≠ 0) from fun e => by omega), decide_eq_false (show ¬ (rki = rkk ∧ tk * ami < ti * amk) from fun e => by omega)] at hbi
    have ihN := ihN hbi
    all_goals (refine goR ?_; and_intros <;> (try exact trivial) <;> repeat (first | refine fun (Bk : Nat) => ?_ | intro h))
    repeat' ((first | (apply J.regA (.q 0 <| .q 1 <| .q 2 <| .q 3 <| .q 4 <| .q 5 <| .q 6 <| .q 7 <| .q 8 <| .q 9 <| .q 10 <| .q 11 <| .q 12 <| .nil); exact Tryz.mixed; decide +kernel) | (apply J.regA (.q 0 <| .q 1 <| .q 2 <| .q 3 <| .q 4 <| .q 5 <| .q 6 <| .q 7 <| .q 8 <| .q 9 <| .q 10 <| .q 11 <| .q 12 <| .q 13 <| .q 14 <| .q 15 <| .q 16 <| .q 17 <| .q 18 <| .q 19 <| .q 20 <| .q 21 <| .q 22 <| .q 23 <| .q 24 <| .q 25 <| .q 26 <| .q 27 <| .q 28 <| .q 29 <| .q 30 <| .q 31 <| .q 32 <| .q 33 <| .q 34 <| .q 35 <| .q 36 <| .q 37 <| .q 38 <| .q 39 <| .q 40 <| .q 41 <| .q 42 <| .q 43 <| .q 44 <| .q 45 <| .q 46 <| .nil); exact Tryz.mixed; decide +kernel) | (apply J.regA (.q 0 <| .q 1 <| .q 2 <| .q 3 <| .q 4 <| .q 5 <| .q 6 <| .nil); exact Tryz.mixed; decide +kernel) | (apply G.ld; rfl; (apply LdV.one; first | exact CellV.old hb4.c hb4.lt | exact CellV.old hb10.c hb10.lt | exact CellV.old hb5.c hb5.lt | exact CellV.old hb8.c hb8.lt); rfl) | (apply G.lkOld hmb hmi; rfl; rfl; exact hmo; rfl) | (apply G.cV (g := 61); rfl; rfl; exact fun w' _ => zero_holds w') | (apply G.eqR ⟨s1, u1, v1⟩ zero3; rfl; rfl; rfl; all_goals intro h; all_goals try (exact absurd h hz1)) | (apply J.regQ; exact Tryz.mixed; decide +kernel) | (apply J.regL'; exact Tryz.mixed; decide +kernel)) <;> (refine goR ?_; and_intros <;> (try exact trivial) <;> repeat (first | refine fun (Bk : Nat) => ?_ | intro h)))
    exact J.fin ihN
  · rw [decide_eq_false (show ¬ (rkk < rki ∧ ti ≠ 0) from fun e => by omega), Bool.false_or] at hbi
    by_cases hs : 0 < sg
    · rw [decide_eq_true (show rki = rkk ∧ tk * ami < ti * amk from ⟨hr, hcm.1 hs⟩)] at hbi
      have hbd := hzi hbi
      subst hbd
      clear ihN
      all_goals (refine goR ?_; and_intros <;> (try exact trivial) <;> repeat (first | refine fun (Bk : Nat) => ?_ | intro h))
      repeat' ((first | (apply J.regA (.q 0 <| .q 1 <| .q 2 <| .q 3 <| .q 4 <| .q 5 <| .q 6 <| .q 7 <| .q 8 <| .q 9 <| .q 10 <| .q 11 <| .q 12 <| .nil); exact Tryz.mixed; decide +kernel) | (apply J.regA (.q 0 <| .q 1 <| .q 2 <| .q 3 <| .q 4 <| .q 5 <| .q 6 <| .q 7 <| .q 8 <| .q 9 <| .q 10 <| .q 11 <| .q 12 <| .q 13 <| .q 14 <| .q 15 <| .q 16 <| .q 17 <| .q 18 <| .q 19 <| .q 20 <| .q 21 <| .q 22 <| .q 23 <| .q 24 <| .q 25 <| .q 26 <| .q 27 <| .q 28 <| .q 29 <| .q 30 <| .q 31 <| .q 32 <| .q 33 <| .q 34 <| .q 35 <| .q 36 <| .q 37 <| .q 38 <| .q 39 <| .q 40 <| .q 41 <| .q 42 <| .q 43 <| .q 44 <| .q 45 <| .q 46 <| .nil); exact Tryz.mixed; decide +kernel) | (apply J.regA (.q 0 <| .q 1 <| .q 2 <| .q 3 <| .q 4 <| .q 5 <| .q 6 <| .nil); exact Tryz.mixed; decide +kernel) | (apply G.ld; rfl; (apply LdV.one; first | exact CellV.old hb4.c hb4.lt | exact CellV.old hb10.c hb10.lt | exact CellV.old hb5.c hb5.lt | exact CellV.old hb8.c hb8.lt); rfl) | (apply G.lkOld hmb hmi; rfl; rfl; exact hmo; rfl) | (apply G.cV (g := 61); rfl; rfl; exact fun w' _ => zero_holds w') | (apply G.eqR ⟨s1, u1, v1⟩ zero3; rfl; rfl; rfl; all_goals intro h; all_goals try (exact absurd h hz1)) | (apply G.cV (d := 66) (g := 17); rfl; rfl; exact fun w' _ => hma w') | (apply G.cV (d := 73) (g := 17); rfl; rfl; exact fun w' _ => hmb2 w') | (apply G.cV (g := 16); rfl; rfl; exact fun w' _ => hcp w') | (apply J.regQ; exact Tryz.mixed; decide +kernel) | (apply J.regL'; exact Tryz.mixed; decide +kernel)) <;> (refine goR ?_; and_intros <;> (try exact trivial) <;> repeat (first | refine fun (Bk : Nat) => ?_ | intro h)))
      all_goals refine ret1b Tryz.func122 Tryz.results122 ?_
      all_goals rfl
    · rw [decide_eq_false (show ¬ (rki = rkk ∧ tk * ami < ti * amk) from fun e => hs (hcm.2 e.2))] at hbi
      have ihN := ihN hbi
      all_goals (refine goR ?_; and_intros <;> (try exact trivial) <;> repeat (first | refine fun (Bk : Nat) => ?_ | intro h))
      repeat' ((first | (apply J.regA (.q 0 <| .q 1 <| .q 2 <| .q 3 <| .q 4 <| .q 5 <| .q 6 <| .q 7 <| .q 8 <| .q 9 <| .q 10 <| .q 11 <| .q 12 <| .nil); exact Tryz.mixed; decide +kernel) | (apply J.regA (.q 0 <| .q 1 <| .q 2 <| .q 3 <| .q 4 <| .q 5 <| .q 6 <| .q 7 <| .q 8 <| .q 9 <| .q 10 <| .q 11 <| .q 12 <| .q 13 <| .q 14 <| .q 15 <| .q 16 <| .q 17 <| .q 18 <| .q 19 <| .q 20 <| .q 21 <| .q 22 <| .q 23 <| .q 24 <| .q 25 <| .q 26 <| .q 27 <| .q 28 <| .q 29 <| .q 30 <| .q 31 <| .q 32 <| .q 33 <| .q 34 <| .q 35 <| .q 36 <| .q 37 <| .q 38 <| .q 39 <| .q 40 <| .q 41 <| .q 42 <| .q 43 <| .q 44 <| .q 45 <| .q 46 <| .nil); exact Tryz.mixed; decide +kernel) | (apply J.regA (.q 0 <| .q 1 <| .q 2 <| .q 3 <| .q 4 <| .q 5 <| .q 6 <| .nil); exact Tryz.mixed; decide +kernel) | (apply G.ld; rfl; (apply LdV.one; first | exact CellV.old hb4.c hb4.lt | exact CellV.old hb10.c hb10.lt | exact CellV.old hb5.c hb5.lt | exact CellV.old hb8.c hb8.lt); rfl) | (apply G.lkOld hmb hmi; rfl; rfl; exact hmo; rfl) | (apply G.cV (g := 61); rfl; rfl; exact fun w' _ => zero_holds w') | (apply G.eqR ⟨s1, u1, v1⟩ zero3; rfl; rfl; rfl; all_goals intro h; all_goals try (exact absurd h hz1)) | (apply G.cV (d := 66) (g := 17); rfl; rfl; exact fun w' _ => hma w') | (apply G.cV (d := 73) (g := 17); rfl; rfl; exact fun w' _ => hmb2 w') | (apply G.cV (g := 16); rfl; rfl; exact fun w' _ => hcp w') | (apply J.regQ; exact Tryz.mixed; decide +kernel) | (apply J.regL'; exact Tryz.mixed; decide +kernel)) <;> (refine goR ?_; and_intros <;> (try exact trivial) <;> repeat (first | refine fun (Bk : Nat) => ?_ | intro h)))
      exact J.fin ihN
  · rw [decide_eq_false (show ¬ (rki = rkk ∧ tk * ami < ti * amk) from fun e => by omega), Bool.or_false] at hbi
    by_cases ht0 : ti = 0
    · rw [decide_eq_false (fun e => e.2 ht0)] at hbi
      have ihN := ihN hbi
      have hz2 := hz2.2 ht0
      all_goals (refine goR ?_; and_intros <;> (try exact trivial) <;> repeat (first | refine fun (Bk : Nat) => ?_ | intro h))
      repeat' ((first | (apply J.regA (.q 0 <| .q 1 <| .q 2 <| .q 3 <| .q 4 <| .q 5 <| .q 6 <| .q 7 <| .q 8 <| .q 9 <| .q 10 <| .q 11 <| .q 12 <| .nil); exact Tryz.mixed; decide +kernel) | (apply J.regA (.q 0 <| .q 1 <| .q 2 <| .q 3 <| .q 4 <| .q 5 <| .q 6 <| .q 7 <| .q 8 <| .q 9 <| .q 10 <| .q 11 <| .q 12 <| .q 13 <| .q 14 <| .q 15 <| .q 16 <| .q 17 <| .q 18 <| .q 19 <| .q 20 <| .q 21 <| .q 22 <| .q 23 <| .q 24 <| .q 25 <| .q 26 <| .q 27 <| .q 28 <| .q 29 <| .q 30 <| .q 31 <| .q 32 <| .q 33 <| .q 34 <| .q 35 <| .q 36 <| .q 37 <| .q 38 <| .q 39 <| .q 40 <| .q 41 <| .q 42 <| .q 43 <| .q 44 <| .q 45 <| .q 46 <| .nil); exact Tryz.mixed; decide +kernel) | (apply J.regA (.q 0 <| .q 1 <| .q 2 <| .q 3 <| .q 4 <| .q 5 <| .q 6 <| .nil); exact Tryz.mixed; decide +kernel) | (apply G.ld; rfl; (apply LdV.one; first | exact CellV.old hb4.c hb4.lt | exact CellV.old hb10.c hb10.lt | exact CellV.old hb5.c hb5.lt | exact CellV.old hb8.c hb8.lt); rfl) | (apply G.lkOld hmb hmi; rfl; rfl; exact hmo; rfl) | (apply G.cV (g := 61); rfl; rfl; exact fun w' _ => zero_holds w') | (apply G.eqR ⟨s1, u1, v1⟩ zero3; rfl; rfl; rfl; all_goals intro h; all_goals try (exact absurd h hz1)) | (apply G.neR ⟨s2, u2, v2⟩ zero3; rfl; rfl; rfl; all_goals intro h; all_goals try (exact absurd hz2 h)) | (apply J.regQ; exact Tryz.mixed; decide +kernel) | (apply J.regL'; exact Tryz.mixed; decide +kernel)) <;> (refine goR ?_; and_intros <;> (try exact trivial) <;> repeat (first | refine fun (Bk : Nat) => ?_ | intro h)))
      exact J.fin ihN
    · rw [decide_eq_true (show rkk < rki ∧ ti ≠ 0 from ⟨hr, ht0⟩)] at hbi
      have hbd := hzi hbi
      subst hbd
      have hz2 : ¬ _ := fun e => ht0 (hz2.1 e)
      clear ihN
      all_goals (refine goR ?_; and_intros <;> (try exact trivial) <;> repeat (first | refine fun (Bk : Nat) => ?_ | intro h))
      repeat' ((first | (apply J.regA (.q 0 <| .q 1 <| .q 2 <| .q 3 <| .q 4 <| .q 5 <| .q 6 <| .q 7 <| .q 8 <| .q 9 <| .q 10 <| .q 11 <| .q 12 <| .nil); exact Tryz.mixed; decide +kernel) | (apply J.regA (.q 0 <| .q 1 <| .q 2 <| .q 3 <| .q 4 <| .q 5 <| .q 6 <| .q 7 <| .q 8 <| .q 9 <| .q 10 <| .q 11 <| .q 12 <| .q 13 <| .q 14 <| .q 15 <| .q 16 <| .q 17 <| .q 18 <| .q 19 <| .q 20 <| .q 21 <| .q 22 <| .q 23 <| .q 24 <| .q 25 <| .q 26 <| .q 27 <| .q 28 <| .q 29 <| .q 30 <| .q 31 <| .q 32 <| .q 33 <| .q 34 <| .q 35 <| .q 36 <| .q 37 <| .q 38 <| .q 39 <| .q 40 <| .q 41 <| .q 42 <| .q 43 <| .q 44 <| .q 45 <| .q 46 <| .nil); exact Tryz.mixed; decide +kernel) | (apply J.regA (.q 0 <| .q 1 <| .q 2 <| .q 3 <| .q 4 <| .q 5 <| .q 6 <| .nil); exact Tryz.mixed; decide +kernel) | (apply G.ld; rfl; (apply LdV.one; first | exact CellV.old hb4.c hb4.lt | exact CellV.old hb10.c hb10.lt | exact CellV.old hb5.c hb5.lt | exact CellV.old hb8.c hb8.lt); rfl) | (apply G.lkOld hmb hmi; rfl; rfl; exact hmo; rfl) | (apply G.cV (g := 61); rfl; rfl; exact fun w' _ => zero_holds w') | (apply G.eqR ⟨s1, u1, v1⟩ zero3; rfl; rfl; rfl; all_goals intro h; all_goals try (exact absurd h hz1)) | (apply G.neR ⟨s2, u2, v2⟩ zero3; rfl; rfl; rfl; all_goals intro h; all_goals try (exact absurd h hz2)) | (apply J.regQ; exact Tryz.mixed; decide +kernel) | (apply J.regL'; exact Tryz.mixed; decide +kernel)) <;> (refine goR ?_; and_intros <;> (try exact trivial) <;> repeat (first | refine fun (Bk : Nat) => ?_ | intro h)))
      all_goals refine ret1b Tryz.func122 Tryz.results122 ?_
      all_goals rfl
end Go.Proofs.YtcdgibkbbcekhaaGreatDoor
/-
  Contracts of rights: the program's Fair.
-/
namespace Go.Proofs.YtcdgibkbbcekhaaGreatDoor
open Go.RowKit Go.Sl Go.Num
def opV (b : Option Nat) : List Value := [.map b]
theorem opV_len (b : Option Nat) : (opV b).length = 1 := rfl
abbrev Pts := List (Nat × List (Int × Value))
/-- The maps that are made, and no maps. -/
def ptL (m : Nat) (pl : Pts) : List (Option Nat) := pl.map (fun x => some x.1) ++ List.replicate (m - pl.length) none
theorem ptL_len {m : Nat} {pl : Pts} (h : pl.length ≤ m) : (ptL m pl).length = m := by rw [ptL, List.length_append, List.length_map, List.length_replicate]; omega
theorem ptL_set {m : Nat} {pl : Pts} (h : pl.length < m) (b : Nat) (Ls : List (Int × Value)) : (ptL m pl).set pl.length (some b) = ptL m (pl ++ [(b, Ls)]) := by
  rw [ptL, ptL, List.set_append_right _ _ (by rw [List.length_map]; exact Nat.le_refl _), List.length_map, Nat.sub_self, List.map_append, List.append_assoc, List.length_append]
  congr 1
  rw [show m - pl.length = (m - (pl.length + 1)) + 1 by omega, List.replicate_succ, List.set_cons_zero]; rfl
theorem ptL_end {m : Nat} {pl : Pts} (h : pl.length = m) : (ptL m pl).map opV = (pl.map (·.1)).map mpV := by
  rw [ptL, h, Nat.sub_self, List.replicate_zero, List.append_nil, List.map_map, List.map_map]; rfl
theorem zeroP (m : Nat) : flat (fun x : List Value => x) (List.replicate m [.map none]) = flat opV (ptL m []) := by
  show _ = flat opV (([] : List (Option Nat)) ++ List.replicate (m - 0) none)
  rw [List.nil_append, Nat.sub_zero]
  induction m with
  | zero => rfl
  | succ m ih => rw [List.replicate_succ, List.replicate_succ, flat_cons, flat_cons, ih]; rfl
/-- What the points of a claim are. -/
def PtOk (R : List Rch) (p : Nat) (Ls : List (Int × Value)) : Prop := ∀ g : Nat, (getM (g : Int) Ls).getD (.bool false) = .bool (onR R p g)
def KtOk (R : List Rch) (p i : Nat) (Ls : List (Int × Value)) : Prop := ∀ g : Nat, (getM (g : Int) Ls).getD (.bool false) = .bool (onK R p i g)
theorem KtOk.next {R : List Rch} {p i g : Nat} {Ls : List (Int × Value)} (h : KtOk R p i Ls) (hg : itr R i (p : Int) = (g : Int)) : KtOk R p (i + 1) (putM (g : Int) (.bool true) Ls) := fun t => by
  rw [getM_put, onK_succ, hg]
  by_cases ht : (t : Int) = (g : Int)
  · rw [if_pos ht, decide_eq_true ht.symm, Bool.or_true]; rfl
  · rw [if_neg ht, h t, decide_eq_false (fun e => ht e.symm), Bool.or_false]
/-- Numbers that are known, and zeros. -/
def otL (m : Nat) (l : List Int) : List Int := l ++ List.replicate (m - l.length) 0
theorem otL_len {m : Nat} {l : List Int} (h : l.length ≤ m) : (otL m l).length = m := by rw [otL, List.length_append, List.length_replicate]; omega
theorem otL_set {m : Nat} {l : List Int} (h : l.length < m) (v : Int) : (otL m l).set l.length v = otL m (l ++ [v]) := by
  rw [otL, otL, List.set_append_right _ _ (Nat.le_refl _), Nat.sub_self, List.append_assoc, List.length_append]
  congr 1
  rw [show m - l.length = (m - (l.length + 1)) + 1 by omega, List.replicate_succ, List.set_cons_zero]; rfl
theorem zeroO (m : Nat) : flat (fun x : List Value => x) (List.replicate m [Value.int .i64 0]) = flat isV (otL m []) := by
  show _ = flat isV (([] : List Int) ++ List.replicate (m - 0) 0)
  rw [List.nil_append, Nat.sub_zero]
  induction m with
  | zero => rfl
  | succ m ih => rw [List.replicate_succ, List.replicate_succ, flat_cons, flat_cons, ih]; rfl
set_option maxHeartbeats 16000000 in
theorem vFair_holds (w : World) (ra : Option Addr) (R : List Rch) (rc : Nat) (ga : Option Addr) (Gs : List Rat) (gc : Nat) (la : Option Addr) (L : List Cm) (lc : Nat) (ta : Option Addr) (Tq : List Q3) (tc : Nat)
    (hS : SupAt w ra R ga (Gs.map qF)) (hsu : SupOk R Gs) (hL : SlAt w la 5 (L.map cmV)) (hC : ClOk R.length L) (hT : SlAt w ta 3 (Tq.map qV)) (hf : ∀ q ∈ Tq, fewQ 30000 q) (htl : Tq.length ≤ 1000000)
    (hck : ∀ w', Below w.heap.size w w' → Calls Tryz.prog 48 #[.agg #[.slice ra R.length rc, .slice ga Gs.length gc], .slice la L.length lc] w' fun e w2 => e = .returned (.int .i64 0) ∧ Below w'.heap.size w' w2) :
    Calls Tryz.prog 55 #[.agg #[.slice ra R.length rc, .slice ga Gs.length gc], .slice la L.length lc, .slice ta Tq.length tc] w (RetI (fun v => .tuple #[v, .int .i64 (frE R Gs L Tq).1]) w (frE R Gs L Tq).2) := by
  have hl := hC.len
  have hR := riv_of hsu.riv
  have hnl := hR.len
  have hlf := fun w' (hb : Below w.heap.size w w') => vLeft_holds w' ra R rc ga Gs gc la L lc ta Tq tc (hS.below hb) hsu (hL.below hb) hC (hT.below hb) hf htl (fun w2 hb2 => hck w2 (hb.trans (hb2.mono hb.size)))
  rw [frE]
  by_cases h0 : lfE R Gs L Tq = 0
  case neg =>
    rw [if_pos h0]
    rw [if_neg h0] at hlf
    dsimp only
    generalize lfE R Gs L Tq = E at *
    refine enterA [(0, .agg #[.slice ra R.length rc, .slice ga Gs.length gc]), (1, .slice la L.length lc), (2, .slice ta Tq.length tc)] Tryz.func55 Tryz.ntmps55 ?_
    all_goals (refine go ?_; and_intros <;> (try exact trivial) <;> repeat (first | refine fun (Bk : Nat) => ?_ | intro h))
    repeat' ((first | (apply G.cN (g := 54) (fun a' c' => .tuple #[.slice a' 0 c', .int .i64 E]) ([] : List (List Value)); rfl; rfl; exact fun w' hw' => hlf w' hw'.below; intro a1 c1 hp1 hq1)) <;> (refine go ?_; and_intros <;> (try exact trivial) <;> repeat (first | refine fun (Bk : Nat) => ?_ | intro h)))
    (refine ret2 Tryz.func55 Tryz.results55 ?_; intro w' hw)
    exact retI_nil (fun v => .tuple #[v, .int .i64 E]) hw.below
  rw [if_neg (fun h => h h0)]
  rw [if_pos h0, h0] at hlf
  obtain ⟨hlen, hgood, -⟩ := lfE_ok h0
  have hgq := good_all hlen hgood
  have hok := good_ok hlen hgq hf
  have hTm : SlAt w ta 3 ((Tq.map qR).map qF) := by rw [good_map hgq]; exact hT
  rw [hlen] at hlf ⊢
  clear hgood hgq hT hf h0 htl hck
  generalize Tq.map qR = T at *
  have hTl := hok.1
  have hlf : ∀ w', Below w.heap.size w w' → Calls Tryz.prog 54 #[.agg #[.slice ra R.length rc, .slice ga Gs.length gc], .slice la L.length lc, .slice ta L.length tc] w' fun e w2 => ∃ a' c', e = .returned (.tuple #[.slice a' R.length c', .int .i64 0]) ∧ SlAt w2 a' 3 ((gl R.length (rsT R Gs L T)).map qF) ∧ (∀ p, a' = some p → w'.heap.size ≤ p.block) ∧ Below w'.heap.size w' w2 := fun w' hb => (hlf w' hb).mono fun e w2 ⟨a', c', e1, e2, e3, e4⟩ => ⟨a', c', by rw [gl_len] at e1; exact e1, e2, e3, e4⟩
  refine enterA [(0, .agg #[.slice ra R.length rc, .slice ga Gs.length gc]), (1, .slice la L.length lc), (2, .slice ta L.length tc)] Tryz.func55 Tryz.ntmps55 ?_
  all_goals (refine go ?_; and_intros <;> (try exact trivial) <;> repeat (first | refine fun (Bk : Nat) => ?_ | intro h))
  repeat' ((first | (apply G.cN (g := 54) (fun a' c' => .tuple #[.slice a' R.length c', .int .i64 0]) ((gl R.length (rsT R Gs L T)).map qF); rfl; rfl; exact fun w' hw' => hlf w' hw'.below; intro a1 c1 hp1 hq1) | (apply G.make (n := L.length) [.map none]; rfl; rfl; rfl; rfl; rfl; rfl; rfl; rfl; omega; omega; intro Bp)) <;> (refine go ?_; and_intros <;> (try exact trivial) <;> repeat (first | refine fun (Bk : Nat) => ?_ | intro h)))
  rename_i B3 B4 B5 B8
  revert Bk; intro B10
  rw [zeroP]
  apply J.mf0 (κ := Int) (Value.int .i64)
  have hAr := hS.riv
  have hcp := fun i (h : i < L.length) => hC.pl _ (List.getElem_mem h)
  refine J.loopD (c := _) ((0, [], []) : Nat × Pts × List Nat) (fun x => L.length - x.1) (fun x => x.2.2.map Sl.mark) (fun x => [(3, .pointer (some ⟨B3, 0, none⟩)), (4, .pointer (some ⟨B4, 0, none⟩)), (5, .pointer (some ⟨B5, 0, none⟩)), (8, .pointer (some ⟨B8, 0, none⟩)), (10, .pointer (some ⟨B10, 0, none⟩)), (32, .slice la L.length lc), (33, .int .i64 L.length), (34, .int .i64 x.1)])
    (fun x => mfRow (Value.int .i64) x.2.1 :: .blk B10 185 [.slice (some ⟨Bp, 0, none⟩) L.length L.length] 1 :: .blk Bp 112 (flat opV (ptL L.length x.2.1)) (L.length * 1) :: .blk B8 23 [.slice a1 R.length c1] 1 :: slRow w.heap.size a1 3 ((gl R.length (rsT R Gs L T)).map qF) :: .blk B5 23 [.slice ta L.length tc] 1 :: .blk B4 26 [.slice la L.length lc] 1 :: .blk B3 25 [.slice ra R.length rc, .slice ga Gs.length gc] 2 :: Sl.mk x.2.2)
    (fun x => x.1 ≤ L.length ∧ x.2.1.length = x.1 ∧ ∀ i (h : i < L.length) (h2 : i < x.2.1.length), PtOk R L[i].pl x.2.1[i].2) ?_ rfl (by (repeat' (first | exact trivial | refine ⟨rfl, ?_⟩))) (List.Sublist.refl _) ?_
  · exact ⟨Nat.zero_le _, rfl, fun i _ h => absurd h (Nat.not_lt_zero _)⟩
  intro ⟨k, pl, ds⟩ ⟨k1, k2, k3⟩ ih
  dsimp only at k1 k2 k3 ⊢
  by_cases hk : k < L.length
  · obtain ⟨bl, ol, rfl, hrl⟩ := SlAt.all hL (by omega)
    have hrk := hrl k hk
    have hpk := hcp k hk
    have hset := fun b Ls => ptL_set (m := L.length) (pl := pl) (by omega) b Ls
    rw [k2] at hset
    have hsl := ptL_len (m := L.length) (pl := pl) (by omega)
    have hrs : ∀ b, setL (flat opV (ptL L.length pl)) (0 + k * 1) [.map (some b)] = flat opV ((ptL L.length pl).set k (some b)) := fun b => by rw [Nat.zero_add]; exact flat_set (f := opV) opV_len (i := k) (l := ptL L.length pl) (by omega) (some b)
    have hl1 : 0 + k * 1 < (flat opV (ptL L.length pl)).length := by rw [flat_len opV_len]; omega
    have ihN := fun b Ls (hP : PtOk R L[k].pl Ls) Bd => ih (k + 1, pl ++ [(b, Ls)], Bd :: ds) ⟨hk, by dsimp only; rw [List.length_append, k2]; rfl, fun i h1 h2 => by
      dsimp only at h2 ⊢
      rcases Nat.lt_or_ge i pl.length with h3 | h3
      · rw [List.getElem_append_left h3]; exact k3 i h1 h3
      · rw [List.length_append] at h2
        obtain rfl : i = k := by
          have : [(b, Ls)].length = 1 := rfl
          omega
        rw [List.getElem_append_right (by omega)]
        simp only [k2, Nat.sub_self, List.getElem_cons_zero]
        exact hP⟩ (by dsimp only; omega)
    dsimp only at ihN
    clear ih hlf
    generalize L[k] = cl at *
    obtain ⟨pk, rk, am⟩ := cl
    rw [cmV, qF] at hrk
    dsimp only at *
    generalize rQ am = qa at *
    obtain ⟨s1, u1, v1⟩ := qa
    dsimp only [qV] at hrk
    all_goals (refine go ?_; and_intros <;> (try exact trivial) <;> repeat (first | refine fun (Bk : Nat) => ?_ | intro h))
    repeat' ((first | (apply G.mkm; rfl; intro bm) | (apply G.s1; rfl; rfl; rfl; (repeat (first | exact RAt.head | apply RAt.tail)); exact ⟨rfl, rfl⟩; exact hl1; exact hrs bm) | (apply G.cR (g := 70) (v := fun x : Nat × Nat => .func (.func 132) #[] #[.pointer (some ⟨x.1, 0, none⟩), .pointer (some ⟨x.2, 0, none⟩)]) (Mn := fun x => [.blk x.1 3 [.int .i64 pk] 1, .blk x.2 22 [.slice ra R.length rc] 1]); rfl; rfl; exact fun w' hw' => rdown_holds _ _ w' ra R rc pk hw'; rintro ⟨Bg, Bl2⟩; dsimp only)) <;> (refine go ?_; and_intros <;> (try exact trivial) <;> repeat (first | refine fun (Bk : Nat) => ?_ | intro h)))
    rename_i B11
    have hgx : (flat opV ((ptL L.length pl).set k (some bm)))[0 + k * 1]? = some (.map (some bm)) := by
      have h1 := flat_at (f := opV) opV_len (i := k) (j := 0) (l := (ptL L.length pl).set k (some bm)) (by rw [List.length_set]; omega) (by decide)
      rw [Nat.zero_add, ← Nat.add_zero (k * 1), h1, List.getElem_set_self]; rfl
    have ihN := fun Ls => ihN bm Ls
    simp only [← hset bm] at ihN
    clear hset hsl hrs hl1
    generalize (ptL L.length pl).set k (some bm) = X2 at *
    refine J.rangeE1 (e1 := fun e : Int => .int .i64 e) (es := wayI R pk) (K := [.blk Bg 3 [.int .i64 pk] 1, .blk Bl2 22 [.slice ra R.length rc] 1]) (fun s : Nat × Array MapEntry × Nat × List (Int × Value) => [.obj bm (.map s.2.1 s.2.2.1), .blk B10 185 [.slice (some ⟨Bp, 0, none⟩) L.length L.length] 1, .blk Bp 112 (flat opV X2) (L.length * 1), .blk B11 3 [.int .i64 k] 1]) (fun i s => s.1 = i ∧ MapIs (Value.int .i64) s.2.1 s.2.2.1 s.2.2.2 ∧ KtOk R pk i s.2.2.2) (fun _ _ => False) (0, #[], 0, []) (mfRow (Value.int .i64) pl :: .blk B8 23 [.slice a1 R.length c1] 1 :: slRow w.heap.size a1 3 ((gl R.length (rsT R Gs L T)).map qF) :: .blk B5 23 [.slice ta L.length tc] 1 :: .blk B4 26 [.slice (some ⟨bl, ol, none⟩) L.length lc] 1 :: .blk B3 25 [.slice ra R.length rc, .slice ga Gs.length gc] 2 :: .blk Bk 40 [.int .i64 pk, .int .i64 rk, .bool s1, .string (bs u1), .string (bs v1)] 5 :: Sl.mk ds) (rdown_iter w Bg Bl2 ra R rc pk hAr hR hpk) rfl rfl rfl (by (repeat (first | exact List.Perm.refl _ | (refine pickT (by (repeat (first | exact Pick.head | apply Pick.tail))) ?_)))) ⟨rfl, MapIs.nil, fun g => by rw [onK_zero]; rfl⟩ ?_ ?_ ?_
    · intro i ⟨j, es, cc, Ls⟩ e ⟨i1, i2, i3⟩ he L0 rr M' hrs hrp
      obtain ⟨hj, rfl⟩ := wayI_at he
      dsimp only at i1 i2 i3 ⊢
      subst i1
      have hd := hR.dep (g := (pk : Int)) (by omega)
      have h0 := hd.2.2 j hj
      have hnx := fun g (h : itr R j (pk : Int) = ((g : Nat) : Int)) => i3.next h
      clear he hd ihN
      generalize itr R j (pk : Int) = e at *
      obtain ⟨g, rfl⟩ : ∃ g : Nat, e = g := ⟨e.toNat, by omega⟩
      have hnx := hnx g rfl
      all_goals (refine goR ?_; and_intros <;> (try exact trivial) <;> repeat (first | refine fun (Bk : Nat) => ?_ | intro h))
      repeat' ((first | (refine J.beginR rfl (i := 0) rfl hrs ?_) | (apply G.ld; rfl; (apply LdV.one; exact CellV.blk (by exact mm) hgx); rfl) | (apply G.mu i2 rfl; rfl; rfl; rfl; rfl; (repeat (first | exact RAt.head | apply RAt.tail)); intro es2 c2 hI2) | (apply J.regQ; exact Tryz.mixed; decide +kernel) | (apply J.regL'; exact Tryz.mixed; decide +kernel)) <;> (refine goR ?_; and_intros <;> (try exact trivial) <;> repeat (first | refine fun (Bk : Nat) => ?_ | intro h)))
      exact J.sel (leaveG hrs hrp (j + 1, es2, c2, putM (g : Int) (.bool true) Ls) ⟨rfl, hI2, hnx⟩ rfl)
    · intro Bd ⟨j, es, cc, Ls⟩ ⟨i1, i2, i3⟩
      dsimp only at i1 i2 i3 ⊢
      rw [wayI_len] at i3
      have hP : PtOk R pk Ls := fun g => by rw [i3 g, onK_end hR (hR.dep (g := (pk : Int)) (by omega)).1]
      have ihN := ihN Ls hP Bd
      all_goals (refine go ?_; and_intros <;> (try exact trivial) <;> repeat (first | refine fun (Bk : Nat) => ?_ | intro h))
      refine J.mfAdd (kf := Value.int .i64) (o := pl) (b := bm) (L := Ls) (by (repeat (first | exact Pick.head | apply Pick.tail))) (by exact mm) i2 ?_
      exact J.finS ihN
    · intro _ _ _ h
      exact h.elim
  obtain rfl : k = L.length := by omega
  clear ih hlf
  have hfb : ∀ (M : List Row) w', Sat w M w' → slRow w.heap.size a1 3 ((gl R.length (rsT R Gs L T)).map qF) ∈ M → Row.blk Bp 112 (flat opV (ptL L.length pl)) (L.length * 1) ∈ M → mfRow (Value.int .i64) pl ∈ M → Row.blk B4 26 [.slice la L.length lc] 1 ∈ M → Row.blk B10 185 [.slice (some ⟨Bp, 0, none⟩) L.length L.length] 1 ∈ M → Row.blk B5 23 [.slice ta L.length tc] 1 ∈ M → Row.blk B8 23 [.slice a1 R.length c1] 1 ∈ M →
      ∀ k g (hk : k < L.length) (hk2 : k < T.length) (hg : g < R.length), Calls Tryz.prog 122 (#[.int .i64 k, .int .i64 g] ++ #[.pointer (some ⟨B4, 0, none⟩), .pointer (some ⟨B10, 0, none⟩), .pointer (some ⟨B5, 0, none⟩), .pointer (some ⟨B8, 0, none⟩)]) w' fun e w2 => e = .returned (.bool (bndB (onR R) R.length (fsq Gs) (L.zip T) (L[k], T[k]) g)) ∧ Below w'.heap.size w' w2 :=
    fun M w' hw' m1 m2 m3 m4 m5 m6 m7 k g hk hk2 hg => fb_holds w' R Gs la L lc ta T tc a1 c1 B4 B10 B5 B8 Bp (pl.map (·.1)) k g (hL.below hw'.below) hC (hTm.below hw'.below) hok (hw'.sl m1) (by rw [← ptL_end k2]; exact SlAt.ofBlk opV_len hw' m2) (by rw [List.length_map]; exact k2) (fun i h h2 => by
        rw [List.length_map] at h2
        obtain ⟨es, c, e1, e2⟩ := hw'.mf m3 pl[i] (List.getElem_mem h2)
        exact ⟨es, c, pl[i].2, by rw [List.getElem_map]; exact e1, e2, k3 i h h2⟩)
      ⟨hw'.cellBlk m4 (j := 0) rfl, ((hw'.old _ m4).2 B4 rfl).2⟩ ⟨hw'.cellBlk m5 (j := 0) rfl, ((hw'.old _ m5).2 B10 rfl).2⟩ ⟨hw'.cellBlk m6 (j := 0) rfl, ((hw'.old _ m6).2 B5 rfl).2⟩ ⟨hw'.cellBlk m7 (j := 0) rfl, ((hw'.old _ m7).2 B8 rfl).2⟩ hk hk2 hg
  have hle : ∀ k (h1 : k < L.length) (h2 : k < T.length), True := fun _ _ _ => trivial
  rw [fairZ]
  have hzl : (L.zip T).length = L.length := by rw [List.length_zip]; omega
  have hat : ∀ k (h1 : k < L.length) (h2 : k < T.length) (h3 : k < ((L.zip T).map (atZ R (fsq Gs) (L.zip T))).length), ((L.zip T).map (atZ R (fsq Gs) (L.zip T)))[k] = atZ R (fsq Gs) (L.zip T) (L[k], T[k]) := fun k h1 h2 h3 => by rw [List.getElem_map, List.getElem_zip]
  have hAl : ((L.zip T).map (atZ R (fsq Gs) (L.zip T))).length = L.length := by rw [List.length_map]; exact hzl
  have hA0 : ∀ k (h1 : k < L.length) (h2 : k < T.length), T[k] = L[k].am → atZ R (fsq Gs) (L.zip T) (L[k], T[k]) = some (-1) := fun k h1 h2 h => atZ_neg.2 h
  have hA1 : ∀ k (h1 : k < L.length) (h2 : k < T.length) i, T[k] ≠ L[k].am → i < dpt R (L[k].pl : Int) → bndB (onR R) R.length (fsq Gs) (L.zip T) (L[k], T[k]) (itr R i L[k].pl).toNat = true → (∀ j, j < i → bndB (onR R) R.length (fsq Gs) (L.zip T) (L[k], T[k]) (itr R j L[k].pl).toNat = false) → atZ R (fsq Gs) (L.zip T) (L[k], T[k]) = some ((itr R i L[k].pl).toNat : Int) := fun k h1 h2 i h3 h4 h5 h6 => by
    rw [atZ, if_neg h3, wayN_find h4 h5 h6]; rfl
  have hA2 : ∀ k (h1 : k < L.length) (h2 : k < T.length), T[k] ≠ L[k].am → (∀ j, j < dpt R (L[k].pl : Int) → bndB (onR R) R.length (fsq Gs) (L.zip T) (L[k], T[k]) (itr R j L[k].pl).toNat = false) → atZ R (fsq Gs) (L.zip T) (L[k], T[k]) = none := fun k h1 h2 h3 h4 => by
    rw [atZ, if_neg h3, wayN_none h4]; rfl
  clear hS hC hok hsu k3
  generalize atZ R (fsq Gs) (L.zip T) = AZ at *
  generalize (L.zip T).map AZ = A at *
  generalize bndB (onR R) R.length (fsq Gs) (L.zip T) = FB at *
  generalize rsT R Gs L T = rsF at *
  all_goals (refine go ?_; and_intros <;> (try exact trivial) <;> repeat (first | refine fun (Bk : Nat) => ?_ | intro h))
  repeat' ((first | (apply G.make (n := L.length) [.int .i64 0]; rfl; rfl; rfl; rfl; rfl; rfl; rfl; rfl; omega; omega; intro Bo)) <;> (refine go ?_; and_intros <;> (try exact trivial) <;> repeat (first | refine fun (Bk : Nat) => ?_ | intro h)))
  rename_i B14
  revert Bk; intro B15
  rw [show flat (fun x : List Value => x) (List.replicate L.length [Value.int .i64 0]) = flat isV (otL L.length []) from zeroO _]
  refine J.loopD (c := _) ((0, [], ds) : Nat × List Int × List Nat) (fun x => L.length - x.1) (fun x => x.2.2.map Sl.mark) (fun x => [(3, .pointer (some ⟨B3, 0, none⟩)), (5, .pointer (some ⟨B5, 0, none⟩)), (14, .pointer (some ⟨B14, 0, none⟩)), (15, .pointer (some ⟨B15, 0, none⟩)), (59, .slice la L.length lc), (60, .int .i64 L.length), (61, .int .i64 x.1)])
    (fun x => .blk B15 44 [.slice (some ⟨Bo, 0, none⟩) L.length L.length] 1 :: .blk Bo 3 (flat isV (otL L.length x.2.1)) (L.length * 1) :: .blk B14 186 [.func (.func 122) #[] #[.pointer (some ⟨B4, 0, none⟩), .pointer (some ⟨B10, 0, none⟩), .pointer (some ⟨B5, 0, none⟩), .pointer (some ⟨B8, 0, none⟩)]] 1 :: mfRow (Value.int .i64) pl :: .blk B10 185 [.slice (some ⟨Bp, 0, none⟩) L.length L.length] 1 :: .blk Bp 112 (flat opV (ptL L.length pl)) (L.length * 1) :: .blk B8 23 [.slice a1 R.length c1] 1 :: slRow w.heap.size a1 3 ((gl R.length rsF).map qF) :: .blk B5 23 [.slice ta L.length tc] 1 :: .blk B4 26 [.slice la L.length lc] 1 :: .blk B3 25 [.slice ra R.length rc, .slice ga Gs.length gc] 2 :: Sl.mk x.2.2)
    (fun x => x.1 ≤ L.length ∧ x.2.1.length = x.1 ∧ A.take x.1 = x.2.1.map some) ?_ rfl (by (repeat' (first | exact trivial | refine ⟨rfl, ?_⟩))) (List.Sublist.refl _) ?_
  · exact ⟨Nat.zero_le _, rfl, rfl⟩
  clear k1 k2
  intro ⟨k, l, ds⟩ ⟨k1, k2, k3⟩ ih
  dsimp only at k1 k2 k3 ⊢
  by_cases hk2 : k < L.length
  case neg =>
    obtain rfl : k = L.length := by omega
    have k3 : A.take L.length = l.map some := k3
    rw [← hAl, List.take_length] at k3
    have h5 : allO A = some l := allO_some.2 k3
    rw [h5]
    dsimp only
    clear ih
    have hol : otL L.length l = l := by rw [otL, k2, Nat.sub_self, List.replicate_zero, List.append_nil]
    rw [hol]
    all_goals (refine go ?_; and_intros <;> (try exact trivial) <;> repeat (first | refine fun (Bk : Nat) => ?_ | intro h))
    refine J.sel (T := .blk Bo 3 (flat isV l) (L.length * 1) :: Sl.mk ds) ?_
    refine leaveM (v := .tuple #[.slice (some ⟨Bo, 0, none⟩) L.length L.length, .int .i64 0]) (ds := ds) (M0 := [.blk Bo 3 (flat isV l) (L.length * 1)]) Tryz.func55 rfl rfl rfl rfl (RunsTo.two Tryz.results55 (by (first | (apply ResV.tmp; rfl) | (apply ResV.cell; rfl; (first | (apply LdV.one; (first | exact CellV.row0 (by assumption) rfl | exact CellV.rowS (by assumption) rfl | exact CellV.rowSS (by assumption) rfl | (apply CellV.blk; exact mm; rfl))) | (apply LdV.aggBlk; exact mm; rfl) | (apply LdV.part; exact mm; rfl; rfl) | (apply LdV.aggRow; assumption; rfl) | (apply LdV.partRow; assumption; rfl; rfl))))) (by (first | (apply ResV.tmp; rfl) | (apply ResV.cell; rfl; (first | (apply LdV.one; (first | exact CellV.row0 (by assumption) rfl | exact CellV.rowS (by assumption) rfl | exact CellV.rowSS (by assumption) rfl | (apply CellV.blk; exact mm; rfl))) | (apply LdV.aggBlk; exact mm; rfl) | (apply LdV.part; exact mm; rfl; rfl) | (apply LdV.aggRow; assumption; rfl) | (apply LdV.partRow; assumption; rfl; rfl)))))) (List.perm_append_comm (l₁ := [_])) fun w' hw' => ?_
    have h6 := blkSlA (f := isV) (sz := 1) (l := l) hw' isV_len
    exact ⟨some ⟨Bo, 0, none⟩, L.length, by rw [k2], h6.1, (fun p hp => by cases hp; exact h6.2), hw'.below⟩
  have hk := hk2
  have hkT : k < T.length := by omega
  have hkA : k < A.length := by omega
  have hAk := hat k hk hkT hkA
  have hA0 := hA0 k hk hkT
  have hA1 := hA1 k hk hkT
  have hA2 := hA2 k hk hkT
  have hplk := hcp k hk
  have htk1 : A.take (k + 1) = A.take k ++ [A[k]] := by rw [List.take_add_one, List.getElem?_eq_getElem hkA]; rfl
  have hno : A[k] = none → allO A = none := fun h => allO_none.2 (by rw [← h]; exact List.getElem_mem _)
  have hset := fun v => otL_set (m := L.length) (l := l) (by omega) v
  rw [k2] at hset
  have hol := otL_len (m := L.length) (l := l) (by omega)
  have hl1 : 0 + k * 1 < (flat isV (otL L.length l)).length := by rw [flat_len isV_len]; omega
  have hr1 : ∀ v, setL (flat isV (otL L.length l)) (0 + k * 1) [.int .i64 v] = flat isV ((otL L.length l).set k v) := fun v => by rw [Nat.zero_add]; exact flat_set (f := isV) isV_len (i := k) (l := otL L.length l) (by omega) v
  have hl2 : ∀ u, 0 + k * 1 < (flat isV ((otL L.length l).set k u)).length := fun u => by rw [flat_len isV_len, List.length_set]; omega
  have hr2 : ∀ u v, setL (flat isV ((otL L.length l).set k u)) (0 + k * 1) [.int .i64 v] = flat isV ((otL L.length l).set k v) := fun u v => by
    have h1 := flat_set (f := isV) isV_len (i := k) (l := (otL L.length l).set k u) (by rw [List.length_set]; omega) v
    rw [List.set_set] at h1
    rw [Nat.zero_add]; exact h1
  have ihN := fun (at_ : Int) (h : A[k] = some at_) ds2 => ih (k + 1, l ++ [at_], ds2) ⟨hk, by dsimp only; rw [List.length_append, k2]; rfl, by dsimp only; rw [htk1, k3, h, List.map_append]; rfl⟩ (by dsimp only; omega)
  dsimp only at ihN
  simp only [← hset] at ihN
  have hfk := fun M w' h m1 m2 m3 m4 m5 m6 m7 g hg => hfb M w' h m1 m2 m3 m4 m5 m6 m7 k g hk hkT hg
  obtain ⟨bl, ol, rfl, hrl⟩ := SlAt.all hL (by omega)
  obtain ⟨bt, ot, rfl, hrt⟩ := SlAt.all hTm (by omega)
  have hrlk := hrl k hk
  have hrtk := hrt k hkT
  clear ih hat hcp hrl hrt hL hTm htk1 hset hol hfb
  generalize AZ (L[k], T[k]) = az at *
  subst hAk
  generalize A[k] = Ak at *
  generalize FB (L[k], T[k]) = F at *
  generalize L[k] = cl at *
  generalize T[k] = tk at *
  generalize otL L.length l = X1 at *
  obtain ⟨pk, rk, am⟩ := cl
  rw [cmV, qF] at hrlk
  rw [qF] at hrtk
  dsimp only at *
  have hqe : rQ tk = rQ am ↔ tk = am := ⟨fun e => by have := congrArg qR e; rwa [qR_rQ, qR_rQ] at this, fun e => by rw [e]⟩
  obtain ⟨d1, d2, d3⟩ := hR.dep (g := (pk : Int)) (by omega)
  have hin := fun i => (hR.in_ i (g := (pk : Int)) (by omega) (by omega)).2
  generalize rQ am = q1 at *
  generalize rQ tk = q2 at *
  obtain ⟨s1, u1, v1⟩ := q1
  obtain ⟨s2, u2, v2⟩ := q2
  dsimp only [qV] at *
  by_cases he : tk = am
  · have hqe := hqe.2 he
    have hA0 := hA0 he
    subst hA0
    have ihN := ihN (-1) rfl ds
    clear hno hA1 hA2 hfk
    all_goals (refine go ?_; and_intros <;> (try exact trivial) <;> repeat (first | refine fun (Bk : Nat) => ?_ | intro h))
    repeat' ((first | (apply G.eqR ⟨s2, u2, v2⟩ ⟨s1, u1, v1⟩; rfl; rfl; rfl; all_goals intro h; all_goals try (exact absurd hqe h)) | (apply G.s1; rfl; rfl; rfl; (repeat (first | exact RAt.head | apply RAt.tail)); exact ⟨rfl, rfl⟩; exact hl1; exact hr1 _)) <;> (refine go ?_; and_intros <;> (try exact trivial) <;> repeat (first | refine fun (Bk : Nat) => ?_ | intro h)))
    exact J.finS ihN
  have hqe : ¬ _ := fun e => he (hqe.1 e)
  have hA1 := fun i => hA1 i he
  have hA2 := hA2 he
  clear hA0
  all_goals (refine go ?_; and_intros <;> (try exact trivial) <;> repeat (first | refine fun (Bk : Nat) => ?_ | intro h))
  repeat' ((first | (apply G.eqR ⟨s2, u2, v2⟩ ⟨s1, u1, v1⟩; rfl; rfl; rfl; all_goals intro h; all_goals try (exact absurd h hqe)) | (apply G.s1; rfl; rfl; rfl; (repeat (first | exact RAt.head | apply RAt.tail)); exact ⟨rfl, rfl⟩; exact hl1; exact hr1 _) | (apply G.cR (g := 70) (v := fun x : Nat × Nat => .func (.func 132) #[] #[.pointer (some ⟨x.1, 0, none⟩), .pointer (some ⟨x.2, 0, none⟩)]) (Mn := fun x => [.blk x.1 3 [.int .i64 pk] 1, .blk x.2 22 [.slice ra R.length rc] 1]); rfl; rfl; exact fun w' hw' => rdown_holds _ _ w' ra R rc pk hw'; rintro ⟨Bg, Bl2⟩; dsimp only)) <;> (refine go ?_; and_intros <;> (try exact trivial) <;> repeat (first | refine fun (Bk : Nat) => ?_ | intro h)))
  rename_i B16 _
  refine J.rangeE1 (e1 := fun e : Int => .int .i64 e) (es := wayI R pk) (K := [.blk Bg 3 [.int .i64 pk] 1, .blk Bl2 22 [.slice ra R.length rc] 1]) (fun s : Nat × Int => [.blk Bo 3 (flat isV (X1.set k s.2)) (L.length * 1), .blk B15 44 [.slice (some ⟨Bo, 0, none⟩) L.length L.length] 1, .blk B14 186 [.func (.func 122) #[] #[.pointer (some ⟨B4, 0, none⟩), .pointer (some ⟨B10, 0, none⟩), .pointer (some ⟨B5, 0, none⟩), .pointer (some ⟨B8, 0, none⟩)]] 1, .blk B16 3 [.int .i64 k] 1, mfRow (Value.int .i64) pl, .blk B10 185 [.slice (some ⟨Bp, 0, none⟩) L.length L.length] 1, .blk Bp 112 (flat opV (ptL L.length pl)) (L.length * 1), .blk B8 23 [.slice a1 R.length c1] 1, slRow w.heap.size a1 3 ((gl R.length rsF).map qF), .blk B5 23 [.slice (some ⟨bt, ot, none⟩) L.length tc] 1, .blk B4 26 [.slice (some ⟨bl, ol, none⟩) L.length lc] 1]) (fun i s => s.1 = i ∧ s.2 = -1 ∧ ∀ j, j < i → F (itr R j pk).toNat = false) (fun c s => c = .exit 5 ∧ Ak = some s.2) (0, -1) (.blk B3 25 [.slice ra R.length rc, .slice ga Gs.length gc] 2 :: .blk Bk 40 [.int .i64 pk, .int .i64 rk, .bool s1, .string (bs u1), .string (bs v1)] 5 :: Sl.mk ds) (rdown_iter w Bg Bl2 ra R rc pk hAr hR hplk) rfl rfl rfl (by (repeat (first | exact List.Perm.refl _ | (refine pickT (by (repeat (first | exact Pick.head | apply Pick.tail))) ?_)))) ⟨rfl, rfl, fun j h => absurd h (Nat.not_lt_zero _)⟩ ?_ ?_ ?_
  · intro i ⟨j, v⟩ e ⟨i1, i2, i3⟩ he2 L0 rr M' hrs hrp
    obtain ⟨hj, rfl⟩ := wayI_at he2
    dsimp only at i1 i2 i3 ⊢
    subst i1 i2
    have hy0 := d3 j hj
    have hy1 := hin j
    have hA1 := fun h => hA1 j hj h i3
    have hj3 : F (itr R j pk).toNat = false → ∀ t, t < j + 1 → F (itr R t pk).toNat = false := fun h t ht => by
      rcases Nat.lt_or_ge t j with h4 | h4
      · exact i3 t h4
      · obtain rfl : t = j := by omega
        exact h
    clear he2 ihN hA2 hno i3
    generalize itr R j pk = y at *
    obtain ⟨g, rfl⟩ : ∃ g : Nat, y = g := ⟨y.toNat, by omega⟩
    rw [Int.toNat_natCast] at hA1 hj3
    have hfg := fun M w' h m1 m2 m3 m4 m5 m6 m7 => hfk M w' h m1 m2 m3 m4 m5 m6 m7 g (by omega)
    clear hfk
    cases hF : F g
    · rw [hF] at hfg
      all_goals (refine goR ?_; and_intros <;> (try exact trivial) <;> repeat (first | refine fun (Bk : Nat) => ?_ | intro h))
      repeat' ((first | (refine J.beginR rfl (i := 0) rfl hrs ?_) | (apply G.callVf (g := 122); rfl; rfl; rfl; rfl; rfl; exact fun w' hw' => hfg _ w' hw' (by exact mm) (by exact mm) (by exact mm) (by exact mm) (by exact mm) (by exact mm) (by exact mm)) | (apply J.regQ; exact Tryz.mixed; decide +kernel) | (apply J.regL'; exact Tryz.mixed; decide +kernel)) <;> (refine goR ?_; and_intros <;> (try exact trivial) <;> repeat (first | refine fun (Bk : Nat) => ?_ | intro h)))
      exact J.sel (leaveG hrs hrp (j + 1, -1) ⟨rfl, rfl, hj3 hF⟩ rfl)
    · rw [hF] at hfg
      all_goals (refine goR ?_; and_intros <;> (try exact trivial) <;> repeat (first | refine fun (Bk : Nat) => ?_ | intro h))
      repeat' ((first | (refine J.beginR rfl (i := 0) rfl hrs ?_) | (apply G.callVf (g := 122); rfl; rfl; rfl; rfl; rfl; exact fun w' hw' => hfg _ w' hw' (by exact mm) (by exact mm) (by exact mm) (by exact mm) (by exact mm) (by exact mm) (by exact mm)) | (apply G.s1; rfl; rfl; rfl; (repeat (first | exact RAt.head | apply RAt.tail)); exact ⟨rfl, rfl⟩; exact hl2 _; exact hr2 _ _) | (apply J.regQ; exact Tryz.mixed; decide +kernel) | (apply J.regL'; exact Tryz.mixed; decide +kernel)) <;> (refine goR ?_; and_intros <;> (try exact trivial) <;> repeat (first | refine fun (Bk : Nat) => ?_ | intro h)))
      exact J.sel (leaveGexit (id := 5) rfl (j + 1, (g : Int)) ⟨rfl, hA1 hF⟩ rfl)
  · intro Bd ⟨j, v⟩ ⟨i1, i2, i3⟩
    dsimp only at i1 i2 i3 ⊢
    rw [wayI_len] at i3
    have hAn := hA2 i3
    rw [hno hAn]
    dsimp only
    clear ihN hA1 hA2 hfk hno i3
    all_goals (refine go ?_; and_intros <;> (try exact trivial) <;> repeat (first | refine fun (Bk : Nat) => ?_ | intro h))
    refine J.sel (T := Sl.mk (Bd :: ds)) ?_
    refine leaveM (v := .tuple #[.slice none 0 0, .int .i64 22]) (ds := Bd :: ds) (M0 := []) Tryz.func55 rfl rfl rfl rfl (RunsTo.two Tryz.results55 (by (first | (apply ResV.tmp; rfl) | (apply ResV.cell; rfl; (first | (apply LdV.one; (first | exact CellV.row0 (by assumption) rfl | exact CellV.rowS (by assumption) rfl | exact CellV.rowSS (by assumption) rfl | (apply CellV.blk; exact mm; rfl))) | (apply LdV.aggBlk; exact mm; rfl) | (apply LdV.part; exact mm; rfl; rfl) | (apply LdV.aggRow; assumption; rfl) | (apply LdV.partRow; assumption; rfl; rfl))))) (by (first | (apply ResV.tmp; rfl) | (apply ResV.cell; rfl; (first | (apply LdV.one; (first | exact CellV.row0 (by assumption) rfl | exact CellV.rowS (by assumption) rfl | exact CellV.rowSS (by assumption) rfl | (apply CellV.blk; exact mm; rfl))) | (apply LdV.aggBlk; exact mm; rfl) | (apply LdV.part; exact mm; rfl; rfl) | (apply LdV.aggRow; assumption; rfl) | (apply LdV.partRow; assumption; rfl; rfl)))))) (by rw [List.append_nil]) fun w' hw' => ?_
    exact retI_nil (fun v => .tuple #[v, .int .i64 22]) hw'.below
  · intro Bd ⟨j, v⟩ c ⟨i1, i2⟩
    dsimp only at i1 i2 ⊢
    subst i1 i2
    have ihN := ihN v rfl (Bd :: ds)
    clear hA1 hA2 hfk hno
    all_goals (refine go ?_; and_intros <;> (try exact trivial) <;> repeat (first | refine fun (Bk : Nat) => ?_ | intro h))
    exact J.finS ihN
end Go.Proofs.YtcdgibkbbcekhaaGreatDoor
