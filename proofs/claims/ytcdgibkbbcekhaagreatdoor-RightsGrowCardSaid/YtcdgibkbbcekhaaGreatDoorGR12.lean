/-
  Contracts of rights: Left of both.
-/
import Derived.Test.YtcdgibkbbcekhaaGreatDoorGR10
set_option linter.unusedVariables false
set_option linter.unusedSimpArgs false
set_option linter.unusedSectionVars false
namespace Go.Proofs.YtcdgibkbbcekhaaGreatDoor
open Go.RowKit Go.Sl Go.Num
theorem vNat2 (a : Q3) (w : World) (hf : fewQ 30000 a) : Calls Tryz.prog 116 #[qA a] w fun e w' => e = .returned (.bool (natB a)) ∧ Below w.heap.size w w' := by
  have hv := fun w' => ratValid_holds a w' (Nat.le_trans hf.1 (by decide)) (Nat.le_trans hf.2 (by decide))
  rw [natB]
  generalize decide (validQ a) = b at *
  obtain ⟨s, n, d⟩ := a
  dsimp only [qA] at *
  refine enterA [(0, .agg #[.bool s, .string (bs n), .string (bs d)])] Tryz.func116 Tryz.ntmps116 ?_
  cases b <;> cases s
  all_goals
    all_goals (refine go ?_; and_intros <;> (try exact trivial) <;> repeat (first | refine fun (Bk : Nat) => ?_ | intro h))
    repeat' ((first | (apply G.cV (g := 12); rfl; rfl; exact fun w' _ => hv w')) <;> (refine go ?_; and_intros <;> (try exact trivial) <;> repeat (first | refine fun (Bk : Nat) => ?_ | intro h)))
    all_goals refine ret1b Tryz.func116 Tryz.results116 ?_
    all_goals rfl
def badT (z : Cm × Q3) : Bool := !(natB z.2 && decide (qR z.2 ≤ z.1.am))
/-- The error of takes. -/
def lfE (R : List Rch) (Gs : List Rat) (L : List Cm) (Tq : List Q3) : Int :=
  if Tq.length ≠ L.length then 1 else if (L.zip Tq).any badT = true then 1 else if (List.range R.length).any (fun g => decide (rsT R Gs L (Tq.map qR) g < 0)) = true then 20 else 0
theorem natB_q {q : Q3} (h : natB q = true) : rQ (qR q) = q := by
  rw [natB, Bool.and_eq_true, decide_eq_true_eq] at h
  exact rQ_qR h.1
theorem good_all {L : List Cm} {Tq : List Q3} (hl : Tq.length = L.length) (h : (L.zip Tq).any badT = false) : ∀ q ∈ Tq, natB q = true := fun q hq => by
  obtain ⟨k, hk, rfl⟩ := List.getElem_of_mem hq
  rw [List.any_eq_false] at h
  have h1 := h (L[k], Tq[k]) (by
    rw [← List.getElem_zip (h := by rw [List.length_zip]; omega)]
    exact List.getElem_mem _)
  rw [badT] at h1
  dsimp only at h1
  cases hn : natB Tq[k] with
  | true => rfl
  | false => rw [hn] at h1; simp at h1
theorem good_map {Tq : List Q3} (h : ∀ q ∈ Tq, natB q = true) : (Tq.map qR).map qF = Tq.map qV := by
  rw [List.map_map]
  exact List.map_congr_left fun q hq => by
    show qV (rQ (qR q)) = qV q
    rw [natB_q (h q hq)]
theorem good_ok {L : List Cm} {Tq : List Q3} (hl : Tq.length = L.length) (h : ∀ q ∈ Tq, natB q = true) (hf : ∀ q ∈ Tq, fewQ 30000 q) : tkOk L (Tq.map qR) := by
  refine ⟨by rw [List.length_map]; exact hl, fun t ht => ?_⟩
  obtain ⟨q, hq, rfl⟩ := List.mem_map.1 ht
  rw [natB_q (h q hq)]; exact hf q hq
end Go.Proofs.YtcdgibkbbcekhaaGreatDoor
/-
  Contracts of rights: the program's Left.
-/
namespace Go.Proofs.YtcdgibkbbcekhaaGreatDoor
open Go.RowKit Go.Sl Go.Num
theorem sIt_used {on : Nat → Nat → Bool} {L : List Cm} {T : List Rat} (h1 : T.length = L.length) (g : Nat) : sIt on (atI L (fun _ => true) (fsq T) L.length) g = used on (L.zip T) g := by
  have hz : (L.zip T).length = L.length := by rw [List.length_zip]; omega
  have h3 := qs_range (fun z : Cm × Rat => if on z.1.pl g = true then z.2 else 0) (L.zip T) (L.zip T).length (Nat.le_refl _)
  rw [List.take_length] at h3
  rw [sI_at, used, h3, hz]
  refine qs_congr fun i hi => ?_
  have hil := List.mem_range.1 hi
  rw [if_pos rfl, fsq_lt (by omega)]
  simp only [List.getD_eq_getElem?_getD, List.getElem?_map, List.getElem?_eq_getElem hil, List.getElem?_eq_getElem (show i < (L.zip T).length by omega), List.getElem_zip, Option.map_some, Option.getD_some]
/-- What is left at the first gauges, and what comes at the others. -/
def lfG (R : List Rch) (Gs : List Rat) (L : List Cm) (T : List Rat) (k g : Nat) : Rat := if g < k then rsT R Gs L T g else sup (onR R) R.length (fsq Gs) g
theorem lfG_zero (R : List Rch) (Gs : List Rat) (L : List Cm) (T : List Rat) : lfG R Gs L T 0 = sup (onR R) R.length (fsq Gs) := funext fun g => if_neg (Nat.not_lt_zero _)
theorem vLeft_holds (w : World) (ra : Option Addr) (R : List Rch) (rc : Nat) (ga : Option Addr) (Gs : List Rat) (gc : Nat) (la : Option Addr) (L : List Cm) (lc : Nat) (ta : Option Addr) (Tq : List Q3) (tc : Nat)
    (hS : SupAt w ra R ga (Gs.map qF)) (hsu : SupOk R Gs) (hL : SlAt w la 5 (L.map cmV)) (hC : ClOk R.length L) (hT : SlAt w ta 3 (Tq.map qV)) (hf : ∀ q ∈ Tq, fewQ 30000 q) (htl : Tq.length ≤ 1000000)
    (hck : ∀ w', Below w.heap.size w w' → Calls Tryz.prog 48 #[.agg #[.slice ra R.length rc, .slice ga Gs.length gc], .slice la L.length lc] w' fun e w2 => e = .returned (.int .i64 0) ∧ Below w'.heap.size w' w2) :
    Calls Tryz.prog 54 #[.agg #[.slice ra R.length rc, .slice ga Gs.length gc], .slice la L.length lc, .slice ta Tq.length tc] w (RetQ (fun v => .tuple #[v, .int .i64 (lfE R Gs L Tq)]) w (if lfE R Gs L Tq = 0 then gl R.length (rsT R Gs L (Tq.map qR)) else [])) := by
  have hl := hC.len
  have hnl := (riv_of hsu.riv).len
  have haf := fun k (h : k < L.length) => fewQ.big (hC.few _ (List.getElem_mem h)) (by decide)
  obtain ⟨E, hE⟩ : ∃ E, lfE R Gs L Tq = E := ⟨_, rfl⟩
  rw [hE]
  rw [lfE] at hE
  by_cases hlen : Tq.length = L.length
  case neg =>
    rw [if_pos hlen] at hE
    subst hE
    rw [if_neg (show ¬ (1 : Int) = 0 by decide)]
    refine enterA [(0, .agg #[.slice ra R.length rc, .slice ga Gs.length gc]), (1, .slice la L.length lc), (2, .slice ta Tq.length tc)] Tryz.func54 Tryz.ntmps54 ?_
    all_goals (refine go ?_; and_intros <;> (try exact trivial) <;> repeat (first | refine fun (Bk : Nat) => ?_ | intro h))
    repeat' ((first | (apply G.cV (g := 48); rfl; rfl; exact fun w' hw' => hck w' hw'.below)) <;> (refine go ?_; and_intros <;> (try exact trivial) <;> repeat (first | refine fun (Bk : Nat) => ?_ | intro h)))
    (refine ret2 Tryz.func54 Tryz.results54 ?_; intro w' hw)
    exact retQ_nil (fun v => .tuple #[v, .int .i64 1]) hw.below
  rw [if_neg (fun h => h hlen)] at hE
  rw [hlen]
  have hbad : ∀ k (h1 : k < L.length) (h2 : k < Tq.length), badT (L[k], Tq[k]) = true → (L.zip Tq).any badT = true := fun k h1 h2 h => by
    rw [List.any_eq_true]
    refine ⟨(L[k], Tq[k]), ?_, h⟩
    rw [← List.getElem_zip (h := by rw [List.length_zip]; omega)]
    exact List.getElem_mem _
  refine enterA [(0, .agg #[.slice ra R.length rc, .slice ga Gs.length gc]), (1, .slice la L.length lc), (2, .slice ta L.length tc)] Tryz.func54 Tryz.ntmps54 ?_
  all_goals (refine go ?_; and_intros <;> (try exact trivial) <;> repeat (first | refine fun (Bk : Nat) => ?_ | intro h))
  repeat' ((first | (apply G.cV (g := 48); rfl; rfl; exact fun w' hw' => hck w' hw'.below)) <;> (refine go ?_; and_intros <;> (try exact trivial) <;> repeat (first | refine fun (Bk : Nat) => ?_ | intro h)))
  rename_i B3 _
  revert Bk; intro B5
  refine J.loop (c := _) (0 : Nat) (fun s => L.length - s) (fun s => [(1, .slice la L.length lc), (3, .pointer (some ⟨B3, 0, none⟩)), (5, .pointer (some ⟨B5, 0, none⟩)), (27, .slice ta L.length tc), (28, .int .i64 L.length), (29, .int .i64 s)]) (fun s => [.blk B5 23 [.slice ta L.length tc] 1, .blk B3 25 [.slice ra R.length rc, .slice ga Gs.length gc] 2]) (fun s => s ≤ L.length ∧ ∀ j (h1 : j < L.length) (h2 : j < Tq.length), j < s → badT (L[j], Tq[j]) = false) ?_ sbT sbL ?_
  · exact ⟨Nat.zero_le _, fun j _ _ h => absurd h (Nat.not_lt_zero _)⟩
  intro k ⟨k1, k2⟩ ih
  by_cases hk : k < L.length
  · obtain ⟨bl, ol, rfl, hrl⟩ := SlAt.all hL (by omega)
    obtain ⟨bt, ot, rfl, hrt⟩ := SlAt.all hT (by omega)
    have hrl := hrl k hk
    have hrt := hrt k (by omega)
    have hzk := hbad k hk (by omega)
    have hfk := hf _ (List.getElem_mem (show k < Tq.length by omega))
    have hn := fun w' => vNat2 Tq[k] w' hfk
    have hak := haf k hk
    have ihN := fun (hb : badT (L[k], Tq[k]) = false) => ih (k + 1) ⟨hk, fun j h1 h2 h3 => by
      rcases Nat.lt_or_ge j k with h4 | h4
      · exact k2 j h1 h2 h4
      · obtain rfl : j = k := by omega
        exact hb⟩ (by omega)
    clear ih k2 hbad hf haf hck
    rw [badT] at hzk ihN
    dsimp only at hzk ihN
    have hcm : natB Tq[k] = true → ∀ w', Calls Tryz.prog 16 #[qA Tq[k], qA (rQ L[k].am)] w' fun e w2 => e = .returned (.int .i64 (sgnR (qR Tq[k] - L[k].am))) ∧ Below w'.heap.size w' w2 := fun h w' => by
      have h2 := vCmp (x := qR Tq[k]) (y := L[k].am) (by rw [big, natB_q h]; exact fewQ_le hfk (by decide)) hak w'
      rwa [natB_q h] at h2
    clear hfk hak
    generalize L[k] = cl at *
    generalize Tq[k]'_ = q at *
    obtain ⟨pl, rk, am⟩ := cl
    rw [cmV, qF] at hrl
    dsimp only at *
    have hsl := sgn_le (a := qR q) (b := am)
    generalize natB q = nb at *
    generalize sgnR (qR q - am) = sg at *
    generalize rQ am = qa at *
    generalize qR q = rq at *
    obtain ⟨s1, u1, v1⟩ := qa
    obtain ⟨s2, u2, v2⟩ := q
    dsimp only [qV, qA] at *
    cases nb
    · rw [hzk rfl, if_pos rfl] at hE
      subst hE
      rw [if_neg (show ¬ (1 : Int) = 0 by decide)]
      clear ihN hcm hzk
      all_goals (refine goR ?_; and_intros <;> (try exact trivial) <;> repeat (first | refine fun (Bk : Nat) => ?_ | intro h))
      repeat' ((first | (apply J.regA (.q 0 <| .q 1 <| .q 2 <| .q 3 <| .q 4 <| .q 5 <| .q 6 <| .q 7 <| .q 8 <| .q 9 <| .q 10 <| .q 11 <| .q 12 <| .nil); exact Tryz.mixed; decide +kernel) | (apply G.cV (g := 116); rfl; rfl; exact fun w' _ => hn w') | (apply J.regQ; exact Tryz.mixed; decide +kernel) | (apply J.regL'; exact Tryz.mixed; decide +kernel)) <;> (refine goR ?_; and_intros <;> (try exact trivial) <;> repeat (first | refine fun (Bk : Nat) => ?_ | intro h)))
      (refine ret2 Tryz.func54 Tryz.results54 ?_; intro w' hw)
      exact retQ_nil (fun v => .tuple #[v, .int .i64 1]) hw.below
    · have hcm := hcm rfl
      by_cases hs : sg ≤ 0
      · have ihN := ihN (by rw [decide_eq_true (hsl.1 hs)]; rfl)
        clear hzk hsl
        all_goals (refine goR ?_; and_intros <;> (try exact trivial) <;> repeat (first | refine fun (Bk : Nat) => ?_ | intro h))
        repeat' ((first | (apply J.regA (.q 0 <| .q 1 <| .q 2 <| .q 3 <| .q 4 <| .q 5 <| .q 6 <| .q 7 <| .q 8 <| .q 9 <| .q 10 <| .q 11 <| .q 12 <| .nil); exact Tryz.mixed; decide +kernel) | (apply G.cV (g := 116); rfl; rfl; exact fun w' _ => hn w') | (apply G.cV (g := 16); rfl; rfl; exact fun w' _ => hcm w') | (apply J.regQ; exact Tryz.mixed; decide +kernel) | (apply J.regL'; exact Tryz.mixed; decide +kernel)) <;> (refine goR ?_; and_intros <;> (try exact trivial) <;> repeat (first | refine fun (Bk : Nat) => ?_ | intro h)))
        exact J.fin ihN
      · rw [hzk (by rw [decide_eq_false (fun e => hs (hsl.2 e))]; rfl), if_pos rfl] at hE
        subst hE
        rw [if_neg (show ¬ (1 : Int) = 0 by decide)]
        clear ihN hzk hsl
        all_goals (refine goR ?_; and_intros <;> (try exact trivial) <;> repeat (first | refine fun (Bk : Nat) => ?_ | intro h))
        repeat' ((first | (apply J.regA (.q 0 <| .q 1 <| .q 2 <| .q 3 <| .q 4 <| .q 5 <| .q 6 <| .q 7 <| .q 8 <| .q 9 <| .q 10 <| .q 11 <| .q 12 <| .nil); exact Tryz.mixed; decide +kernel) | (apply G.cV (g := 116); rfl; rfl; exact fun w' _ => hn w') | (apply G.cV (g := 16); rfl; rfl; exact fun w' _ => hcm w') | (apply J.regQ; exact Tryz.mixed; decide +kernel) | (apply J.regL'; exact Tryz.mixed; decide +kernel)) <;> (refine goR ?_; and_intros <;> (try exact trivial) <;> repeat (first | refine fun (Bk : Nat) => ?_ | intro h)))
        (refine ret2 Tryz.func54 Tryz.results54 ?_; intro w' hw)
        exact retQ_nil (fun v => .tuple #[v, .int .i64 1]) hw.below
  obtain rfl : k = L.length := by omega
  have hgood : (L.zip Tq).any badT = false := by
    rw [List.any_eq_false]
    intro z hz hb
    obtain ⟨j, hj, rfl⟩ := List.getElem_of_mem hz
    rw [List.length_zip] at hj
    rw [List.getElem_zip, k2 j (by omega) (by omega) (by omega)] at hb
    cases hb
  have hgq := good_all hlen hgood
  have hok := good_ok hlen hgq hf
  rw [hgood, if_neg (by decide)] at hE
  have hTm : SlAt w ta 3 ((Tq.map qR).map qF) := by rw [good_map hgq]; exact hT
  have hTl : (Tq.map qR).length = L.length := hok.1
  clear ih k2 hgood hgq hbad haf hck hT hf
  generalize Tq.map qR = T at *
  have hps := fun M w' (hw' : Sat w M w') => vPassing_holds w M w' ra R rc ga Gs gc hS hsu hw'
  have hnm := fun B5 k (h : k < L.length) (M : List Row) w' (hw' : Sat w ([.blk B5 23 [.slice ta L.length tc] 1] ++ M) w') => lNm_holds w M w' B5 ta T tc k hTm (by omega) (by rw [hTl]; exact hw')
  have hfs : ∀ i, fewQ 30000 (rQ (fsq T i)) := fun i => by
    rcases Nat.lt_or_ge i T.length with h | h
    · rw [fsq_lt h]; exact hok.2 _ (List.getElem_mem h)
    · rw [fsq_ge h]; exact fewQ_zero
  have hsm := fun (x y z B5 : Nat) M w' (hw' : Sat w ([.blk x 26 [.slice la L.length lc] 1, .blk y 119 [.func (.func 120) #[] #[]] 1, .blk z 111 [.func (.func 121) #[] #[.pointer (some ⟨B5, 0, none⟩)]] 1, .blk B5 23 [.slice ta L.length tc] 1] ++ M) w') => summed_holds w M _ w' 130 #[.pointer (some ⟨x, 0, none⟩), .pointer (some ⟨y, 0, none⟩), .pointer (some ⟨z, 0, none⟩)] ra R rc (atI L (fun _ => true) (fsq T) L.length) hS.riv (riv_of hsu.riv) (at_iter w [.blk B5 23 [.slice ta L.length tc] 1] x y z la L lc (fun _ => true) (fsq T) 120 121 #[] #[.pointer (some ⟨B5, 0, none⟩)] hL (by omega) (fun k hk M w' hw' => lIs_holds w' k) (fun k hk _ M w' hw' => hnm B5 k hk M w' hw')) (fun e he => (atI_pl hC.pl he).1) (fun i _ g => atI_big (by decide) (by decide) hl hfs _ i g) (fun e he => by obtain ⟨i, hi⟩ := (atI_pl hC.pl he).2; rw [hi]; exact (hfs i).big (by decide)) hw'
  have hun : gl R.length (sIt (onR R) (atI L (fun _ => true) (fsq T) L.length)) = gl R.length (used (onR R) (L.zip T)) := gl_congr fun g _ => sIt_used hTl g
  rw [hun] at hsm
  have hsb := fun g => (hsu.sup g).big (by decide : 5000 ≤ 60000000)
  have hub := fun g => hok.usd hl (onR R) g L.length
  rw [List.take_of_length_le (by rw [List.length_zip]; omega)] at hub
  have hlz := lfG_zero R Gs L T
  have hlo : ∀ g, lfG R Gs L T g g = sup (onR R) R.length (fsq Gs) g := fun g => if_neg (Nat.lt_irrefl _)
  have hln : ∀ g, lfG R Gs L T (g + 1) g = sup (onR R) R.length (fsq Gs) g - used (onR R) (L.zip T) g := fun g => if_pos (Nat.lt_succ_self _)
  have hlx : ∀ g t, t ≠ g → lfG R Gs L T (g + 1) t = lfG R Gs L T g t := fun g t ht => by
    unfold lfG
    by_cases h : t < g
    · rw [if_pos h, if_pos (by omega)]
    · rw [if_neg h, if_neg (by omega)]
  have hle : gl R.length (lfG R Gs L T R.length) = gl R.length (rsT R Gs L T) := gl_congr fun g hg => if_pos hg
  have hrs : ∀ g, rsT R Gs L T g = sup (onR R) R.length (fsq Gs) g - used (onR R) (L.zip T) g := fun g => rfl
  rw [← hlz] at hps
  have hsm2 : ∀ (B x y z : Nat) (DB : List Value) (t : Nat) w', Sat w ([.blk x 26 [.slice la L.length lc] 1, .blk y 119 [.func (.func 120) #[] #[]] 1, .blk z 111 [.func (.func 121) #[] #[.pointer (some ⟨B5, 0, none⟩)]] 1] ++ [.blk B 29 DB t, .blk B5 23 [.slice ta L.length tc] 1, .blk B3 25 [.slice ra R.length rc, .slice ga Gs.length gc] 2]) w' → Calls Tryz.prog 64 #[.slice ra R.length rc, .func (.func 130) #[] #[.pointer (some ⟨x, 0, none⟩), .pointer (some ⟨y, 0, none⟩), .pointer (some ⟨z, 0, none⟩)]] w' fun e w2 => ∃ Bu : Nat, e = .returned (.slice (some ⟨Bu, 0, none⟩) R.length R.length) ∧ Sat w ([.blk Bu 29 (flat qF (gl R.length (used (onR R) (L.zip T)))) (R.length * 3)] ++ ([.blk x 26 [.slice la L.length lc] 1, .blk y 119 [.func (.func 120) #[] #[]] 1, .blk z 111 [.func (.func 121) #[] #[.pointer (some ⟨B5, 0, none⟩)]] 1] ++ [.blk B 29 DB t, .blk B5 23 [.slice ta L.length tc] 1, .blk B3 25 [.slice ra R.length rc, .slice ga Gs.length gc] 2])) w2 :=
    fun B x y z DB t w' hw' => (hsm x y z B5 [.blk B 29 DB t, .blk B3 25 [.slice ra R.length rc, .slice ga Gs.length gc] 2] w' (hw'.perm (perm_cat [[_, _, _], [_], [_], [_]] [0, 1, 2, 3] [0, 2, 1, 3] rfl))).mono fun e w2 ⟨Bu, e1, e2⟩ => ⟨Bu, e1, e2.perm (perm_cat [[_], [_, _, _], [_], [_], [_]] [0, 1, 2, 3, 4] [0, 1, 3, 2, 4] rfl)⟩
  clear hsm hnm hfs hok hTm hun hlz hS hL hC hsu
  simp only [hrs] at hE
  rw [show rsT R Gs L T = fun g => sup (onR R) R.length (fsq Gs) g - used (onR R) (L.zip T) g from funext hrs] at hle ⊢
  clear hrs
  generalize lfG R Gs L T = F at *
  generalize sup (onR R) R.length (fsq Gs) = S at *
  generalize used (onR R) (L.zip T) = U at *
  all_goals (refine goR ?_; and_intros <;> (try exact trivial) <;> repeat (first | refine fun (Bk : Nat) => ?_ | intro h))
  repeat' ((first | (apply J.regA (.q 0 <| .q 1 <| .q 2 <| .q 3 <| .q 4 <| .q 8 <| .e 5 <| .r 6 <| .q 7 <| .nil); exact Tryz.mixed; decide +kernel) | (apply G.cR (g := 53) (v := fun B : Nat => .tuple #[.slice (some ⟨B, 0, none⟩) R.length R.length, .int .i64 0]) (Mn := fun B => [.blk B 29 (flat qF (gl R.length (F 0))) (R.length * 3)]); rfl; rfl; exact fun w' hw' => hps _ w' hw'; intro B) | (apply G.cR (g := 65) (v := fun x : Nat × Nat × Nat => .func (.func 130) #[] #[.pointer (some ⟨x.1, 0, none⟩), .pointer (some ⟨x.2.1, 0, none⟩), .pointer (some ⟨x.2.2, 0, none⟩)]) (Mn := fun x => [.blk x.1 26 [.slice la L.length lc] 1, .blk x.2.1 119 [.func (.func 120) #[] #[]] 1, .blk x.2.2 111 [.func (.func 121) #[] #[.pointer (some ⟨B5, 0, none⟩)]] 1]); rfl; rfl; exact fun w' hw' => clmAt_holds w _ w' la L.length lc _ _ _ _ hw'; rintro ⟨Bx, By, Bz⟩; dsimp only) | (apply G.cR (g := 64) (v := fun B : Nat => .slice (some ⟨B, 0, none⟩) R.length R.length) (Mn := fun B => [.blk B 29 (flat qF (gl R.length U)) (R.length * 3)]); rfl; rfl; exact fun w' hw' => hsm2 _ _ _ _ _ _ w' hw'; intro Bu) | (apply J.regQ; exact Tryz.mixed; decide +kernel) | (apply J.regL'; exact Tryz.mixed; decide +kernel)) <;> (refine goR ?_; and_intros <;> (try exact trivial) <;> repeat (first | refine fun (Bk : Nat) => ?_ | intro h)))
  refine J.sel (T := [.blk Bu 29 (flat qF (gl R.length U)) (R.length * 3), .blk B 29 (flat qF (gl R.length (F 0))) (R.length * 3)]) ?_
  clear hps hsm2
  refine J.loop (c := _) (0 : Nat) (fun s => R.length - s) (fun s => [(11, .slice (some ⟨B, 0, none⟩) R.length R.length), (59, .slice (some ⟨Bu, 0, none⟩) R.length R.length), (60, .int .i64 R.length), (61, .int .i64 s)]) (fun s => [.blk Bu 29 (flat qF (gl R.length U)) (R.length * 3), .blk B 29 (flat qF (gl R.length (F s))) (R.length * 3)]) (fun s => s ≤ R.length ∧ ∀ g, g < s → ¬ S g - U g < 0) ?_ sbT sbL ?_
  · exact ⟨Nat.zero_le _, fun g h => absurd h (Nat.not_lt_zero _)⟩
  intro g ⟨g1, g2⟩ ih
  by_cases hg : g < R.length
  · have ihN := fun (hb : ¬ S g - U g < 0) => ih (g + 1) ⟨hg, fun t ht => by
      rcases Nat.lt_or_ge t g with h4 | h4
      · exact g2 t h4
      · obtain rfl : t = g := by omega
        exact hb⟩ (by omega)
    have hyes : S g - U g < 0 → (List.range R.length).any (fun g => decide (S g - U g < 0)) = true := fun h => List.any_eq_true.2 ⟨g, List.mem_range.2 hg, decide_eq_true h⟩
    have hneg := rQ_neg_iff (S g - U g)
    have hv := vSub (hsb g) ((hub g).big (by decide))
    have hog1 : (gl R.length U)[g]? = some (U g) := by rw [List.getElem?_eq_getElem (by rw [gl_len]; exact hg), gl_get]
    have hog2 : (gl R.length (F g))[g]? = some (S g) := by rw [List.getElem?_eq_getElem (by rw [gl_len]; exact hg), gl_get, hlo]
    have hset := fun Q (h : rQ (S g - U g) = Q) => qF_set1 (O := gl R.length (F g)) (i := g) (by rw [gl_len]; exact hg) h
    rw [gl_set (f' := F (g + 1)) (hln g) (hlx g)] at hset
    have hld1 := fun {C : Ctx} {M} [TAgg C.P 29 3] (hm : Row.blk Bu 29 (flat qF (gl R.length U)) (R.length * 3) ∈ M) => LdV.flat (C := C) (M := M) (T := 29) (n := 3) qF_len hm hog1 rfl
    have hld2 := fun {C : Ctx} {M} [TAgg C.P 29 3] (hm : Row.blk B 29 (flat qF (gl R.length (F g))) (R.length * 3) ∈ M) => LdV.flat (C := C) (M := M) (T := 29) (n := 3) qF_len hm hog2 rfl
    have hlen3 : 0 + g * 3 + 3 ≤ (flat qF (gl R.length (F g))).length := by rw [flat_len qF_len, gl_len]; omega
    have hq3 : (flat qF (gl R.length (F (g + 1))))[0 + g * 3]? = some (.bool (rQ (S g - U g)).neg) := by
      have h1 := flat_at (f := qF) qF_len (i := g) (j := 0) (l := gl R.length (F (g + 1))) (by rw [gl_len]; exact hg) (by decide)
      rw [Nat.zero_add, ← Nat.add_zero (g * 3), h1, gl_get, hln]; rfl
    clear ih g2 hog1 hog2 hle hlo hln hlx hsb hub
    generalize gl R.length (F g) = X1 at *
    generalize gl R.length (F (g + 1)) = X2 at *
    generalize gl R.length U = X3 at *
    rw [qF] at hld1 hld2
    generalize rQ (S g) = q1 at *
    generalize rQ (U g) = q2 at *
    obtain ⟨q4, hq4⟩ : ∃ q4, rQ (S g - U g) = q4 := ⟨_, rfl⟩
    have hset := hset q4 hq4
    rw [hq4] at hv hneg hq3
    clear hq4
    obtain ⟨s1, u1, v1⟩ := q1
    obtain ⟨s2, u2, v2⟩ := q2
    obtain ⟨s4, u4, v4⟩ := q4
    dsimp only [qV, qA] at *
    by_cases h0 : S g - U g < 0
    · rw [hyes h0, if_pos rfl] at hE
      subst hE
      rw [if_neg (show ¬ (20 : Int) = 0 by decide)]
      rw [decide_eq_true h0] at hneg
      subst hneg
      clear ihN hyes
      all_goals (refine goR ?_; and_intros <;> (try exact trivial) <;> repeat (first | refine fun (Bk : Nat) => ?_ | intro h))
      repeat' ((first | (apply J.regA (.q 0 <| .q 1 <| .q 2 <| .q 3 <| .q 4 <| .q 5 <| .q 6 <| .q 7 <| .q 8 <| .r 9 <| .nil); exact Tryz.mixed; decide +kernel) | (apply G.ld; rfl; exact hld1 (by exact mm); rfl) | (apply G.ld; rfl; exact hld2 (by exact mm); rfl) | (apply G.ld; rfl; (apply LdV.one; exact CellV.blk (by exact mm) hq3); rfl) | (apply G.cV (g := 67); rfl; rfl; exact fun w' _ => hv w') | (apply G.sA; rfl; rfl; rfl; (repeat (first | exact RAt.head | apply RAt.tail)); rfl; rfl; exact hlen3; exact hset) | (apply J.regQ; exact Tryz.mixed; decide +kernel) | (apply J.regL'; exact Tryz.mixed; decide +kernel)) <;> (refine goR ?_; and_intros <;> (try exact trivial) <;> repeat (first | refine fun (Bk : Nat) => ?_ | intro h)))
      (refine ret2 Tryz.func54 Tryz.results54 ?_; intro w' hw)
      exact retQ_nil (fun v => .tuple #[v, .int .i64 20]) hw.below
    · have ihN := ihN h0
      rw [decide_eq_false h0] at hneg
      subst hneg
      clear hyes
      all_goals (refine goR ?_; and_intros <;> (try exact trivial) <;> repeat (first | refine fun (Bk : Nat) => ?_ | intro h))
      repeat' ((first | (apply J.regA (.q 0 <| .q 1 <| .q 2 <| .q 3 <| .q 4 <| .q 5 <| .q 6 <| .q 7 <| .q 8 <| .r 9 <| .nil); exact Tryz.mixed; decide +kernel) | (apply G.ld; rfl; exact hld1 (by exact mm); rfl) | (apply G.ld; rfl; exact hld2 (by exact mm); rfl) | (apply G.ld; rfl; (apply LdV.one; exact CellV.blk (by exact mm) hq3); rfl) | (apply G.cV (g := 67); rfl; rfl; exact fun w' _ => hv w') | (apply G.sA; rfl; rfl; rfl; (repeat (first | exact RAt.head | apply RAt.tail)); rfl; rfl; exact hlen3; exact hset) | (apply J.regQ; exact Tryz.mixed; decide +kernel) | (apply J.regL'; exact Tryz.mixed; decide +kernel)) <;> (refine goR ?_; and_intros <;> (try exact trivial) <;> repeat (first | refine fun (Bk : Nat) => ?_ | intro h)))
      exact J.fin ihN
  · obtain rfl : g = R.length := by omega
    have hno : (List.range R.length).any (fun g => decide (S g - U g < 0)) = false := by
      rw [List.any_eq_false]
      intro t ht
      rw [decide_eq_false (g2 t (List.mem_range.1 ht))]; decide
    rw [hno, if_neg (by decide)] at hE
    subst hE
    rw [if_pos rfl, ← hle]
    clear ih hno
    all_goals (refine go ?_; and_intros <;> (try exact trivial) <;> repeat (first | refine fun (Bk : Nat) => ?_ | intro h))
    (refine ret2 Tryz.func54 Tryz.results54 ?_; intro w' hw)
    exact satQ hw (by exact mm) (gl_len _ _) fun v => .tuple #[v, .int .i64 0]
end Go.Proofs.YtcdgibkbbcekhaaGreatDoor
/-
  Contracts of rights: the specification's Fair.
-/
namespace Go.Proofs.YtcdgibkbbcekhaaGreatDoor
open Go.RowKit Go.Sl Go.Num
/-- The error of takes, or the gauges that bound the claims. -/
def frE (R : List Rch) (Gs : List Rat) (L : List Cm) (Tq : List Q3) : Int × List Int :=
  if lfE R Gs L Tq ≠ 0 then (lfE R Gs L Tq, []) else match fairZ R (fsq Gs) (L.zip (Tq.map qR)) with
    | none => (22, [])
    | some l => (0, l)
theorem lfE_ok {R : List Rch} {Gs : List Rat} {L : List Cm} {Tq : List Q3} (h : lfE R Gs L Tq = 0) : Tq.length = L.length ∧ (L.zip Tq).any badT = false ∧ ∀ g, g < R.length → 0 ≤ rsT R Gs L (Tq.map qR) g := by
  rw [lfE] at h
  split at h
  · cases h
  · rename_i h1
    split at h
    · cases h
    · rename_i h2
      split at h
      · cases h
      · rename_i h3
        refine ⟨Decidable.not_not.1 h1, by simpa using h2, fun g hg => ?_⟩
        have h4 : (List.range R.length).any (fun g => decide (rsT R Gs L (Tq.map qR) g < 0)) = false := by simpa using h3
        rw [List.any_eq_false] at h4
        have h5 := h4 g (List.mem_range.2 hg)
        have h6 : ¬ rsT R Gs L (Tq.map qR) g < 0 := fun e => h5 (decide_eq_true e)
        grind
theorem wayN_find {R : List Rch} {p i : Nat} {B : Nat → Bool} (hi : i < dpt R (p : Int)) (h1 : B (itr R i p).toNat = true) (h2 : ∀ j, j < i → B (itr R j p).toNat = false) : (wayN R p).find? B = some (itr R i p).toNat := by
  rw [wayN, List.find?_map]
  have h3 : (List.range (dpt R (p : Int))).find? (B ∘ fun i => (itr R i (p : Int)).toNat) = some i := by
    rw [List.find?_range_eq_some]
    refine ⟨h1, List.mem_range.2 hi, fun j hj => ?_⟩
    show (!B (itr R j p).toNat) = true
    rw [h2 j hj]; rfl
  rw [h3]; rfl
theorem wayN_none {R : List Rch} {p : Nat} {B : Nat → Bool} (h2 : ∀ j, j < dpt R (p : Int) → B (itr R j p).toNat = false) : (wayN R p).find? B = none := by
  rw [List.find?_eq_none]
  intro g hg
  obtain ⟨i, hi, rfl⟩ := List.mem_map.1 hg
  rw [h2 i (List.mem_range.1 hi)]; decide
end Go.Proofs.YtcdgibkbbcekhaaGreatDoor
