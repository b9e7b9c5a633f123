/-
  The law ReachRoutesStepByStep returns true.
-/
import Derived.Test.YtceaamdomkjmlaaGreatDoorNA57
set_option linter.unusedVariables false
set_option linter.unusedSimpArgs false
set_option linter.unusedSectionVars false
namespace Go.Proofs.YtceaamdomkjmlaaGreatDoor
open Go.RowKit Go.Sl Go.Num
theorem vRouteErr_holds (ka : Option Addr) (K : List Int) (kc : Nat) (v : Value) (w : World) (hK : SlAt w ka 1 (K.map isV)) (hk : kerErr K ≠ 0) :
    Calls Tryz.prog 41 #[.agg #[.slice ka K.length kc], v] w fun e w' => e = .returned (.tuple #[.slice none 0 0, .int .i64 (kerErr K)]) ∧ Below w.heap.size w w' := by
  have hck := fun w' (hb : Below w.heap.size w w') => kCheck_holds ka K kc w' (hK.below hb)
  generalize kerErr K = E at *
  refine enterA [(0, .agg #[.slice ka K.length kc]), (1, v)] Tryz.func41 Tryz.ntmps41 ?_
  all_goals (refine go ?_; and_intros <;> (try exact trivial) <;> repeat (first | refine fun (Bk : Nat) => ?_ | intro h))
  repeat' ((first | (apply G.cV (g := 62); rfl; rfl; exact fun w' hw' => hck w' hw'.below)) <;> (refine go ?_; and_intros <;> (try exact trivial) <;> repeat (first | refine fun (Bk : Nat) => ?_ | intro h)))
  all_goals refine ret2b Tryz.func41 Tryz.results41 ?_
  all_goals rfl
theorem flows_map {fl : List Q3} (h : ∀ q ∈ fl, validQ q) : fl.map qV = (fl.map qR).map qF ∧ ∀ x ∈ fl.map qR, ∃ q ∈ fl, rQ x = q := by
  have h1 : ∀ q ∈ fl, rQ (qR q) = q := fun q hq => by rw [clean_q, if_pos (h q hq)]
  constructor
  · rw [List.map_map]
    exact List.map_congr_left fun q hq => by rw [Function.comp, qF, h1 q hq]
  · intro x hx
    obtain ⟨q, hq, rfl⟩ := List.mem_map.1 hx
    exact ⟨q, hq, h1 q hq⟩
theorem few_rS {G : Nat → Rat} {b : Nat} (hb : 1 ≤ b) (h : ∀ t, fewQ b (rQ (G t))) : ∀ t, fewQ (1 + (b + 1) * t) (rQ (rS G 0 t))
  | 0 => fewQ_zero
  | t + 1 => by
    rw [rS_last, Nat.zero_add]
    exact fewQ_le (fewQ_add (few_rS hb h t) (h t) (by omega) hb) (by rw [Nat.mul_succ]; omega)
set_option maxHeartbeats 4000000 in
theorem law5_holds (a : Option Addr) (l : List Rch) (c : Nat) (fa : Option Addr) (fl : List Q3) (fc : Nat) (g0 g1 : Nat) (f t : Int) (w : World) (hA : SlAt w a 2 (l.map rcV)) (hK : KerAt w l) (hB : SlAt w fa 3 (fl.map qV)) (hg : g0 ≤ 255 ∧ g1 ≤ 255) :
    Calls Tryz.prog 7 #[.slice a l.length c, .slice fa fl.length fc, .agg #[.int .u8 g0, .int .u8 g1, .int .i64 f, .int .i64 t]] w fun e w' => e = .returned (.bool true) ∧ Below w.heap.size w w' := by
  have hv := fun w' (hb : Below w.heap.size w w') => valid32_holds a l c w' (hA.below hb) (hK.below hb)
  have hfw := fun w' (hb : Below w.heap.size w w') => fewFl_holds fa fl fc 12 w' (hB.below hb) (by decide)
  have hlg := fun w' (_ : Below w.heap.size w w') => long_holds f t w'
  by_cases h0 : validR l ∧ fewFl 12 fl ∧ ¬ longT f t
  case neg =>
    by_cases h1 : validR l
    · rw [decide_eq_true h1] at hv
      by_cases h2 : fewFl 12 fl
      · have h3 : longT f t := Decidable.not_not.1 fun h => h0 ⟨h1, h2, h⟩
        have h4 := h2.1
        rw [decide_eq_true h2] at hfw
        rw [decide_eq_true h3] at hlg
        clear h0
        refine enterA [(0, .slice a l.length c), (1, .slice fa fl.length fc), (2, .agg #[.int .u8 g0, .int .u8 g1, .int .i64 f, .int .i64 t])] Tryz.func7 Tryz.ntmps7 ?_
        all_goals (refine go ?_; and_intros <;> (try exact trivial) <;> repeat (first | refine fun (Bk : Nat) => ?_ | intro h))
        repeat' ((first | (apply G.cV (g := 10); rfl; rfl; exact fun w' _ => sanity32_holds w') | (refine G.cvb hv ?_) | (refine G.cvb hfw ?_) | (refine G.cvb hlg ?_)) <;> (refine go ?_; and_intros <;> (try exact trivial) <;> repeat (first | refine fun (Bk : Nat) => ?_ | intro h)))
        all_goals refine ret1b Tryz.func7 Tryz.results7 ?_
        all_goals rfl
      · rw [decide_eq_false h2] at hfw
        clear h0
        refine enterA [(0, .slice a l.length c), (1, .slice fa fl.length fc), (2, .agg #[.int .u8 g0, .int .u8 g1, .int .i64 f, .int .i64 t])] Tryz.func7 Tryz.ntmps7 ?_
        all_goals (refine go ?_; and_intros <;> (try exact trivial) <;> repeat (first | refine fun (Bk : Nat) => ?_ | intro h))
        repeat' ((first | (apply G.cV (g := 10); rfl; rfl; exact fun w' _ => sanity32_holds w') | (refine G.cvb hv ?_) | (refine G.cvb hfw ?_)) <;> (refine go ?_; and_intros <;> (try exact trivial) <;> repeat (first | refine fun (Bk : Nat) => ?_ | intro h)))
        all_goals
          all_goals refine ret1b Tryz.func7 Tryz.results7 ?_
          all_goals rfl
    · rw [decide_eq_false h1] at hv
      refine enterA [(0, .slice a l.length c), (1, .slice fa fl.length fc), (2, .agg #[.int .u8 g0, .int .u8 g1, .int .i64 f, .int .i64 t])] Tryz.func7 Tryz.ntmps7 ?_
      all_goals (refine go ?_; and_intros <;> (try exact trivial) <;> repeat (first | refine fun (Bk : Nat) => ?_ | intro h))
      repeat' ((first | (apply G.cV (g := 10); rfl; rfl; exact fun w' _ => sanity32_holds w') | (refine G.cvb hv ?_)) <;> (refine go ?_; and_intros <;> (try exact trivial) <;> repeat (first | refine fun (Bk : Nat) => ?_ | intro h)))
      all_goals refine ret1b Tryz.func7 Tryz.results7 ?_
      all_goals rfl
  obtain ⟨hh1, hh2, hh3⟩ := h0
  rw [decide_eq_true hh1] at hv
  rw [decide_eq_true hh2] at hfw
  rw [decide_eq_false hh3] at hlg
  obtain ⟨n1, n2, n3, n4⟩ := hh1
  obtain ⟨m1, m2⟩ := hh2
  have hR := riv_of n4
  obtain ⟨fr, hfr⟩ : ∃ fr, g0 % l.length = fr := ⟨_, rfl⟩
  obtain ⟨to, hto⟩ : ∃ to, g1 % l.length = to := ⟨_, rfl⟩
  have l1 : fr < l.length := by rw [← hfr]; exact Nat.mod_lt _ n1
  have l3 : to < l.length := by rw [← hto]; exact Nat.mod_lt _ n1
  have e1 : (g0 : Int) % (l.length : Int) = (fr : Int) := by rw [← hfr]; rfl
  have e3 : (g1 : Int) % (l.length : Int) = (to : Int) := by rw [← hto]; rfl
  have hpp := fun w' (hb : Below w.heap.size w w') => vPath_holds a l c fr to w' (hA.below hb) (hK.below hb)
  have hal := fun w' (hb : Below w.heap.size w w') => vAlong_holds a l c fr to w' (hA.below hb) (hK.below hb)
  have hpa := fun w' (hb : Below w.heap.size w w') => vParts_holds a l c fr to f t w' (hA.below hb) (hK.below hb)
  by_cases he2 : (alongE l fr to).2 = 0
  case neg =>
    have hnil := along_err he2
    have hrt := fun w' ka kc v hx => vRouteErr_holds ka [] kc v w' hx (by decide)
    rw [show kerErr [] = 2 from rfl] at hrt
    rw [partsE, if_pos he2] at hpa
    generalize alongE l fr to = X at *
    obtain ⟨K, e⟩ := X
    dsimp only at hnil he2 hal hpa
    subst hnil
    generalize pathE l fr to = Y at *
    obtain ⟨P, ep⟩ := Y
    dsimp only at hpp
    refine enterA [(0, .slice a l.length c), (1, .slice fa fl.length fc), (2, .agg #[.int .u8 g0, .int .u8 g1, .int .i64 f, .int .i64 t])] Tryz.func7 Tryz.ntmps7 ?_
    all_goals (refine go ?_; and_intros <;> (try exact trivial) <;> repeat (first | refine fun (Bk : Nat) => ?_ | intro h))
    repeat' ((first | (apply G.cV (g := 10); rfl; rfl; exact fun w' _ => sanity32_holds w') | (refine G.cvb hv ?_) | (refine G.cvb hfw ?_) | (refine G.cvb hlg ?_) | (apply G.indexArr (i := 0) (o' := 0); rfl; rfl; rfl; omega; rfl; rfl; rfl; rfl) | (apply G.indexArr (i := 1) (o' := 1); rfl; rfl; rfl; omega; rfl; rfl; rfl; rfl)) <;> (refine go ?_; and_intros <;> (try exact trivial) <;> repeat (first | refine fun (Bk : Nat) => ?_ | intro h)))
    simp only [e1, e3]
    all_goals (refine go ?_; and_intros <;> (try exact trivial) <;> repeat (first | refine fun (Bk : Nat) => ?_ | intro h))
    repeat' ((first | (apply G.cN (g := 11) (fun a' c' => .tuple #[.slice a' P.length c', .int .i64 ep]) (P.map isV); rfl; rfl; exact fun w' hw' => hpp w' hw'.below; intro u1 v1 hn1 hq1) | (apply G.cN (g := 19) (fun a' c' => .tuple #[.agg #[.slice a' ([] : List Int).length c'], .int .i64 e]) (([] : List Int).map isV); rfl; rfl; exact fun w' hw' => hal w' hw'.below; intro u2 v2 hn2 hq2) | (apply G.cV (g := 41); rfl; rfl; exact fun w' hw' => hrt w' u2 v2 _ (hw'.sl (by exact mm))) | (apply G.cN (g := 21) (fun a' c' => .tuple #[.slice a' ([] : List Prt).length c', .int .i64 e]) (([] : List Prt).map (wV (sumL []))); rfl; rfl; exact fun w' hw' => hpa w' hw'.below; intro u3 v3 hn3 hq3)) <;> (refine go ?_; and_intros <;> (try exact trivial) <;> repeat (first | refine fun (Bk : Nat) => ?_ | intro h)))
    all_goals
      all_goals refine ret1b Tryz.func7 Tryz.results7 ?_
      all_goals rfl
  have hk0 := along_ker he2
  have hwn := fun F (d : Nat) (hd : itr l d (fr : Int) = (to : Int)) (s : Nat) => own_want n4 (by omega) (by omega) hd he2 F s
  rw [partsE, if_neg (fun h => h he2), arrE, if_neg (fun h => h hk0)] at hpa
  have hkl := alongE_len l fr to
  have hp0 : (pathE l fr to).2 = 0 := by
    by_cases h : (pathE l fr to).2 = 0
    · exact h
    · rw [alongE, if_pos h] at he2; exact absurd he2 h
  generalize alongE l fr to = X at *
  obtain ⟨K, e⟩ := X
  dsimp only at hk0 hwn hal he2 hkl hpa
  subst he2
  have hk := ker_of hk0
  have hks := hk.sum
  have hkL := hk.len
  by_cases hval : ∀ q ∈ fl, validQ q
  case neg =>
    have hrt := fun w' ka kc hx hy => vRouteBad_holds ka K kc fa fl fc w' hx hy hk0 (by omega) (fun q hq => fewQ_le (m2 q hq) (by decide)) hval
    generalize pathE l fr to = Y at *
    obtain ⟨P, ep⟩ := Y
    dsimp only at hpp hp0
    subst hp0
    obtain ⟨L1, E1, hpa⟩ : ∃ L1 E1, ∀ w', Below w.heap.size w w' → Calls Tryz.prog 21 #[.slice a l.length c, .int .i64 fr, .int .i64 to, .agg #[.int .i64 f, .int .i64 t]] w' (RetW (fun v => .tuple #[v, .int .i64 E1]) (sumL K) w' L1) := ⟨_, _, hpa⟩
    clear hwn
    refine enterA [(0, .slice a l.length c), (1, .slice fa fl.length fc), (2, .agg #[.int .u8 g0, .int .u8 g1, .int .i64 f, .int .i64 t])] Tryz.func7 Tryz.ntmps7 ?_
    all_goals (refine go ?_; and_intros <;> (try exact trivial) <;> repeat (first | refine fun (Bk : Nat) => ?_ | intro h))
    repeat' ((first | (apply G.cV (g := 10); rfl; rfl; exact fun w' _ => sanity32_holds w') | (refine G.cvb hv ?_) | (refine G.cvb hfw ?_) | (refine G.cvb hlg ?_) | (apply G.indexArr (i := 0) (o' := 0); rfl; rfl; rfl; omega; rfl; rfl; rfl; rfl) | (apply G.indexArr (i := 1) (o' := 1); rfl; rfl; rfl; omega; rfl; rfl; rfl; rfl)) <;> (refine go ?_; and_intros <;> (try exact trivial) <;> repeat (first | refine fun (Bk : Nat) => ?_ | intro h)))
    simp only [e1, e3]
    all_goals (refine go ?_; and_intros <;> (try exact trivial) <;> repeat (first | refine fun (Bk : Nat) => ?_ | intro h))
    repeat' ((first | (apply G.cN (g := 11) (fun a' c' => .tuple #[.slice a' P.length c', .int .i64 0]) (P.map isV); rfl; rfl; exact fun w' hw' => hpp w' hw'.below; intro u1 v1 hn1 hq1) | (apply G.cN (g := 19) (fun a' c' => .tuple #[.agg #[.slice a' K.length c'], .int .i64 0]) (K.map isV); rfl; rfl; exact fun w' hw' => hal w' hw'.below; intro u2 v2 hn2 hq2) | (apply G.cV (g := 41); rfl; rfl; exact fun w' hw' => hrt w' u2 v2 (hw'.sl (by exact mm)) (hB.below hw'.below)) | (apply G.cN (g := 21) (fun a' c' => .tuple #[.slice a' L1.length c', .int .i64 E1]) (L1.map (wV (sumL K))); rfl; rfl; exact fun w' hw' => hpa w' hw'.below; intro u3 v3 hn3 hq3)) <;> (refine go ?_; and_intros <;> (try exact trivial) <;> repeat (first | refine fun (Bk : Nat) => ?_ | intro h)))
    all_goals
      all_goals refine ret1b Tryz.func7 Tryz.results7 ?_
      all_goals rfl
  obtain ⟨hB2, hFq⟩ := flows_map hval
  rw [hB2] at hB
  have hF20 : ∀ x ∈ fl.map qR, fewQ 20 (rQ x) := fun x hx => by
    obtain ⟨q, hq, h⟩ := hFq x hx
    rw [h]; exact m2 q hq
  have hFl : (fl.map qR).length = fl.length := List.length_map _
  rw [← hFl] at hfw m1 ⊢
  clear hB2 hFq hval m2
  generalize fl.map qR = F at *
  clear hFl
  obtain ⟨px, hpx⟩ : ∃ px : Nat, px = 260 := ⟨_, rfl⟩
  obtain ⟨kx, hkx⟩ : ∃ kx : Nat, kx = 300 := ⟨_, rfl⟩
  obtain ⟨ky, hky⟩ : ∃ ky : Nat, ky = 400 := ⟨_, rfl⟩
  obtain ⟨D0, M0, b1, b2, b3, b4⟩ := flows_Fr (p := px) (by omega) m1 hF20
  have hS7 : (sumL K).toNat ≤ 256 ^ 7 := Nat.le_trans (show _ ≤ 999999999999999 by omega) (by decide)
  have hrt := fun w' ka kc hx hy => vRoute_holds ka K kc fa F fc w' hx hy hk0 (by omega) D0 M0 b1 b4 kx (by omega) (pow_lt hS7 b2 (by omega)) (pow_lt hS7 b3 (by omega))
  have hwb : ∀ s, fewQ 300 (rQ (fsq (routeL K F) s)) := fun s => fewQ_le ((route_bnd hk b4 s).few (Nat.mul_pos (by omega) b1) (pow_lt (r := kx) hS7 b2 (by omega)) (pow_lt hS7 b3 (by omega))) (by omega)
  have hwl := routeL_le F hkL
  by_cases hrg : f < 0 ∨ t < f ∨ 1402560 < t
  case pos =>
    rw [if_pos hrg] at hpa
    generalize pathE l fr to = Y at *
    obtain ⟨P, ep⟩ := Y
    dsimp only at hpp hp0 hpa
    subst hp0
    clear hwn hwb
    generalize routeL K F = W at *
    refine enterA [(0, .slice a l.length c), (1, .slice fa F.length fc), (2, .agg #[.int .u8 g0, .int .u8 g1, .int .i64 f, .int .i64 t])] Tryz.func7 Tryz.ntmps7 ?_
    all_goals (refine go ?_; and_intros <;> (try exact trivial) <;> repeat (first | refine fun (Bk : Nat) => ?_ | intro h))
    repeat' ((first | (apply G.cV (g := 10); rfl; rfl; exact fun w' _ => sanity32_holds w') | (refine G.cvb hv ?_) | (refine G.cvb hfw ?_) | (refine G.cvb hlg ?_) | (apply G.indexArr (i := 0) (o' := 0); rfl; rfl; rfl; omega; rfl; rfl; rfl; rfl) | (apply G.indexArr (i := 1) (o' := 1); rfl; rfl; rfl; omega; rfl; rfl; rfl; rfl)) <;> (refine go ?_; and_intros <;> (try exact trivial) <;> repeat (first | refine fun (Bk : Nat) => ?_ | intro h)))
    simp only [e1, e3]
    all_goals (refine go ?_; and_intros <;> (try exact trivial) <;> repeat (first | refine fun (Bk : Nat) => ?_ | intro h))
    repeat' ((first | (apply G.cN (g := 11) (fun a' c' => .tuple #[.slice a' P.length c', .int .i64 0]) (P.map isV); rfl; rfl; exact fun w' hw' => hpp w' hw'.below; intro u1 v1 hn1 hq1) | (apply G.cN (g := 19) (fun a' c' => .tuple #[.agg #[.slice a' K.length c'], .int .i64 0]) (K.map isV); rfl; rfl; exact fun w' hw' => hal w' hw'.below; intro u2 v2 hn2 hq2) | (apply G.cN (g := 41) (fun a' c' => .tuple #[.slice a' W.length c', .int .i64 0]) (W.map qF); rfl; rfl; exact fun w' hw' => hrt w' u2 v2 (hw'.sl (by exact mm)) (hB.below hw'.below); intro u4 v4 hn4 hq4) | (apply G.cN (g := 21) (fun a' c' => .tuple #[.slice a' ([] : List Prt).length c', .int .i64 3]) (([] : List Prt).map (wV (sumL K))); rfl; rfl; exact fun w' hw' => hpa w' hw'.below; intro u3 v3 hn3 hq3)) <;> (refine go ?_; and_intros <;> (try exact trivial) <;> repeat (first | refine fun (Bk : Nat) => ?_ | intro h)))
    all_goals
      all_goals refine ret1b Tryz.func7 Tryz.results7 ?_
      all_goals rfl
  rw [if_neg hrg] at hpa
  rcases path_cases n4 (fr := fr) (to := to) (by omega) (by omega) with ⟨d, hd, hpe⟩ | ⟨_, hpe⟩
  case inr => rw [hpe] at hp0; cases hp0
  rw [hpe] at hpp
  have hwn := fun s => hwn F d hd s
  have hsum := arrive_all hk (fr := f) (to := t) (by omega) (by omega) F
  have hPl : (stepsL l d fr).length = d + 1 := stepsL_len l d fr
  have hPg : ∀ i (hi : i < (stepsL l d fr).length), (stepsL l d fr)[i] = itr l i fr := fun i hi => stepsL_get l d fr i hi
  have hll : (arrL K f t).length ≤ 1402560 := by
    have := arrF_len (W := wIn K f t) (t0Of K f) (t - t0Of K f).toNat
    have h3 : 0 ≤ t0Of K f := by rw [t0Of]; omega
    rw [arrL]; omega
  have hpos : ∀ p ∈ arrL K f t, 0 < p.2.2 ∧ p.2.2 ≤ sumL K := fun p hp => ⟨(parts_in hk (by omega) (by omega) hp).2.2.1, (parts_in hk (by omega) (by omega) hp).2.2.2.1⟩
  generalize arrL K f t = L1 at *
  generalize hP : stepsL l d fr = P at *
  dsimp only at hpp hpa
  clear hpe hp0
  have hdb : d ≤ 10 := by
    have h7 := hR.dep (g := fr) (by omega)
    rcases Nat.lt_or_ge d (dpt l fr) with h8 | h8
    · omega
    · have := itr_pos (k := d) (by rw [hd]; omega) h8
      omega
  have hd0 : 0 ≤ itr l d fr := by rw [hd]; omega
  have hrl := fun i (hi : i ≤ d) => rtN_len hR F (g := fr) (by omega) hd0 (by omega) hi
  have hrb := fun i (hi : i ≤ d) => rtN_bnd hR (F := F) (g := fr) (by omega) hd0 (by omega) b1 b2 b3 b4 hi
  have h00 : rtN l fr F 0 = F := rfl
  have hss : ∀ i, rtN l fr F (i + 1) = routeL (ker1 l (itr l i fr)) (rtN l fr F i) := fun i => rfl
  generalize hrN : rtN l fr F = R at *
  generalize hW : routeL K F = W at *
  clear hrN
  refine enterA [(0, .slice a l.length c), (1, .slice fa F.length fc), (2, .agg #[.int .u8 g0, .int .u8 g1, .int .i64 f, .int .i64 t])] Tryz.func7 Tryz.ntmps7 ?_
  all_goals (refine go ?_; and_intros <;> (try exact trivial) <;> repeat (first | refine fun (Bk : Nat) => ?_ | intro h))
  repeat' ((first | (apply G.cV (g := 10); rfl; rfl; exact fun w' _ => sanity32_holds w') | (refine G.cvb hv ?_) | (refine G.cvb hfw ?_) | (refine G.cvb hlg ?_) | (apply G.indexArr (i := 0) (o' := 0); rfl; rfl; rfl; omega; rfl; rfl; rfl; rfl) | (apply G.indexArr (i := 1) (o' := 1); rfl; rfl; rfl; omega; rfl; rfl; rfl; rfl)) <;> (refine go ?_; and_intros <;> (try exact trivial) <;> repeat (first | refine fun (Bk : Nat) => ?_ | intro h)))
  simp only [e1, e3]
  all_goals (refine go ?_; and_intros <;> (try exact trivial) <;> repeat (first | refine fun (Bk : Nat) => ?_ | intro h))
  repeat' ((first | (apply G.cN (g := 11) (fun a' c' => .tuple #[.slice a' P.length c', .int .i64 0]) (P.map isV); rfl; rfl; exact fun w' hw' => hpp w' hw'.below; intro u1 v1 hn1 hq1) | (apply G.cN (g := 19) (fun a' c' => .tuple #[.agg #[.slice a' K.length c'], .int .i64 0]) (K.map isV); rfl; rfl; exact fun w' hw' => hal w' hw'.below; intro u2 v2 hn2 hq2) | (apply G.cN (g := 41) (fun a' c' => .tuple #[.slice a' W.length c', .int .i64 0]) (W.map qF); rfl; rfl; exact fun w' hw' => hrt w' u2 v2 (hw'.sl (by exact mm)) (hB.below hw'.below); intro u4 v4 hn4 hq4) | (apply G.cN (g := 21) (fun a' c' => .tuple #[.slice a' L1.length c', .int .i64 0]) (L1.map (wV (sumL K))); rfl; rfl; exact fun w' hw' => hpa w' hw'.below; intro u3 v3 hn3 hq3)) <;> (refine go ?_; and_intros <;> (try exact trivial) <;> repeat (first | refine fun (Bk : Nat) => ?_ | intro h)))
  subst h00
  obtain ⟨b1', o1', rfl⟩ := hn1 (by rw [List.length_map]; omega)
  refine J.slOld hB ?_
  clear hv hfw hlg hpp hal hpa hrt hn1 hq1 hn2 hq2 hq3 hq4 e1 e3
  generalize hTT : sumL K = tot at *
  refine J.loop (c := _) ((0, fa, fc) : Nat × Option Addr × Nat) (fun s => d - s.1) (fun s => [(0, .slice a l.length c), (1, .slice fa (R 0).length fc), (5, .pointer (some ⟨_, 0, none⟩)), (10, .slice (some ⟨b1', o1', none⟩) P.length v1), (14, .slice u4 W.length v4), (16, .slice u3 L1.length v3), (18, .slice s.2.1 (R s.1).length s.2.2), (19, .int .i64 s.1)]) (fun s => [slRow w.heap.size s.2.1 3 ((R s.1).map qF), slRow w.heap.size u3 5 (L1.map (wV tot)), slRow w.heap.size u4 3 (W.map qF), slRow w.heap.size (some ⟨b1', o1', none⟩) 1 (P.map isV), .blk _ 88 [.int .u8 g0, .int .u8 g1, .int .i64 f, .int .i64 t] 4]) (fun s => s.1 ≤ d) ?_ sbT sbL ?_
  · exact Nat.zero_le _
  intro ⟨i, ao, co'⟩ i1 ih
  dsimp only at i1 ⊢
  by_cases hi : i < d
  · obtain ⟨ba, oa, rfl, hra⟩ := SlAt.all hA (by omega)
    obtain ⟨D, M, c1, c2, c3, c4⟩ := hrb i i1
    have hlo := hrl i i1
    have h3 := itr_pos hd0 (show i ≤ d by omega)
    have h4 := hR.in_ (g := fr) i (by omega) (by omega)
    have h5 := itr_pos hd0 (show i + 1 ≤ d by omega)
    have hgi := fun {C M} (hm : slRow w.heap.size (some ⟨b1', o1', none⟩) 1 (P.map isV) ∈ M) => CellV.sl0 (C := C) (M := M) (f := isV) (l := P) hm (show i < P.length by omega) rfl
    rw [hPg i (by omega)] at hgi
    rw [itr_succ] at h5
    have hkk := (hR.pos ⟨h3, h4.2⟩ h5).2
    have hkS := (ker_of hkk).sum
    have ih := fun a' c' => ih (i + 1, a', c') hi (by dsimp only; omega)
    simp only [hss] at ih
    generalize itr l i fr = y at *
    obtain ⟨z, rfl⟩ : ∃ z : Nat, y = z := ⟨y.toNat, by omega⟩
    have hz : z < l.length := by omega
    have hrz := hra z hz
    have hkz := hK l[z] (List.getElem_mem hz)
    rw [ker1_at hz] at hkk hkS
    simp only [ker1_at hz] at ih
    have hS8 : (sumL l[z].ws).toNat ≤ 256 ^ 7 := Nat.le_trans (show _ ≤ 999999999999999 by omega) (by decide)
    have hrt := fun w' (hx : SlAt w' l[z].adr 1 (l[z].ws.map isV)) (hy : SlAt w' ao 3 ((R i).map qF)) => vRoute_holds l[z].adr l[z].ws l[z].cap ao (R i) co' w' hx hy hkk (by omega) D M c1 c2 ky (by omega) (pow_lt hS8 c3 (by omega)) (pow_lt hS8 c4 (by omega))
    clear hra hrb hrl hss hwn hsum hwb
    generalize l[z] = r at *
    obtain ⟨dn, ws, adr, cap⟩ := r
    dsimp only [rcV] at *
    all_goals (refine go ?_; and_intros <;> (try exact trivial) <;> repeat (first | refine fun (Bk : Nat) => ?_ | intro h))
    repeat' ((first | (apply G.ld; rfl; (apply LdV.one; exact hgi (by exact mm)); rfl) | (apply G.cN (g := 41) (fun a' c' => .tuple #[.slice a' (routeL ws (R i)).length c', .int .i64 0]) ((routeL ws (R i)).map qF); rfl; rfl; exact fun w' hw' => hrt w' (hkz.below hw'.below) (hw'.sl (by exact mm)); intro u5 v5 hn5 hq5)) <;> (refine go ?_; and_intros <;> (try exact trivial) <;> repeat (first | refine fun (Bk : Nat) => ?_ | intro h)))
    exact J.fin (ih u5 v5)
  obtain rfl : i = d := by omega
  have hlo := hrl i i1
  have hmx : max ((R i).length : Int) (W.length : Int) = ((max (R i).length W.length : Nat) : Int) := by omega
  have hsum := hsum (max (R i).length W.length) (Nat.le_max_right _ _)
  have hN : max (R i).length W.length ≤ 5000 := by omega
  have hOl : (R i).length ≤ 5000 := by omega
  clear ih hi hn4 hss hrl hrb hPg hR i1
  all_goals (refine go ?_; and_intros <;> (try exact trivial) <;> repeat (first | refine fun (Bk : Nat) => ?_ | intro h))
  rw [hmx]
  generalize max (R i).length W.length = N at *
  generalize R i = O at *
  generalize R 0 = F at *
  have gi1 : ∀ s : Nat, f ≤ s ∧ s < t → ind f t s * fsq W s = fsq W s := fun s h => by rw [ind, if_pos h, Rat.one_mul]
  have gi0 : ∀ s : Nat, ¬ (f ≤ s ∧ s < t) → ind f t s * fsq W s = 0 := fun s h => by rw [ind, if_neg h, Rat.zero_mul]
  have hGf : ∀ s : Nat, fewQ 300 (rQ (ind f t s * fsq W s)) := fun s => by
    by_cases h : f ≤ s ∧ s < t
    · rw [gi1 s h]; exact hwb s
    · rw [gi0 s h]; exact fewQ_zero
  have hXf := few_rS (by decide) hGf
  have hFs : ∀ s, fewQ 20 (rQ (fsq F s)) := fun s => by
    rcases Nat.lt_or_ge s F.length with h | h
    · rw [fsq_lt h]; exact hF20 _ (List.getElem_mem h)
    · rw [fsq_ge h]; exact fewQ_zero
  have hwA : ∀ s : Nat, 0 ≤ wAt L1 s ∧ wAt L1 s ≤ tot := fun s => by
    rw [wAt]
    split
    · rename_i p hp
      have := hpos p (List.mem_of_find?_eq_some hp)
      omega
    · omega
  have hWt : ∀ s : Nat, fewQ 16 (rQ (((wAt L1 s : Int) : Rat) / (tot : Rat))) := fun s => by
    have := hwA s
    exact fewQ_div (by omega) (by omega) (by omega) (by omega) (by omega)
  have hHf : ∀ s : Nat, fewQ 36 (rQ (fsq F s * (((wAt L1 s : Int) : Rat) / (tot : Rat)))) := fun s => fewQ_mul (hFs s) (hWt s) (by decide) (by decide)
  have hYf := few_rS (by decide) hHf
  have hww := fun w' (s : Nat) hx => weight_holds u3 L1 v3 tot s w' hx (by omega)
  generalize hHH : (fun s : Nat => fsq F s * (((wAt L1 s : Int) : Rat) / (tot : Rat))) = H at *
  have hH1 : ∀ s, fsq F s * (((wAt L1 s : Int) : Rat) / (tot : Rat)) = H s := fun s => by rw [← hHH]
  generalize hGG : (fun s : Nat => ind f t s * fsq W s) = Gq at *
  have hG1 : ∀ s : Nat, ind f t s * fsq W s = Gq s := fun s => by rw [← hGG]
  simp only [hG1] at gi1 gi0
  simp only [hH1] at hHf
  clear hHH hGG hG1 hGf hwA hpos hk0 hk hF20
  refine J.loop (c := _) (0 : Nat) (fun s => N - s) (fun s => [(1, .slice fa F.length fc), (5, .pointer (some ⟨_, 0, none⟩)), (14, .slice u4 W.length v4), (16, .slice u3 L1.length v3), (18, .slice ao O.length co'), (21, .pointer (some ⟨_, 0, none⟩)), (148, .int .i64 N), (149, .int .i64 s)]) (fun s => [.blk _ 78 (qV (rQ (rS Gq 0 s))) 3, slRow w.heap.size ao 3 (O.map qF), slRow w.heap.size u3 5 (L1.map (wV tot)), slRow w.heap.size u4 3 (W.map qF), .blk _ 88 [.int .u8 g0, .int .u8 g1, .int .i64 f, .int .i64 t] 4]) (fun s => s ≤ N) ?_ sbT sbL ?_
  · exact Nat.zero_le _
  intro s s1 ih
  by_cases hs : s < N
  · have ih := ih (s + 1) hs (by omega)
    have hat := fun w' a c hx => atF_holds a O c s w' hx (by omega)
    have haw := fun w' a c hx => atF_holds a W c s w' hx (by omega)
    rw [hwn s] at hat
    rw [rS_last, Nat.zero_add] at ih
    have x1 := hXf s
    have x2 := hwb s
    have had := fun w' => ratAdd_holds (rQ (rS Gq 0 s)) (rQ (fsq W s)) w' (Nat.le_trans x1.1 (by omega)) (Nat.le_trans x1.2 (by omega)) (Nat.le_trans x2.1 (by decide)) (Nat.le_trans x2.2 (by decide))
    simp only [qR_rQ] at had
    have gi1 := gi1 s
    have gi0 := gi0 s
    clear x1 x2 hXf hYf hww hsum hwb hwn hWt hFs hHf hH1
    by_cases hin : f ≤ s ∧ s < t
    · rw [gi1 hin] at ih
      clear gi1 gi0
      generalize rQ (rS Gq 0 s + fsq W s) = Q1 at *
      generalize rQ (rS Gq 0 s) = Q2 at *
      generalize rQ (fsq W s) = Q3' at *
      obtain ⟨p1, p2, p3⟩ := Q1
      obtain ⟨p4, p5, p6⟩ := Q2
      dsimp only [qV, qA] at *
      all_goals (refine go ?_; and_intros <;> (try exact trivial) <;> repeat (first | refine fun (Bk : Nat) => ?_ | intro h))
      repeat' ((first | (apply J.regA (.q 0 <| .q 1 <| .q 2 <| .e 3 <| .e 4 <| .r 5 <| .nil); exact Tryz.mixed; decide +kernel) | (apply G.cV (g := 42) (vs := [.slice ao O.length co', .int .i64 s]); rfl; rfl; exact fun w' hw' => hat w' ao co' (hw'.sl (by exact mm))) | (apply G.cV (g := 42) (vs := [.slice u4 W.length v4, .int .i64 s]); rfl; rfl; exact fun w' hw' => haw w' u4 v4 (hw'.sl (by exact mm))) | (apply G.neR Q3' Q3'; rfl; rfl; rfl; all_goals intro h; all_goals try (exact absurd rfl h)) | (apply G.cV (g := 36); rfl; rfl; exact fun w' _ => had w')) <;> (refine go ?_; and_intros <;> (try exact trivial) <;> repeat (first | refine fun (Bk : Nat) => ?_ | intro h)))
      exact J.fin ih
    · rw [gi0 hin, Rat.add_zero] at ih
      clear gi1 gi0 had
      generalize rQ (rS Gq 0 s) = Q2 at *
      generalize rQ (fsq W s) = Q3' at *
      obtain ⟨p4, p5, p6⟩ := Q2
      dsimp only [qV, qA] at *
      have hin : s < f ∨ (f ≤ s ∧ t ≤ s) := by omega
      all_goals (refine go ?_; and_intros <;> (try exact trivial) <;> repeat (first | refine fun (Bk : Nat) => ?_ | intro h))
      repeat' ((first | (apply G.cV (g := 42) (vs := [.slice ao O.length co', .int .i64 s]); rfl; rfl; exact fun w' hw' => hat w' ao co' (hw'.sl (by exact mm))) | (apply G.cV (g := 42) (vs := [.slice u4 W.length v4, .int .i64 s]); rfl; rfl; exact fun w' hw' => haw w' u4 v4 (hw'.sl (by exact mm))) | (apply G.neR Q3' Q3'; rfl; rfl; rfl; all_goals intro h; all_goals try (exact absurd rfl h))) <;> (refine go ?_; and_intros <;> (try exact trivial) <;> repeat (first | refine fun (Bk : Nat) => ?_ | intro h)))
      all_goals exact J.fin ih
  obtain rfl : s = N := by omega
  clear ih hs hwn hwb gi1 gi0
  all_goals (refine go ?_; and_intros <;> (try exact trivial) <;> repeat (first | refine fun (Bk : Nat) => ?_ | intro h))
  have hXs := hXf s
  obtain ⟨X, hX⟩ : ∃ X, rS Gq 0 s = X := ⟨_, rfl⟩
  rw [hX] at hsum hXs
  have hX0 : rQ (rS Gq 0 s) = rQ (X - rS H 0 0) := by rw [hX, rS, Rat.sub_eq_add_neg, Rat.neg_zero, Rat.add_zero]
  rw [hX0]
  clear hXf hX hX0
  refine J.loop (c := _) (0 : Nat) (fun s => F.length - s) (fun s => [(16, .slice u3 L1.length v3), (21, .pointer (some ⟨_, 0, none⟩)), (177, .slice fa F.length fc), (178, .int .i64 F.length), (179, .int .i64 s)]) (fun s => [.blk _ 78 (qV (rQ (X - rS H 0 s))) 3, slRow w.heap.size u3 5 (L1.map (wV tot))]) (fun s => s ≤ F.length) ?_ sbT sbL ?_
  · exact Nat.zero_le _
  intro j j1 ih
  by_cases hj : j < F.length
  · obtain ⟨bf, of, rfl, hrf⟩ := SlAt.all hB (by omega)
    have hrj := hrf j hj
    have ih := ih (j + 1) hj (by omega)
    have hww := fun w' hx => hww w' j hx
    have y1 := hYf j
    have y2 := fewQ_sub hXs y1 (by omega) (by omega)
    have y3 := hFs j
    have y4 := hWt j
    have y5 := hHf j
    rw [rS_last, Nat.zero_add] at ih
    have hml := fun w' => ratMul_holds (rQ (fsq F j)) (rQ (((wAt L1 j : Int) : Rat) / (tot : Rat))) w' (Nat.le_trans y3.1 (by decide)) (Nat.le_trans y3.2 (by decide)) (Nat.le_trans y4.1 (by decide)) (Nat.le_trans y4.2 (by decide))
    have hsb := fun w' => ratSub_holds (rQ (X - rS H 0 j)) (rQ (H j)) w' (Nat.le_trans y2.1 (by omega)) (Nat.le_trans y2.2 (by omega)) (Nat.le_trans y5.1 (by decide)) (Nat.le_trans y5.2 (by decide))
    simp only [qR_rQ, hH1] at hml hsb
    rw [show X - (rS H 0 j + H j) = X - rS H 0 j - H j by grind] at ih
    rw [qF, ← fsq_lt hj] at hrj
    clear y1 y2 y3 y4 y5 hXs hYf hFs hWt hHf hH1 hsum hrf
    generalize rQ (X - rS H 0 j - H j) = Q1 at *
    generalize rQ (X - rS H 0 j) = Q2 at *
    generalize rQ (H j) = Q3' at *
    generalize rQ (fsq F j) = Q4 at *
    generalize rQ (((wAt L1 j : Int) : Rat) / (tot : Rat)) = Q5 at *
    obtain ⟨p1, p2, p3⟩ := Q1
    obtain ⟨p4, p5, p6⟩ := Q2
    obtain ⟨p7, p8, p9⟩ := Q4
    dsimp only [qV, qA] at *
    all_goals (refine go ?_; and_intros <;> (try exact trivial) <;> repeat (first | refine fun (Bk : Nat) => ?_ | intro h))
    repeat' ((first | (apply J.regA (.q 0 <| .q 1 <| .q 2 <| .q 3 <| .e 4 <| .e 5 <| .e 6 <| .r 7 <| .nil); exact Tryz.mixed; decide +kernel) | (apply G.ix (i := j); rfl; rfl; rfl; omega; rfl) | (apply G.cV (g := 37); rfl; rfl; exact fun w' hw' => hww w' (hw'.sl (by exact mm))) | (apply G.cV (g := 44); rfl; rfl; exact fun w' _ => hml w') | (apply G.cV (g := 43); rfl; rfl; exact fun w' _ => hsb w')) <;> (refine go ?_; and_intros <;> (try exact trivial) <;> repeat (first | refine fun (Bk : Nat) => ?_ | intro h)))
    exact J.fin ih
  obtain rfl : j = F.length := by omega
  clear ih hj
  rw [← hsum, show X - X = 0 by grind, show rQ 0 = zero3 from rfl]
  all_goals (refine go ?_; and_intros <;> (try exact trivial) <;> repeat (first | refine fun (Bk : Nat) => ?_ | intro h))
  repeat' ((first | (apply G.eqR zero3 zero3; rfl; rfl; rfl; all_goals intro h; all_goals try (exact absurd rfl h))) <;> (refine go ?_; and_intros <;> (try exact trivial) <;> repeat (first | refine fun (Bk : Nat) => ?_ | intro h)))
  all_goals refine ret1b Tryz.func7 Tryz.results7 ?_
  all_goals rfl
end Go.Proofs.YtceaamdomkjmlaaGreatDoor
