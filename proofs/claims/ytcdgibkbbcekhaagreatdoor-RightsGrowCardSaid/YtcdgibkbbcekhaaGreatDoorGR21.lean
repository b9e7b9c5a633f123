/-
  The law RightsGrow.
-/
import Derived.Test.YtcdgibkbbcekhaaGreatDoorGR20
set_option linter.unusedVariables false
set_option linter.unusedSimpArgs false
set_option linter.unusedSectionVars false
namespace Go.Proofs.YtcdgibkbbcekhaaGreatDoor
open Go.RowKit Go.Sl Go.Num
theorem map_erase {α β : Type} (f : α → β) : ∀ (l : List α) (i : Nat), (l.map f).eraseIdx i = (l.eraseIdx i).map f
  | [], _ => rfl
  | _ :: _, 0 => rfl
  | x :: l, i + 1 => by rw [List.map_cons, List.eraseIdx_cons_succ, List.eraseIdx_cons_succ, List.map_cons, map_erase f l i]
theorem slSub {w : World} {la : Option Addr} {L : List Clm} {lc p n : Nat} (h : SlAt w la 5 (L.map clV)) (hc : L.length ≤ lc) (hp : p + n ≤ L.length) : SlAt w (subA la lc p 5) 5 (((L.drop p).take n).map clV) := by
  by_cases hn : n = 0
  · subst hn; rw [List.take_zero]; exact fun h => absurd h (Nat.lt_irrefl _)
  · obtain ⟨b, o, rfl, h2⟩ := SlAt.all h (by omega)
    have := SlAt.seg h2 p n hp
    rw [subA, if_neg (by omega), Option.map_some, addr_add, addO_eq]
    exact this
theorem G.ownFormA {C : Ctx} {st : List (Nat × Value)} {M : List Row} {k : List Item} {all : List Oper} {p : Pt} {l : List Oper} {base E size n : Nat} {v : Value} {xs : List Value} (hm : Row.own base v E size n xs ∈ M) (h : ∀ a c, v = .slice a n c → G (.any p) C all st M l k) : G (.any p) C all st M l k :=
  ⟨fun hl hsel listed hdc hp a w hf hdf hw => by
    obtain ⟨a', c', e⟩ := hw.ownForm hm
    exact (h a' c' e).go hl hsel listed hdc hp a w hf hdf hw⟩
theorem sgn_nn {x y : Rat} (h : y ≤ x) : 0 ≤ sgnR (x - y) := by
  have h0 : ¬ x - y < 0 := by grind
  simp only [sgnR, h0, if_false]
  split <;> omega
set_option maxHeartbeats 16000000 in
theorem law5_holds (w : World) (ra : Option Addr) (R : List Rch) (rc : Nat) (ga : Option Addr) (Gs : List Q3) (gc : Nat) (la : Option Addr) (L : List Clm) (lc n0 n1 : Nat) (s0 : Bool) (u0 v0 : List UInt8) (hS : SupAt w ra R ga (Gs.map qV)) (hL : SlAt w la 5 (L.map clV)) (hn0 : n0 ≤ 255) (hn1 : n1 ≤ 255) (hlc : L.length ≤ lc) :
    Calls Tryz.prog 3 #[.agg #[.slice ra R.length rc, .slice ga Gs.length gc], .slice la L.length lc, .agg #[.int .u8 n0, .int .u8 n1], .agg #[.bool s0, .string (bs u0), .string (bs v0)]] w fun e w' => e = .returned (.bool true) ∧ Below w.heap.size w w' := by
  have hsm := fun w' (hb : Below w.heap.size w w') => small39_holds ra R rc ga Gs gc la L lc w' (hS.below hb) (hL.below hb)
  have hsan := fun w' => sanity39_holds w'
  have hbr := fun a w' (h : SlAt w' a 3 ([(⟨s0, u0, v0⟩ : Q3)].map qV)) => brief_holds a [⟨s0, u0, v0⟩] 1 w' h
  rw [show briefB [(⟨s0, u0, v0⟩ : Q3)] = shB ⟨s0, u0, v0⟩ by rw [briefB, List.all_cons, List.all_nil, Bool.and_true]; rfl] at hbr
  cases hfe : smallB R Gs L
  · rw [hfe] at hsm
    refine enterA [(0, .agg #[.slice ra R.length rc, .slice ga Gs.length gc]), (1, .slice la L.length lc), (2, .agg #[.int .u8 n0, .int .u8 n1]), (3, .agg #[.bool s0, .string (bs u0), .string (bs v0)])] Tryz.func3 Tryz.ntmps3 ?_
    all_goals (refine go ?_; and_intros <;> (try exact trivial) <;> repeat (first | refine fun (Bk : Nat) => ?_ | intro h))
    repeat' ((first | (apply G.cV (g := 10); rfl; rfl; exact fun w' hw' => hsm w' hw'.below) | (apply G.cV (g := 13); rfl; rfl; exact fun w' _ => hsan w') | (apply G.sliceL; rfl; rfl; rfl; rfl; rfl; rfl; rfl; rfl; intro Bs) | (apply G.cV (g := 11); rfl; rfl; exact fun w' hw' => hbr _ w' (blkSlA (f := qV) (l := [⟨_, u0, v0⟩]) hw' (fun _ => rfl) (by exact mm)).1) | (apply G.cV (g := 12); rfl; rfl; exact fun w' _ => hval w') | exact absurd rfl ‹_›) <;> (refine go ?_; and_intros <;> (try exact trivial) <;> repeat (first | refine fun (Bk : Nat) => ?_ | intro h)))
    all_goals refine ret1b Tryz.func3 Tryz.results3 ?_
    all_goals rfl
  rw [hfe] at hsm
  by_cases hr0 : R.length = 0
  · clear hfe
    refine enterA [(0, .agg #[.slice ra R.length rc, .slice ga Gs.length gc]), (1, .slice la L.length lc), (2, .agg #[.int .u8 n0, .int .u8 n1]), (3, .agg #[.bool s0, .string (bs u0), .string (bs v0)])] Tryz.func3 Tryz.ntmps3 ?_
    all_goals (refine go ?_; and_intros <;> (try exact trivial) <;> repeat (first | refine fun (Bk : Nat) => ?_ | intro h))
    repeat' ((first | (apply G.cV (g := 10); rfl; rfl; exact fun w' hw' => hsm w' hw'.below) | (apply G.cV (g := 13); rfl; rfl; exact fun w' _ => hsan w') | (apply G.sliceL; rfl; rfl; rfl; rfl; rfl; rfl; rfl; rfl; intro Bs) | (apply G.cV (g := 11); rfl; rfl; exact fun w' hw' => hbr _ w' (blkSlA (f := qV) (l := [⟨_, u0, v0⟩]) hw' (fun _ => rfl) (by exact mm)).1) | (apply G.cV (g := 12); rfl; rfl; exact fun w' _ => hval w') | exact absurd rfl ‹_›) <;> (refine go ?_; and_intros <;> (try exact trivial) <;> repeat (first | refine fun (Bk : Nat) => ?_ | intro h)))
    all_goals refine ret1b Tryz.func3 Tryz.results3 ?_
    all_goals rfl
  cases hsh : shB ⟨s0, u0, v0⟩
  · rw [hsh] at hbr
    refine enterA [(0, .agg #[.slice ra R.length rc, .slice ga Gs.length gc]), (1, .slice la L.length lc), (2, .agg #[.int .u8 n0, .int .u8 n1]), (3, .agg #[.bool s0, .string (bs u0), .string (bs v0)])] Tryz.func3 Tryz.ntmps3 ?_
    all_goals (refine go ?_; and_intros <;> (try exact trivial) <;> repeat (first | refine fun (Bk : Nat) => ?_ | intro h))
    repeat' ((first | (apply G.cV (g := 10); rfl; rfl; exact fun w' hw' => hsm w' hw'.below) | (apply G.cV (g := 13); rfl; rfl; exact fun w' _ => hsan w') | (apply G.sliceL; rfl; rfl; rfl; rfl; rfl; rfl; rfl; rfl; intro Bs) | (apply G.cV (g := 11); rfl; rfl; exact fun w' hw' => hbr _ w' (blkSlA (f := qV) (l := [⟨_, u0, v0⟩]) hw' (fun _ => rfl) (by exact mm)).1) | (apply G.cV (g := 12); rfl; rfl; exact fun w' _ => hval w') | exact absurd rfl ‹_›) <;> (refine go ?_; and_intros <;> (try exact trivial) <;> repeat (first | refine fun (Bk : Nat) => ?_ | intro h)))
    all_goals refine ret1b Tryz.func3 Tryz.results3 ?_
    all_goals rfl
  rw [hsh] at hbr
  have hfm : fewQ 20 (⟨s0, u0, v0⟩ : Q3) := shB_few.1 hsh
  have hval := fun w' => ratValid_holds ⟨s0, u0, v0⟩ w' (Nat.le_trans hfm.1 (by decide)) (Nat.le_trans hfm.2 (by decide))
  by_cases hv : validQ (⟨s0, u0, v0⟩ : Q3)
  case neg =>
    rw [decide_eq_false hv] at hval
    clear hv
    refine enterA [(0, .agg #[.slice ra R.length rc, .slice ga Gs.length gc]), (1, .slice la L.length lc), (2, .agg #[.int .u8 n0, .int .u8 n1]), (3, .agg #[.bool s0, .string (bs u0), .string (bs v0)])] Tryz.func3 Tryz.ntmps3 ?_
    all_goals (refine go ?_; and_intros <;> (try exact trivial) <;> repeat (first | refine fun (Bk : Nat) => ?_ | intro h))
    repeat' ((first | (apply G.cV (g := 10); rfl; rfl; exact fun w' hw' => hsm w' hw'.below) | (apply G.cV (g := 13); rfl; rfl; exact fun w' _ => hsan w') | (apply G.sliceL; rfl; rfl; rfl; rfl; rfl; rfl; rfl; rfl; intro Bs) | (apply G.cV (g := 11); rfl; rfl; exact fun w' hw' => hbr _ w' (blkSlA (f := qV) (l := [⟨_, u0, v0⟩]) hw' (fun _ => rfl) (by exact mm)).1) | (apply G.cV (g := 12); rfl; rfl; exact fun w' _ => hval w') | exact absurd rfl ‹_›) <;> (refine go ?_; and_intros <;> (try exact trivial) <;> repeat (first | refine fun (Bk : Nat) => ?_ | intro h)))
    all_goals refine ret1b Tryz.func3 Tryz.results3 ?_
    all_goals rfl
  rw [decide_eq_true hv] at hval
  cases hs0 : s0
  case true =>
    subst hs0
    clear hv
    refine enterA [(0, .agg #[.slice ra R.length rc, .slice ga Gs.length gc]), (1, .slice la L.length lc), (2, .agg #[.int .u8 n0, .int .u8 n1]), (3, .agg #[.bool true, .string (bs u0), .string (bs v0)])] Tryz.func3 Tryz.ntmps3 ?_
    all_goals (refine go ?_; and_intros <;> (try exact trivial) <;> repeat (first | refine fun (Bk : Nat) => ?_ | intro h))
    repeat' ((first | (apply G.cV (g := 10); rfl; rfl; exact fun w' hw' => hsm w' hw'.below) | (apply G.cV (g := 13); rfl; rfl; exact fun w' _ => hsan w') | (apply G.sliceL; rfl; rfl; rfl; rfl; rfl; rfl; rfl; rfl; intro Bs) | (apply G.cV (g := 11); rfl; rfl; exact fun w' hw' => hbr _ w' (blkSlA (f := qV) (l := [⟨_, u0, v0⟩]) hw' (fun _ => rfl) (by exact mm)).1) | (apply G.cV (g := 12); rfl; rfl; exact fun w' _ => hval w') | exact absurd rfl ‹_›) <;> (refine go ?_; and_intros <;> (try exact trivial) <;> repeat (first | refine fun (Bk : Nat) => ?_ | intro h)))
    all_goals refine ret1b Tryz.func3 Tryz.results3 ?_
    all_goals rfl
  subst hs0
  by_cases hz : (⟨false, u0, v0⟩ : Q3) = zero3
  · clear hv
    refine enterA [(0, .agg #[.slice ra R.length rc, .slice ga Gs.length gc]), (1, .slice la L.length lc), (2, .agg #[.int .u8 n0, .int .u8 n1]), (3, .agg #[.bool false, .string (bs u0), .string (bs v0)])] Tryz.func3 Tryz.ntmps3 ?_
    all_goals (refine go ?_; and_intros <;> (try exact trivial) <;> repeat (first | refine fun (Bk : Nat) => ?_ | intro h))
    repeat' ((first | (apply G.cV (g := 10); rfl; rfl; exact fun w' hw' => hsm w' hw'.below) | (apply G.cV (g := 13); rfl; rfl; exact fun w' _ => hsan w') | (apply G.sliceL; rfl; rfl; rfl; rfl; rfl; rfl; rfl; rfl; intro Bs) | (apply G.cV (g := 11); rfl; rfl; exact fun w' hw' => hbr _ w' (blkSlA (f := qV) (l := [⟨_, u0, v0⟩]) hw' (fun _ => rfl) (by exact mm)).1) | (apply G.cV (g := 12); rfl; rfl; exact fun w' _ => hval w') | (apply G.eqR ⟨false, u0, v0⟩ zero3; rfl; rfl; rfl; all_goals intro h; all_goals try (exact absurd hz h))) <;> (refine go ?_; and_intros <;> (try exact trivial) <;> repeat (first | refine fun (Bk : Nat) => ?_ | intro h)))
    all_goals refine ret1b Tryz.func3 Tryz.results3 ?_
    all_goals rfl
  have hnb : natB (⟨false, u0, v0⟩ : Q3) = true := by rw [natB, decide_eq_true hv]; rfl
  obtain ⟨m1, m2⟩ := good_q hnb
  have m3 : qR (⟨false, u0, v0⟩ : Q3) ≠ 0 := fun e => hz (by rw [← m1, e]; rfl)
  generalize qR (⟨false, u0, v0⟩ : Q3) = mq at *
  have m4 : 0 < mq := by grind
  have hfq : fewQ 20 (rQ mq) := by rw [m1]; exact hfm
  obtain ⟨hA, hLim⟩ := smallB_arg hS hL hfe
  obtain ⟨f1, f2, f3, f4, f5, f6⟩ := smallB_ok hfe
  obtain ⟨o1, o2, o3, o4⟩ := hA.ok f6
  have hAl := hA.alo f6 hLim
  have hva := fun w' hb => hA.vAllot hLim (fun _ n hn => sorts n L.length hn (by omega)) rc gc lc w' hb
  have hf := all_fair hAl o1 o3
  have hsv := srv_all hAl o1 o3
  have hTl := allT_len (R := R) (Gs := Gs.map qR) (L := L.map cmO) 101
  rw [allR, if_neg (not_not_intro f6)] at hva
  dsimp only at hva
  generalize allT R (Gs.map qR) (L.map cmO) 101 = T at *
  rw [List.length_map] at hTl
  have hTb : ∀ t ∈ T, big t := fun t ht => (hsv.tk t ht).big (by decide)
  -- more water
  obtain ⟨g, hg⟩ : ∃ g, n0 % R.length = g := ⟨_, rfl⟩
  have hgR : g < R.length := by rw [← hg]; exact Nat.mod_lt _ (by omega)
  have hgm : ((g : Nat) : Int) = ((n0 : Int) % (R.length : Int)) := by rw [← hg, Int.natCast_emod]
  have w1 := wetG_err (g := g) f6 m2 (by omega)
  have w2 := wetG_few (g := g) (m := mq) (rgtE_ok f6).1 f4 hfq (by omega)
  have w3 := wetG_len Gs g mq
  have w4 := fun p => wetG_le (Gs := Gs) (g := g) m2 p
  obtain ⟨GW, hGW⟩ : ∃ GW, wetG Gs g mq = GW := ⟨_, rfl⟩
  rw [hGW] at w1 w2 w3 w4
  obtain ⟨U, hU1, hU2, hU3, hU4⟩ : ∃ U : List Rat, U.length = L.length ∧ (∀ t ∈ U, big t) ∧ (∀ k (k1 : k < T.length) (k2 : k < U.length), T[k] ≤ U[k]) ∧ ∀ a c w', Below w.heap.size w w' → SlAt w' a 3 (GW.map qV) → Calls Tryz.prog 14 #[.agg #[.slice ra R.length rc, .slice a Gs.length c], .slice la L.length lc] w' (RetQ (fun v => .tuple #[v, .int .i64 0]) w' U) := by
    have hA2 : Arg w ra R none GW la L → True := fun _ => trivial
    have hok : ∀ (a : Option Addr) w', Below w.heap.size w w' → SlAt w' a 3 (GW.map qV) → Arg w' ra R a GW la L := fun a w' hb h => ⟨⟨hS.riv.below hb, hS.ker.below hb, h⟩, hL.below hb, w2, hA.cf, by omega, hA.len.2⟩
    have hs2 := (good_sup (rgtE_ok w1).1 fun q hq => fewQ_le (w2 q hq) (by decide)).1
    have hAl2 : Alo R (GW.map qR) (L.map cmO) := ⟨hAl.n, hAl.m, fun x hx => by
      obtain ⟨q, hq, rfl⟩ := List.mem_map.1 hx
      rw [(good_q ((supE_ok (rgtE_ok w1).1).2.2 q hq)).1]; exact w2 q hq, hAl.a⟩
    have hsv2 := srv_all hAl2 hs2 o3
    have hf2 := all_fair hAl2 hs2 o3
    have hUl := allT_len (R := R) (Gs := GW.map qR) (L := L.map cmO) 101
    refine ⟨allT R (GW.map qR) (L.map cmO) 101, by rw [hUl, List.length_map], fun t ht => (hsv2.tk t ht).big (by decide), fun k k1 k2 => fair_le (wyR (riv_of o1.riv)) (by rw [List.length_map]; exact hTl) hUl hf hf2 (fun p _ => w4 p) k k1 k2, fun a c w' hb h => ?_⟩
    have h3 := (hok a w' hb h).vAllot (fun _ => hLim f6) (fun _ n hn => sorts n L.length hn (by omega)) rc c lc w' (Below.refl _ _)
    rw [allR, if_neg (not_not_intro w1)] at h3
    rw [w3] at h3
    exact h3
  have hgl : SlAt w ga 3 (Gs.map qV) := hS.gns
  have hap1 : [] ++ flat qV Gs = flat qV Gs := List.nil_append _
  refine enterA [(0, .agg #[.slice ra R.length rc, .slice ga Gs.length gc]), (1, .slice la L.length lc), (2, .agg #[.int .u8 n0, .int .u8 n1]), (3, .agg #[.bool false, .string (bs u0), .string (bs v0)])] Tryz.func3 Tryz.ntmps3 ?_
  all_goals (refine goR ?_; and_intros <;> (try exact trivial) <;> repeat (first | refine fun (Bk : Nat) => ?_ | intro h))
  repeat' ((first | (apply G.cV (g := 10); rfl; rfl; exact fun w' hw' => hsm w' hw'.below) | (apply G.sliceL; rfl; rfl; rfl; rfl; rfl; rfl; rfl; rfl; intro Bs) | (apply G.cV (g := 11); rfl; rfl; exact fun w' hw' => hbr _ w' (blkSlA (f := qV) (l := [⟨_, u0, v0⟩]) hw' (fun _ => rfl) (by exact mm)).1) | (apply G.cV (g := 12); rfl; rfl; exact fun w' _ => hval w') | (apply G.eqR ⟨false, u0, v0⟩ zero3; rfl; rfl; rfl; all_goals intro h; all_goals try (exact absurd h hz)) | (apply G.cN (g := 14) (d := 65) (fun a' c' => .tuple #[.slice a' T.length c', .int .i64 0]) (T.map qF); rfl; rfl; exact fun w' hw' => hva w' hw'.below; intro a1 c1 hp1 hq1) | (apply J.regQ; exact Tryz.mixed; decide +kernel) | (apply J.regL'; exact Tryz.mixed; decide +kernel)) <;> (refine goR ?_; and_intros <;> (try exact trivial) <;> repeat (first | refine fun (Bk : Nat) => ?_ | intro h)))
  rename_i B4 B6 _
  revert Bk; intro B7
  apply J.cutK (X := Nat × Option Addr × Nat) (fun x => [(1, .slice la L.length lc), (4, .pointer (some ⟨B4, 0, none⟩)), (6, .pointer (some ⟨B6, 0, none⟩)), (7, .pointer (some ⟨B7, 0, none⟩)), (9, .slice a1 T.length c1), (10, .int .i64 0), (11, .pointer (some ⟨x.1, 0, none⟩))]) (fun x => [.blk x.1 25 [.slice ra R.length rc, .slice x.2.1 Gs.length x.2.2] 2, .own 0 (.slice x.2.1 Gs.length x.2.2) 29 3 Gs.length (flat qV Gs), slRow w.heap.size a1 3 (T.map qF), .blk B7 29 [.bool false, .string (bs u0), .string (bs v0)] 3, .blk B6 27 [.int .u8 n0, .int .u8 n1] 2, .blk B4 25 [.slice ra R.length rc, .slice ga Gs.length gc] 2])
  · intro hk
    have hk := fun a b c => hk ⟨a, b, c⟩
    dsimp only at hk
    apply J.regS [.blk _ 25 [.slice ra R.length rc, .slice ga Gs.length gc] 2] (.q 0 <| .q 1 <| .q 3 <| .q 4 <| .f 2 (.f 5 (.q 6 <| .e 7 <| .r 8 <| .nil) 7 (.e 5 <| .q 6 <| .r 8 <| .nil)) 7 (.e 2 <| .e 5 <| .q 6 <| .r 8 <| .nil))
    exact Tryz.mixed
    decide +kernel
    (repeat' (first | exact List.Sublist.refl _ | apply List.Sublist.cons_cons | apply List.Sublist.cons))
    all_goals (refine goG ?_; and_intros <;> (try exact trivial) <;> repeat (first | refine fun (Bk : Nat) => ?_ | intro h))
    repeat' ((first | (apply G.forkS) | (apply G.slE; rfl; intro Be) | (apply G.apSOF; rfl; rfl; rfl; (repeat (first | exact RAt.head | apply RAt.tail)); exact SrcV.old (fun _ => rfl) (fun _ => rfl) hgl; exact hap1; omega; omega; intro v'; (repeat' (first | exact List.Sublist.refl _ | apply List.Sublist.cons_cons | apply List.Sublist.cons)); intro v'; exact mm; rw [Nat.zero_add]; intro a2 c2) | (apply G.apSF; rfl; rfl; rfl; (repeat (first | exact RAt.head | apply RAt.tail)); exact SrcV.old (fun _ => rfl) (fun _ => rfl) hgl; exact hap1; omega; omega; intro v'; (repeat' (first | exact List.Sublist.refl _ | apply List.Sublist.cons_cons | apply List.Sublist.cons)); intro v'; exact mm; rw [Nat.zero_add]; intro a2 c2)) <;> (refine goG ?_; and_intros <;> (try exact trivial) <;> repeat (first | refine fun (Bk : Nat) => ?_ | intro h)))
    all_goals exact J.finS (hk Bk a2 c2)
  intro ⟨B11, a2, c2⟩
  dsimp only
  have hGl : Gs.length = R.length := (supE_ok (rgtE_ok f6).1).2.1
  have hgG : g < Gs.length := by omega
  refine J.ownOpen (by (repeat (first | exact RAt.head | apply RAt.tail))) (by omega) fun gb cap y1 y2 y3 => ?_
  cases y3
  obtain ⟨hgg, hg0⟩ := good_q ((supE_ok (rgtE_ok f6).1).2.2 _ (List.getElem_mem hgG))
  have hgq : Gs[g]? = some (Gs[g]'hgG) := List.getElem?_eq_getElem _
  have hadd := vAdd (x := qR (Gs[g]'hgG)) (y := mq) (fewQ.big (k := 20) (by rw [hgg]; exact f4 _ (List.getElem_mem _)) (by decide)) (hfq.big (by decide))
  rw [hgg, m1] at hadd
  have hset := flat_set (f := qV) (sz := 3) (fun _ => rfl) (l := Gs) (i := g) hgG (rQ (qR (Gs[g]'hgG) + mq))
  have hGWe : Gs.set g (rQ (qR (Gs[g]'hgG) + mq)) = GW := by
    rw [← hGW, wetG, fsq_lt (by rw [List.length_map]; omega), List.getElem_map]
  rw [hGWe] at hset
  have hld1 := fun {C : Ctx} {M} [TAgg C.P 29 3] (hm : Row.blk gb 29 (flat qV Gs) (c2 * 3) ∈ M) => LdV.flat (C := C) (M := M) (T := 29) (n := 3) (fun _ => rfl) hm hgq rfl
  have hln : 0 + g * 3 + 3 ≤ (flat qV Gs).length := by rw [flat_len (sz := 3) (fun _ => rfl)]; omega
  rw [← Nat.zero_add (g * 3)] at hset
  clear hgg hg0 hgq hGWe w2
  generalize rQ (qR (Gs[g]'hgG) + mq) = q5 at *
  generalize (Gs[g]'hgG) = q6 at *
  obtain ⟨s5, u5, v5⟩ := q5
  obtain ⟨s6, u6, v6⟩ := q6
  dsimp only [qV, qA] at hset hld1 hadd
  clear hsm hbr hval
  all_goals (refine goR ?_; and_intros <;> (try exact trivial) <;> repeat (first | refine fun (Bk : Nat) => ?_ | intro h))
  repeat' ((first | (apply G.indexArr (i := 0) (o' := 0); rfl; rfl; rfl; omega; rfl; rfl; rfl; rfl) | (apply G.ix (i := g); rfl; rfl; exact hgm.symm; omega; rfl) | (apply G.ld; rfl; exact hld1 (by exact mm); rfl) | (apply G.cV (g := 15); rfl; rfl; exact fun w' _ => hadd w') | (apply G.sA (vs := [.bool s5, .string (bs u5), .string (bs v5)]); rfl; rfl; rfl; (repeat (first | exact RAt.head | apply RAt.tail)); rfl; rfl; exact hln; exact hset) | (apply G.cN (g := 14) (d := 96) (fun a' c' => .tuple #[.slice a' U.length c', .int .i64 0]) (U.map qF); rfl; rfl; exact fun w' hw' => hU4 _ _ w' hw'.below (blkSlA (f := qV) (l := GW) hw' (fun _ => rfl) (by exact mm)).1; intro a3 c3 hp3 hq3) | (apply J.regQ; exact Tryz.mixed; decide +kernel) | (apply J.regL'; exact Tryz.mixed; decide +kernel)) <;> (refine goR ?_; and_intros <;> (try exact trivial) <;> repeat (first | refine fun (Bk : Nat) => ?_ | intro h)))
  clear hset hld1 hadd hln hgm hgR
  rw [hU1, hTl]
  refine J.loop (c := _) (0 : Nat) (fun s => L.length - s) (fun s => [(1, .slice la L.length lc), (4, .pointer (some ⟨B4, 0, none⟩)), (6, .pointer (some ⟨B6, 0, none⟩)), (7, .pointer (some ⟨B7, 0, none⟩)), (9, .slice a1 L.length c1), (13, .slice a3 L.length c3), (120, .int .i64 L.length), (121, .int .i64 s)]) (fun s => [slRow w.heap.size a3 3 (U.map qF), slRow w.heap.size a1 3 (T.map qF), .blk B7 29 [.bool false, .string (bs u0), .string (bs v0)] 3, .blk B6 27 [.int .u8 n0, .int .u8 n1] 2, .blk B4 25 [.slice ra R.length rc, .slice ga Gs.length gc] 2]) (fun s => s ≤ L.length) ?_ sbT sbL ?_
  · exact Nat.zero_le _
  intro k k1 ih
  by_cases hk : k < L.length
  · have ihN := ih (k + 1) hk (by omega)
    obtain ⟨b1, x1, rfl⟩ := hp1 (by rw [List.length_map]; omega)
    obtain ⟨b3, x3, rfl⟩ := hp3 (by rw [List.length_map]; omega)
    have hle := hU3 k (by omega) (by omega)
    have hcm := vCmp (x := U[k]'(by omega)) (y := T[k]'(by omega)) (hU2 _ (List.getElem_mem _)) (hTb _ (List.getElem_mem _))
    have hsg := sgn_nn hle
    have hld1 := fun {C : Ctx} {M} [TAgg C.P 29 3] (hm : slRow w.heap.size (some ⟨b1, x1, none⟩) 3 (T.map qF) ∈ M) => LdV.aggSl (C := C) (M := M) (T := 29) (f := qF) (l := T) hm (i := k) (by omega) rfl
    have hld2 := fun {C : Ctx} {M} [TAgg C.P 29 3] (hm : slRow w.heap.size (some ⟨b3, x3, none⟩) 3 (U.map qF) ∈ M) => LdV.aggSl (C := C) (M := M) (T := 29) (f := qF) (l := U) hm (i := k) (by omega) rfl
    clear ih hp1 hp3 hle
    generalize sgnR (U[k]'(by omega) - T[k]'(by omega)) = sg at *
    rw [show ∀ x : Rat, qF x = qV (rQ x) from fun _ => rfl] at hld1 hld2
    generalize rQ (T[k]'(by omega)) = q1 at *
    generalize rQ (U[k]'(by omega)) = q2 at *
    obtain ⟨s1, u1, v1⟩ := q1
    obtain ⟨s2, u2, v2⟩ := q2
    dsimp only [qV, qA] at hld1 hld2 hcm
    all_goals (refine go ?_; and_intros <;> (try exact trivial) <;> repeat (first | refine fun (Bk : Nat) => ?_ | intro h))
    repeat' ((first | (apply G.ld; rfl; exact hld1 (by exact mm); rfl) | (apply G.ld; rfl; exact hld2 (by exact mm); rfl) | (apply G.cV (g := 16); rfl; rfl; exact fun w' _ => hcm w')) <;> (refine go ?_; and_intros <;> (try exact trivial) <;> repeat (first | refine fun (Bk : Nat) => ?_ | intro h)))
    exact J.finS ihN
  obtain rfl : k = L.length := by omega
  clear ih hU1 hU2 hU3 hU4 w1 w3 w4
  have hGg : ∀ k (h : k < Gs.length), rQ (qR Gs[k]) = Gs[k] := fun k h => (good_q ((supE_ok (rgtE_ok f6).1).2.2 _ (List.getElem_mem h))).1
  have hGb : ∀ k (h : k < Gs.length), big (qR Gs[k]) := fun k h => fewQ.big (k := 20) (by rw [hGg k h]; exact f4 _ (List.getElem_mem _)) (by decide)
  have hmb : big mq := hfq.big (by decide)
  have hLg : ∀ k (h : k < L.length), rQ (qR L[k].am) = L[k].am := fun k h => (good_q (clmE_ok (clmsE_ok (rgtE_ok f6).2.2 _ (List.getElem_mem h))).2).1
  have hLb : ∀ k (h : k < L.length), big (qR L[k].am) := fun k h => fewQ.big (k := 20) (by rw [hLg k h]; exact f5 _ (List.getElem_mem _)) (by decide)
  obtain ⟨SG, SC, hSl, hCl, hSg, hCg, hscl⟩ : ∃ (SG : List Q3) (SC : List Clm), SG.length = Gs.length ∧ SC.length = L.length ∧ (∀ k (h : k < Gs.length) (h2 : k < SG.length), SG[k] = rQ (qR Gs[k] * mq)) ∧ (∀ k (h : k < L.length) (h2 : k < SC.length), SC[k] = ⟨L[k].pl, L[k].rk, rQ (qR L[k].am * mq)⟩) ∧
      ∀ a c la' lc' w', Below w.heap.size w w' → SlAt w' a 3 (SG.map qV) → SlAt w' la' 5 (SC.map clV) → Calls Tryz.prog 14 #[.agg #[.slice ra R.length rc, .slice a Gs.length c], .slice la' L.length lc'] w' (RetQ (fun v => .tuple #[v, .int .i64 0]) w' (T.map (· * mq))) := by
    have hSl : (sclG Gs mq).length = Gs.length := by rw [sclG, List.length_map]
    have hCl : (sclC L mq).length = L.length := by rw [sclC, List.length_map]
    have hsc := scl_few f6 f4 f5 hfq
    have hse := scl_err f6 m2
    have hsa := scl_fair hTl m4 hf
    refine ⟨sclG Gs mq, sclC L mq, hSl, hCl, fun k h _ => by simp only [sclG, List.getElem_map], fun k h _ => by simp only [sclC, List.getElem_map], ?_⟩
    intro a c la' lc' w' hb h1 h2
    have h3 : Arg w' ra R a (sclG Gs mq) la' (sclC L mq) := ⟨⟨hS.riv.below hb, hS.ker.below hb, h1⟩, h2, hsc.1, hsc.2, by omega, by omega⟩
    have hLm : Lim R (sclG Gs mq) (sclC L mq) := fun _ => ⟨f1, by omega⟩
    have e := h3.one hse hLm (T := T.map (· * mq)) (by rw [List.length_map, hCl]; exact hTl) hsa
    have h4 := h3.vAllot hLm (fun _ n hn => sorts n _ hn (by omega)) rc c lc' w' (Below.refl _ _)
    rw [e, hSl, hCl] at h4
    exact h4
  have hsf := fun a b c d w' (X : List Rat) (h : X.length = L.length) hA hB => sameF_holds a b X c d w' hA hB (by omega)
  all_goals (refine goR ?_; and_intros <;> (try exact trivial) <;> repeat (first | refine fun (Bk : Nat) => ?_ | intro h))
  repeat' ((first | exact absurd rfl ‹_› | (apply J.regQ; exact Tryz.mixed; decide +kernel) | (apply J.regL'; exact Tryz.mixed; decide +kernel)) <;> (refine goR ?_; and_intros <;> (try exact trivial) <;> repeat (first | refine fun (Bk : Nat) => ?_ | intro h)))
  revert Bk; intro B16
  apply J.nilOwn (E := 29) (size := 3)
  refine J.loop (c := _) ((0, .slice none 0 0) : Nat × Value) (fun s => Gs.length - s.1) (fun s => [(1, .slice la L.length lc), (4, .pointer (some ⟨B4, 0, none⟩)), (6, .pointer (some ⟨B6, 0, none⟩)), (7, .pointer (some ⟨B7, 0, none⟩)), (9, .slice a1 L.length c1), (16, .pointer (some ⟨B16, 0, none⟩)), (139, .slice ga Gs.length gc), (140, .int .i64 Gs.length), (141, .int .i64 s.1)]) (fun s => [.own 0 s.2 29 3 s.1 (flat qV (SG.take s.1)), .blk B16 25 [.slice ra R.length rc, s.2] 2, slRow w.heap.size a1 3 (T.map qF), .blk B7 29 [.bool false, .string (bs u0), .string (bs v0)] 3, .blk B6 27 [.int .u8 n0, .int .u8 n1] 2, .blk B4 25 [.slice ra R.length rc, .slice ga Gs.length gc] 2]) (fun s => s.1 ≤ Gs.length) ?_ sbT sbL ?_
  · exact Nat.zero_le _
  intro ⟨k, z⟩ k1 ih
  dsimp only at k1 ⊢
  by_cases hk : k < Gs.length
  · have ihN := fun z => ih (k + 1, z) hk (by dsimp only; omega)
    dsimp only at ihN
    obtain ⟨bg, og, rfl, hrg⟩ := SlAt.all hgl (by omega)
    have hr1 := hrg k hk
    have ha1 : flat qV (SG.take k) ++ qV (SG[k]'(by omega)) = flat qV (SG.take (k + 1)) := by rw [List.take_succ_eq_append_getElem (by omega)]; exact flat1 qV _ _
    have hmu := vMul (hGb k hk) hmb
    rw [hGg k hk, m1, ← hSg k hk (by omega)] at hmu
    clear ih hrg hSg hGg hGb hCg hLg hLb hscl hsf
    generalize (SG[k]'(by omega)) = q1 at *
    generalize (Gs[k]'(by omega)) = q2 at *
    obtain ⟨s1, u1, v1⟩ := q1
    obtain ⟨s2, u2, v2⟩ := q2
    dsimp only [qV, qA] at hmu ha1 hr1
    all_goals (refine goR ?_; and_intros <;> (try exact trivial) <;> repeat (first | refine fun (Bk : Nat) => ?_ | intro h))
    repeat' ((first | (apply J.regA (.q 0 <| .q 1 <| .q 2 <| .q 3 <| .q 4 <| .e 5 <| .r 6 <| .q 7 <| .r 8 <| .nil); exact Tryz.mixed; decide +kernel) | (apply G.sliceL; rfl; rfl; rfl; rfl; rfl; rfl; rfl; rfl; intro Bs) | (apply G.cV (g := 17); rfl; rfl; exact fun w' _ => hmu w') | (apply G.ap; rfl; rfl; rfl; (repeat (first | exact RAt.head | apply RAt.tail)); exact SrcV.blk (by exact mm) rfl rfl; exact ha1; omega; omega; intro v3; refine G.ownFormA (base := 0) (v := v3) (by exact mm) ?_; intro a4 c4 e4; subst e4) | (apply J.regQ; exact Tryz.mixed; decide +kernel) | (apply J.regL'; exact Tryz.mixed; decide +kernel)) <;> (refine goR ?_; and_intros <;> (try exact trivial) <;> repeat (first | refine fun (Bk : Nat) => ?_ | intro h)))
    exact J.finS (ihN _)
  obtain rfl : k = Gs.length := by omega
  clear ih hSg hGg hGb
  rw [List.take_of_length_le (Nat.le_of_eq hSl)]
  apply J.ownForm (i := 0) rfl
  intro ag cg hug
  subst hug
  obtain ⟨TM, hTM, hTMl, hTMg⟩ : ∃ TM, T.map (· * mq) = TM ∧ TM.length = L.length ∧ ∀ k (h : k < T.length) (h2 : k < TM.length), TM[k] = T[k] * mq := ⟨_, rfl, by rw [List.length_map]; exact hTl, fun k h h2 => List.getElem_map ..⟩
  rw [hTM] at hscl
  clear hTM
  all_goals (refine goR ?_; and_intros <;> (try exact trivial) <;> repeat (first | refine fun (Bk : Nat) => ?_ | intro h))
  repeat' ((first | exact absurd rfl ‹_› | (apply J.regQ; exact Tryz.mixed; decide +kernel) | (apply J.regL'; exact Tryz.mixed; decide +kernel)) <;> (refine goR ?_; and_intros <;> (try exact trivial) <;> repeat (first | refine fun (Bk : Nat) => ?_ | intro h)))
  refine J.ownSlF (f := qV) (fun _ => rfl) (by (repeat (first | exact Pick.head | apply Pick.tail))) hSl ?_
  apply J.nilOwn (E := 29) (size := 3)
  apply J.nilOwn (E := 40) (size := 5)
  refine J.loop (c := _) ((0, .slice none 0 0, .slice none 0 0) : Nat × Value × Value) (fun s => L.length - s.1) (fun s => [(1, .slice la L.length lc), (4, .pointer (some ⟨B4, 0, none⟩)), (6, .pointer (some ⟨B6, 0, none⟩)), (7, .pointer (some ⟨B7, 0, none⟩)), (9, .slice a1 L.length c1), (16, .pointer (some ⟨B16, 0, none⟩)), (19, s.2.1), (20, s.2.2), (154, .slice la L.length lc), (155, .int .i64 L.length), (156, .int .i64 s.1)]) (fun s => [.own 0 s.2.1 40 5 s.1 (flat clV (SC.take s.1)), .own 0 s.2.2 29 3 s.1 (flat qF (TM.take s.1)), slRow w.heap.size ag 3 (SG.map qV), .blk B16 25 [.slice ra R.length rc, .slice ag Gs.length cg] 2, slRow w.heap.size a1 3 (T.map qF), .blk B7 29 [.bool false, .string (bs u0), .string (bs v0)] 3, .blk B6 27 [.int .u8 n0, .int .u8 n1] 2, .blk B4 25 [.slice ra R.length rc, .slice ga Gs.length gc] 2]) (fun s => s.1 ≤ L.length) ?_ sbT sbL ?_
  · exact Nat.zero_le _
  intro ⟨k, z1, z2⟩ k1 ih
  dsimp only at k1 ⊢
  by_cases hk : k < L.length
  · have ihN := fun z1 z2 => ih (k + 1, z1, z2) hk (by dsimp only; omega)
    dsimp only at ihN
    obtain ⟨bl, ol, rfl, hrl⟩ := SlAt.all hL (by omega)
    obtain ⟨b1, x1, rfl⟩ := hp1 (by rw [List.length_map]; omega)
    have hr1 := hrl k hk
    have ha1 : flat clV (SC.take k) ++ clV (SC[k]'(by omega)) = flat clV (SC.take (k + 1)) := by rw [List.take_succ_eq_append_getElem (by omega)]; exact flat1 clV _ _
    have ha2 : flat qF (TM.take k) ++ qF (TM[k]'(by omega)) = flat qF (TM.take (k + 1)) := by rw [List.take_succ_eq_append_getElem (by omega)]; exact flat1 qF _ _
    rw [hCg k hk (by omega)] at ha1
    rw [hTMg k (by omega) (by omega), show ∀ x : Rat, qF x = qV (rQ x) from fun _ => rfl] at ha2
    have hm1 := vMul (hLb k hk) hmb
    have hm2 := vMul (hTb (T[k]'(by omega)) (List.getElem_mem _)) hmb
    rw [hLg k hk, m1] at hm1
    rw [m1] at hm2
    have hld1 := fun {C : Ctx} {M} [TAgg C.P 29 3] (hm : slRow w.heap.size (some ⟨b1, x1, none⟩) 3 (T.map qF) ∈ M) => LdV.aggSl (C := C) (M := M) (T := 29) (f := qF) (l := T) hm (i := k) (by omega) rfl
    rw [show ∀ x : Rat, qF x = qV (rQ x) from fun _ => rfl] at hld1
    clear ih hrl hLg hLb hscl hsf hCg hTMg hp1
    generalize rQ (qR L[k].am * mq) = q1 at *
    generalize rQ ((T[k]'(by omega)) * mq) = q2 at *
    generalize rQ (T[k]'(by omega)) = q3 at *
    generalize L[k] = cl at *
    obtain ⟨pl, rk, s4, u4, v4⟩ := cl
    obtain ⟨s1, u1, v1⟩ := q1
    obtain ⟨s2, u2, v2⟩ := q2
    obtain ⟨s3, u3, v3⟩ := q3
    dsimp only [qV, qA, clV] at hm1 hm2 ha1 ha2 hr1 hld1
    all_goals (refine goR ?_; and_intros <;> (try exact trivial) <;> repeat (first | refine fun (Bk : Nat) => ?_ | intro h))
    repeat' ((first | (apply J.regS [.blk _ 40 [.int .i64 pl, .int .i64 rk, .bool s1, .string (bs u1), .string (bs v1)] 5, slRow w.heap.size (some ⟨b1, x1, none⟩) 3 (T.map qF), .blk B7 29 [.bool false, .string (bs u0), .string (bs v0)] 3] (.q 0 <| .q 1 <| .q 4 <| .q 5 <| .q 6 <| .q 7 <| .q 8 <| .q 9 <| .e 2 <| .e 3 <| .q 10 <| .r 11 <| .r 12 <| .q 13 <| .q 14 <| .nil); exact Tryz.mixed; decide +kernel; (repeat' (first | exact List.Sublist.refl _ | apply List.Sublist.cons_cons | apply List.Sublist.cons))) | (apply G.ld; rfl; exact hld1 (by exact mm); rfl) | (apply G.sliceL; rfl; rfl; rfl; rfl; rfl; rfl; rfl; rfl; intro Bs) | (apply G.apSO; rfl; rfl; rfl; (repeat (first | exact RAt.head | apply RAt.tail)); exact SrcV.blk (by exact mm) rfl rfl; (first | exact ha1 | exact ha2); omega; omega; intro v2; refine ⟨by (repeat' (first | exact List.Sublist.refl _ | apply List.Sublist.cons_cons | apply List.Sublist.cons)), ?_⟩) | (apply G.apS; rfl; rfl; rfl; rfl; (repeat (first | exact RAt.head | apply RAt.tail)); exact SrcV.blk (by exact mm) rfl rfl; (first | exact ha1 | exact ha2); omega; omega; intro v2; refine ⟨by (repeat' (first | exact List.Sublist.refl _ | apply List.Sublist.cons_cons | apply List.Sublist.cons)), ?_⟩) | (apply G.ap; rfl; rfl; rfl; (repeat (first | exact RAt.head | apply RAt.tail)); exact SrcV.blk (by exact mm) rfl rfl; (first | exact ha1 | exact ha2); omega; omega; intro v3) | (apply G.cV (g := 17) (d := 164); rfl; rfl; exact fun w' _ => hm1 w') | (apply G.cV (g := 17) (d := 176); rfl; rfl; exact fun w' _ => hm2 w') | (apply J.regQ; exact Tryz.mixed; decide +kernel) | (apply J.regL'; exact Tryz.mixed; decide +kernel)) <;> (refine goR ?_; and_intros <;> (try exact trivial) <;> repeat (first | refine fun (Bk : Nat) => ?_ | intro h)))
    exact J.finS (ihN _ _)
  obtain rfl : k = L.length := by omega
  rw [List.take_of_length_le (Nat.le_of_eq hCl), List.take_of_length_le (Nat.le_of_eq hTMl)]
  apply J.ownForm (i := 0) rfl
  intro ac cc huc
  subst huc
  apply J.ownForm (i := 1) rfl
  intro aw cw huw
  subst huw
  have hscl := fun a c la' lc' w' hb h1 h2 => (hscl a c la' lc' w' hb h1 h2).mono fun e w2 h => RetQ.len hTMl h
  have hs1 := fun a b c d w' hA hB => hsf a b c d w' TM hTMl hA hB
  rw [hTMl] at hs1
  clear ih hLg hLb hCg hTMg hsf
  by_cases hm0 : L.length = 0
  · skip
    all_goals (refine go ?_; and_intros <;> (try exact trivial) <;> repeat (first | refine fun (Bk : Nat) => ?_ | intro h))
    repeat' ((first | (apply G.cV (g := 13); rfl; rfl; exact fun w' _ => hsan w') | (apply G.cN (g := 14) (d := 183) (fun a' c' => .tuple #[.slice a' L.length c', .int .i64 0]) (TM.map qF); rfl; rfl; exact fun w' hw' => hscl _ _ _ _ w' hw'.below (hw'.sl (by exact mm)) (satOC hw' (by exact mm) hCl); intro a5 c5 hp5 hq5) | (apply G.cV (g := 18) (d := 191); rfl; rfl; exact fun w' hw' => hs1 _ _ _ _ w' (hw'.sl (by exact mm)) (satOF hw' (by exact mm) hTMl))) <;> (refine go ?_; and_intros <;> (try exact trivial) <;> repeat (first | refine fun (Bk : Nat) => ?_ | intro h)))
    all_goals refine ret1b Tryz.func3 Tryz.results3 ?_
    all_goals rfl
  obtain ⟨o, ho⟩ : ∃ o, n1 % L.length = o := ⟨_, rfl⟩
  have hoL : o < L.length := by rw [← ho]; exact Nat.mod_lt _ (by omega)
  have hom : ((o : Nat) : Int) = ((n1 : Int) % (L.length : Int)) := by rw [← ho, Int.natCast_emod]
  obtain ⟨W, hW1, hW2, hW3, hW4⟩ : ∃ W : List Rat, W.length = L.length - 1 ∧ (∀ t ∈ W, big t) ∧ (∀ k (k1 : k < (T.eraseIdx o).length) (k2 : k < W.length), (T.eraseIdx o)[k] ≤ W[k]) ∧ ∀ a c w', Below w.heap.size w w' → SlAt w' a 5 ((L.eraseIdx o).map clV) → Calls Tryz.prog 14 #[.agg #[.slice ra R.length rc, .slice ga Gs.length gc], .slice a (L.length - 1) c] w' (RetQ (fun v => .tuple #[v, .int .i64 0]) w' W) := by
    have hel : (L.eraseIdx o).length = L.length - 1 := by rw [List.length_eraseIdx, if_pos hoL]
    have hm : ∀ c ∈ L.eraseIdx o, c ∈ L := fun c hc => List.mem_of_mem_eraseIdx hc
    have h00 := era_err o f6
    have hAl2 : Alo R (Gs.map qR) ((L.eraseIdx o).map cmO) := ⟨hAl.n, by rw [List.length_map]; omega, hAl.g, fun x hx => by
      obtain ⟨c, hc, rfl⟩ := List.mem_map.1 hx
      exact hAl.a _ (List.mem_map_of_mem (hm c hc))⟩
    have hsb : ∀ c ∈ (L.eraseIdx o).map cmO, c ∈ L.map cmO := fun x hx => by
      obtain ⟨c, hc, rfl⟩ := List.mem_map.1 hx
      exact List.mem_map_of_mem (hm c hc)
    have o3' : ClOk R.length ((L.eraseIdx o).map cmO) := ⟨by rw [List.length_map]; omega, fun c hc => o3.pl c (hsb c hc), fun c hc => o3.rk c (hsb c hc), fun c hc => o3.nn c (hsb c hc), fun c hc => o3.few c (hsb c hc)⟩
    have hsv2 := srv_all hAl2 o1 o3'
    have hf2 := all_fair hAl2 o1 o3'
    have hUl := allT_len (R := R) (Gs := Gs.map qR) (L := (L.eraseIdx o).map cmO) 101
    refine ⟨allT R (Gs.map qR) ((L.eraseIdx o).map cmO) 101, by rw [hUl, List.length_map, hel], fun t ht => (hsv2.tk t ht).big (by decide), ?_, fun a c w' hb h => ?_⟩
    · rw [← map_erase] at hf2 hUl ⊢
      exact fair_less (wyR (riv_of o1.riv)) (L := L.map cmO) (by rw [List.length_map]; exact hoL) (by rw [List.length_map]; exact hTl) hUl hf hf2
    have h := hA.below hb
    have h2 : Arg w' ra R ga Gs a (L.eraseIdx o) := ⟨h.sup, ‹SlAt w' a 5 _›, h.gf, fun c hc => h.cf c (hm c hc), h.len.1, by omega⟩
    have hLim2 : Lim R Gs (L.eraseIdx o) := fun _ => ⟨f1, by omega⟩
    have h3 := h2.vAllot hLim2 (fun _ n hn => sorts n _ hn (by omega)) rc gc c w' (Below.refl _ _)
    rw [allR, if_neg (not_not_intro h00), hel] at h3
    exact h3
  clear hf hsv hva hA hLim hAl o1 o2 o3 o4 hS
  all_goals (refine goR ?_; and_intros <;> (try exact trivial) <;> repeat (first | refine fun (Bk : Nat) => ?_ | intro h))
  repeat' ((first | (apply G.cN (g := 14) (d := 183) (fun a' c' => .tuple #[.slice a' L.length c', .int .i64 0]) (TM.map qF); rfl; rfl; exact fun w' hw' => hscl _ _ _ _ w' hw'.below (hw'.sl (by exact mm)) (satOC hw' (by exact mm) hCl); intro a5 c5 hp5 hq5) | (apply G.cV (g := 18) (d := 191); rfl; rfl; exact fun w' hw' => hs1 _ _ _ _ w' (hw'.sl (by exact mm)) (satOF hw' (by exact mm) hTMl)) | (apply G.indexArr (i := 1) (o' := 1); rfl; rfl; rfl; omega; rfl; rfl; rfl; rfl) | (apply J.regQ; exact Tryz.mixed; decide +kernel) | (apply J.regL'; exact Tryz.mixed; decide +kernel)) <;> (refine goR ?_; and_intros <;> (try exact trivial) <;> repeat (first | refine fun (Bk : Nat) => ?_ | intro h)))
  rw [← hom]
  have hsr : ∀ p n (_ : p + n ≤ L.length) (C : Ctx) (M : List Row) (_ : C.w0 = w), SrcV C M (subA la lc p 5) n 5 (flat clV ((L.drop p).take n)) := fun p n hp C M hC => by
    have h := SrcV.old (C := C) (M := M) (f := clV) (l := (L.drop p).take n) (a := subA la lc p 5) (sz := 5) (fun _ => rfl) (fun _ => rfl) (by rw [hC]; exact slSub hL hlc hp)
    rwa [List.length_take, List.length_drop, Nat.min_eq_left (by omega)] at h
  have hlen : 0 + o + (L.length - (o + 1)) = L.length - 1 := by omega
  have hcat : ([] ++ flat clV ((L.drop 0).take o)) ++ flat clV ((L.drop (o + 1)).take (L.length - (o + 1))) = flat clV (L.eraseIdx o) := by
    rw [List.nil_append, List.drop_zero, List.take_of_length_le (by rw [List.length_drop]; omega : (L.drop (o + 1)).length ≤ L.length - (o + 1)), List.eraseIdx_eq_take_drop_succ]
    exact (flat_append clV _ _).symm
  have hom1 : ((o : Nat) : Int) + 1 = ((o + 1 : Nat) : Int) := rfl
  clear hL hom
  have hW4 := fun a c w' hb h1 => (hW4 a c w' hb h1).mono fun e w2 h => RetQ.len hW1 h
  have hel : (L.eraseIdx o).length = L.length - 1 := by rw [List.length_eraseIdx, if_pos hoL]
  have htl : (T.eraseIdx o).length = L.length - 1 := by rw [List.length_eraseIdx, if_pos (by omega), hTl]
  all_goals (refine goR ?_; and_intros <;> (try exact trivial) <;> repeat (first | refine fun (Bk : Nat) => ?_ | intro h))
  repeat' ((first | (apply J.regS [] (.q 1 <| .q 2 <| .q 3 <| .q 5 <| .q 6 <| .q 7 <| .q 8 <| .e 0 <| .e 4 <| .r 9 <| .q 10 <| .nil); exact Tryz.mixed; decide +kernel; exact List.nil_sublist _) | (apply G.slE; rfl; intro Be) | (apply G.sliceTo (h := o); rfl; rfl; rfl; omega; rfl; rfl; rfl) | (apply G.sliceFrom (l := o + 1); rfl; rfl; exact hom1; omega; rfl; rfl; rfl) | (apply G.apSF; rfl; rfl; rfl; (repeat (first | exact RAt.head | apply RAt.tail)); exact hsr 0 o (by omega) _ _ rfl; rfl; omega; omega; intro v'; exact List.nil_sublist _; intro v'; exact mm; intro a2 c2) | (apply G.ap; rfl; rfl; rfl; (repeat (first | exact RAt.head | apply RAt.tail)); exact hsr (o + 1) (L.length - (o + 1)) (by omega) _ _ rfl; exact hcat; omega; omega; rw [hlen]; intro v2; refine G.ownFormA (base := 0) (v := v2) (by exact mm) ?_; intro a4 c4 e4; subst e4) | (apply G.cN (g := 14) (d := 217) (fun a' c' => .tuple #[.slice a' (L.length - 1) c', .int .i64 0]) (W.map qF); rfl; rfl; exact fun w' hw' => hW4 _ _ w' hw'.below (satOC hw' (by exact mm) hel); intro a7 c7 hp7 hq7) | (apply J.regQ; exact Tryz.mixed; decide +kernel) | (apply J.regL'; exact Tryz.mixed; decide +kernel)) <;> (refine goR ?_; and_intros <;> (try exact trivial) <;> repeat (first | refine fun (Bk : Nat) => ?_ | intro h)))
  clear hs1 hscl hsr hcat hlen hp5 hq5 hp3 hq3
  refine J.loop (c := _) (0 : Nat) (fun s => L.length - 1 - s) (fun s => [(9, .slice a1 L.length c1), (25, .int .i64 (o : Nat)), (27, .slice a7 (L.length - 1) c7), (230, .int .i64 (L.length - 1 : Nat)), (231, .int .i64 s)]) (fun s => [slRow w.heap.size a7 3 (W.map qF), slRow w.heap.size a1 3 (T.map qF)]) (fun s => s ≤ L.length - 1) ?_ sbT sbL ?_
  · exact Nat.zero_le _
  intro k k1 ih
  by_cases hk : k < L.length - 1
  · have ihN := ih (k + 1) hk (by omega)
    obtain ⟨b1, x1, rfl⟩ := hp1 (by rw [List.length_map]; omega)
    obtain ⟨b7, x7, rfl⟩ := hp7 (by rw [List.length_map]; omega)
    have hle := hW3 k (by omega) (by omega)
    rw [List.getElem_eraseIdx] at hle
    have hld2 := fun {C : Ctx} {M} [TAgg C.P 29 3] (hm : slRow w.heap.size (some ⟨b7, x7, none⟩) 3 (W.map qF) ∈ M) => LdV.aggSl (C := C) (M := M) (T := 29) (f := qF) (l := W) hm (i := k) (by omega) rfl
    have hld1 := fun {C : Ctx} {M} [TAgg C.P 29 3] (hm : slRow w.heap.size (some ⟨b1, x1, none⟩) 3 (T.map qF) ∈ M) => LdV.aggSl (C := C) (M := M) (T := 29) (f := qF) (l := T) hm (i := k) (by omega) rfl
    have hld3 := fun {C : Ctx} {M} [TAgg C.P 29 3] (hm : slRow w.heap.size (some ⟨b1, x1, none⟩) 3 (T.map qF) ∈ M) => LdV.aggSl (C := C) (M := M) (T := 29) (f := qF) (l := T) hm (i := k + 1) (by omega) rfl
    have hbW := hW2 _ (List.getElem_mem (show k < W.length by omega))
    have hcm1 := vCmp hbW (hTb _ (List.getElem_mem (show k < T.length by omega)))
    have hcm2 := vCmp hbW (hTb _ (List.getElem_mem (show k + 1 < T.length by omega)))
    rw [show ∀ x : Rat, qF x = qV (rQ x) from fun _ => rfl] at hld1 hld2 hld3
    clear ih
    by_cases hko : k < o
    · rw [dif_pos hko] at hle
      have hsg := sgn_nn hle
      clear hle hcm2 hld3
      generalize sgnR (W[k]'(by omega) - T[k]'(by omega)) = sg at *
      generalize rQ (T[k]'(by omega)) = q1 at *
      generalize rQ (W[k]'(by omega)) = q2 at *
      obtain ⟨s1, u1, v1⟩ := q1
      obtain ⟨s2, u2, v2⟩ := q2
      dsimp only [qV, qA] at hld1 hld2 hcm1
      all_goals (refine go ?_; and_intros <;> (try exact trivial) <;> repeat (first | refine fun (Bk : Nat) => ?_ | intro h))
      repeat' ((first | (apply G.ld; rfl; exact hld1 (by exact mm); rfl) | (apply G.ld; rfl; exact hld2 (by exact mm); rfl) | (apply G.cV (g := 16); rfl; rfl; exact fun w' _ => hcm1 w')) <;> (refine go ?_; and_intros <;> (try exact trivial) <;> repeat (first | refine fun (Bk : Nat) => ?_ | intro h)))
      exact J.finS ihN
    · rw [dif_neg hko] at hle
      have hsg := sgn_nn hle
      clear hle hcm1
      generalize sgnR (W[k]'(by omega) - T[k + 1]'(by omega)) = sg at *
      generalize rQ (T[k]'(by omega)) = q1 at *
      generalize rQ (T[k + 1]'(by omega)) = q3 at *
      generalize rQ (W[k]'(by omega)) = q2 at *
      obtain ⟨s1, u1, v1⟩ := q1
      obtain ⟨s2, u2, v2⟩ := q2
      obtain ⟨s3, u3, v3⟩ := q3
      dsimp only [qV, qA] at hld1 hld2 hld3 hcm2
      all_goals (refine go ?_; and_intros <;> (try exact trivial) <;> repeat (first | refine fun (Bk : Nat) => ?_ | intro h))
      repeat' ((first | (apply G.ix (i := k + 1); rfl; rfl; rfl; omega; rfl) | (apply G.ld; rfl; exact hld1 (by exact mm); rfl) | (apply G.ld; rfl; exact hld2 (by exact mm); rfl) | (apply G.ld; rfl; exact hld3 (by exact mm); rfl) | (apply G.cV (g := 16); rfl; rfl; exact fun w' _ => hcm2 w')) <;> (refine go ?_; and_intros <;> (try exact trivial) <;> repeat (first | refine fun (Bk : Nat) => ?_ | intro h)))
      exact J.finS ihN
  obtain rfl : k = L.length - 1 := by omega
  clear ih
  all_goals (refine go ?_; and_intros <;> (try exact trivial) <;> repeat (first | refine fun (Bk : Nat) => ?_ | intro h))
  repeat' ((first | (apply G.cV (g := 13); rfl; rfl; exact fun w' _ => hsan w')) <;> (refine go ?_; and_intros <;> (try exact trivial) <;> repeat (first | refine fun (Bk : Nat) => ?_ | intro h)))
  all_goals refine ret1b Tryz.func3 Tryz.results3 ?_
  all_goals rfl
end Go.Proofs.YtcdgibkbbcekhaaGreatDoor
