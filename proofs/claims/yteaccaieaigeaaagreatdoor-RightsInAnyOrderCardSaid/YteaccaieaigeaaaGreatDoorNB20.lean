/-
  Plain laws of rights: claims in another order.
-/
import Derived.Test.YteaccaieaigeaaaGreatDoorNB19
set_option linter.unusedVariables false
set_option linter.unusedSimpArgs false
set_option linter.unusedSectionVars false
namespace Go.Proofs.YteaccaieaigeaaaGreatDoor
open Go.RowKit Go.Sl Go.Num
theorem clmsE_all {n : Nat} : ∀ {L : List Clm}, (∀ c ∈ L, clmE n c = 0) → clmsE n L = 0
  | [], _ => rfl
  | c :: L, h => by rw [clmsE, if_neg (not_not_intro (h c (.head _))), clmsE_all fun x hx => h x (.tail _ hx)]
theorem rgtE_sub {R : List Rch} {Gs : List Q3} {L L' : List Clm} (h : rgtE R Gs L = 0) (hs : ∀ c ∈ L', c ∈ L) (hl : L'.length ≤ 200) : rgtE R Gs L' = 0 := by
  obtain ⟨h1, h2, h3⟩ := rgtE_ok h
  rw [rgtE, if_neg (not_not_intro h1), if_neg (by omega)]
  exact clmsE_all fun c hc => clmsE_ok h3 c (hs c hc)
theorem Arg.one {w : World} {ra : Option Addr} {R : List Rch} {ga : Option Addr} {Gs : List Q3} {la : Option Addr} {L : List Clm} (hA : Arg w ra R ga Gs la L) (h0 : rgtE R Gs L = 0) (hl : Lim R Gs L) {T : List Rat} (h1 : T.length = L.length) (hf : Fair (onR R) R.length (fsq (Gs.map qR)) ((L.map cmO).zip T)) : allR R Gs L = (T, 0) := by
  obtain ⟨o1, o2, o3, o4⟩ := hA.ok h0
  rw [allR, if_neg (not_not_intro h0), ← all_one (hA.alo h0 hl) o1 o3 (by rw [List.length_map]; exact h1) hf]
/-! ### chosen places -/
def noC : Clm := ⟨0, 0, zero3⟩
def sel (L : List Clm) (j : Nat → Nat) (k : Nat) : List Clm := (List.range k).map fun i => L.getD (j i) noC
theorem sel_len (L : List Clm) (j : Nat → Nat) (k : Nat) : (sel L j k).length = k := by rw [sel, List.length_map, List.length_range]
theorem sel_succ {L : List Clm} {j : Nat → Nat} {k : Nat} (h : j k < L.length) : sel L j (k + 1) = sel L j k ++ [L[j k]] := by
  rw [sel, List.range_succ, List.map_append, List.map_cons, List.map_nil, List.getD_eq_getElem?_getD, List.getElem?_eq_getElem h]; rfl
theorem sel_mem {L : List Clm} {j : Nat → Nat} {k : Nat} (h : ∀ i, i < k → j i < L.length) : ∀ c ∈ sel L j k, c ∈ L := fun c hc => by
  obtain ⟨i, hi, rfl⟩ := List.mem_map.1 hc
  rw [List.getD_eq_getElem?_getD, List.getElem?_eq_getElem (h i (List.mem_range.1 hi))]
  exact List.getElem_mem _
theorem sel_perm {L : List Clm} {T : List Rat} {j : Nat → Nat} (h1 : T.length = L.length) (hI : ((List.range L.length).map j).Perm (List.range L.length)) : (((sel L j L.length).map cmO).zip (gl L.length fun i => fsq T (j i))).Perm ((L.map cmO).zip T) := by
  have e1 : ((sel L j L.length).map cmO).zip (gl L.length fun i => fsq T (j i)) = ((List.range L.length).map j).map fun i => (cmO (L.getD i noC), fsq T i) := by
    rw [sel, gl, List.map_map, List.map_map]
    exact List.zip_map'
  have e2 : (List.range L.length).map (fun i => (cmO (L.getD i noC), fsq T i)) = (L.map cmO).zip T := by
    apply List.ext_getElem
    · simp only [List.length_map, List.length_range, List.length_zip]; omega
    · intro i q1 q2
      rw [List.length_map, List.length_range] at q1
      simp only [List.getElem_map, List.getElem_range, List.getElem_zip]
      rw [List.getD_eq_getElem?_getD, List.getElem?_eq_getElem q1, fsq_lt (by omega)]; rfl
  rw [e1, ← e2]
  exact hI.map _
theorem rev_perm (m : Nat) : ((List.range m).map fun k => m - 1 - k).Perm (List.range m) := by
  have : ((List.range m).map fun k => m - 1 - k) = (List.range m).reverse := by
    apply List.ext_getElem
    · simp
    · intro i q1 q2
      simp only [List.getElem_map, List.getElem_range, List.getElem_reverse, List.length_range]
  rw [this]
  exact List.reverse_perm _
theorem rot_perm (m n : Nat) (hm : 0 < m) : ((List.range m).map fun k => (k + n) % m).Perm (List.range m) := by
  have hr : n % m < m := Nat.mod_lt _ hm
  have : ((List.range m).map fun k => (k + n) % m) = (List.range m).drop (n % m) ++ (List.range m).take (n % m) := by
    apply List.ext_getElem
    · simp only [List.length_map, List.length_range, List.length_append, List.length_drop, List.length_take]; omega
    · intro i q1 q2
      rw [List.length_map, List.length_range] at q1
      simp only [List.getElem_map, List.getElem_range]
      rw [Nat.add_mod, Nat.mod_eq_of_lt q1, List.getElem_append]
      split
      · rename_i h
        rw [List.length_drop, List.length_range] at h
        rw [List.getElem_drop, List.getElem_range, Nat.mod_eq_of_lt (by omega)]; omega
      · rename_i h
        rw [List.length_drop, List.length_range] at h
        rw [List.getElem_take, List.getElem_range, Nat.mod_eq_sub_mod (by omega), Nat.mod_eq_of_lt (by omega), List.length_drop, List.length_range]; omega
  rw [this]
  refine List.perm_append_comm.trans ?_
  rw [List.take_append_drop]
end Go.Proofs.YteaccaieaigeaaaGreatDoor
/-
  The law RightsInAnyOrder.
-/
namespace Go.Proofs.YteaccaieaigeaaaGreatDoor
open Go.RowKit Go.Sl Go.Num
theorem Arg.oth {w : World} {ra : Option Addr} {R : List Rch} {ga : Option Addr} {Gs : List Q3} {la : Option Addr} {L : List Clm} (hA : Arg w ra R ga Gs la L) (h0 : rgtE R Gs L = 0) (hn : R.length ≤ 12) (hl : L.length ≤ 20) {T : List Rat} (h1 : T.length = L.length) (hf : Fair (onR R) R.length (fsq (Gs.map qR)) ((L.map cmO).zip T))
    {j : Nat → Nat} (hI : ((List.range L.length).map j).Perm (List.range L.length)) (hj : ∀ i, i < L.length → j i < L.length) (rc gc c : Nat) {a : Option Addr} {w' : World} (hb : Below w.heap.size w w') (hs : SlAt w' a 5 ((sel L j L.length).map clV)) :
    Calls Tryz.prog 13 #[.agg #[.slice ra R.length rc, .slice ga Gs.length gc], .slice a L.length c] w' (RetQ (fun v => .tuple #[v, .int .i64 0]) w' (gl L.length fun i => fsq T (j i))) := by
  have hm := sel_mem (L := L) (j := j) (k := L.length) hj
  have hsl := sel_len L j L.length
  have h := hA.below hb
  have h00 := rgtE_sub (L' := sel L j L.length) h0 hm (by omega)
  have h2 : Arg w' ra R ga Gs a (sel L j L.length) := ⟨h.sup, hs, h.gf, fun c hc => h.cf c (hm c hc), h.len.1, by omega⟩
  have hLim : Lim R Gs (sel L j L.length) := fun _ => ⟨hn, by omega⟩
  have e := h2.one h00 hLim (T := gl L.length fun i => fsq T (j i)) (by rw [gl_len, hsl]) (hf.perm (sel_perm h1 hI).symm)
  have h3 := h2.vAllot hLim (fun _ n hn => sorts n _ hn (by omega)) rc gc c w' (Below.refl _ _)
  rw [e, hsl] at h3
  exact h3
theorem satOC {w0 w : World} {M : List Row} {E base : Nat} {a : Option Addr} {n c : Nat} {L : List Clm} (hw : Sat w0 M w) (hm : Row.own base (.slice a n c) E 5 n (flat clV L) ∈ M) (hn : L.length = n) : SlAt w a 5 (L.map clV) := SlAt.ofOwn (fun _ => rfl) (hw.hold _ hm) hn
theorem satOF {w0 w : World} {M : List Row} {E base : Nat} {a : Option Addr} {n c : Nat} {L : List Rat} (hw : Sat w0 M w) (hm : Row.own base (.slice a n c) E 3 n (flat qF L) ∈ M) (hn : L.length = n) : SlAt w a 3 (L.map qF) := SlAt.ofOwn qF_len (hw.hold _ hm) hn
set_option maxHeartbeats 16000000 in
theorem law6_holds (w : World) (ra : Option Addr) (R : List Rch) (rc : Nat) (ga : Option Addr) (Gs : List Q3) (gc : Nat) (la : Option Addr) (L : List Clm) (lc n : Nat) (hS : SupAt w ra R ga (Gs.map qV)) (hL : SlAt w la 5 (L.map clV)) (hn : n ≤ 255) :
    Calls Tryz.prog 8 #[.agg #[.slice ra R.length rc, .slice ga Gs.length gc], .slice la L.length lc, .int .u8 n] w fun e w' => e = .returned (.bool true) ∧ Below w.heap.size w w' := by
  have hsm := fun w' (hb : Below w.heap.size w w') => small39_holds ra R rc ga Gs gc la L lc w' (hS.below hb) (hL.below hb)
  have hsan := fun w' => sanity39_holds w'
  cases hfe : smallB R Gs L
  · rw [hfe] at hsm
    refine enterA [(0, .agg #[.slice ra R.length rc, .slice ga Gs.length gc]), (1, .slice la L.length lc), (2, .int .u8 n)] Tryz.func8 Tryz.ntmps8 ?_
    all_goals (refine go ?_; and_intros <;> (try exact trivial) <;> repeat (first | refine fun (Bk : Nat) => ?_ | intro h))
    repeat' ((first | (apply G.cV (g := 24); rfl; rfl; exact fun w' hw' => hsm w' hw'.below) | (apply G.cV (g := 10); rfl; rfl; exact fun w' _ => hsan w')) <;> (refine go ?_; and_intros <;> (try exact trivial) <;> repeat (first | refine fun (Bk : Nat) => ?_ | intro h)))
    all_goals refine ret1b Tryz.func8 Tryz.results8 ?_
    all_goals rfl
  by_cases hm0 : L.length = 0
  · rw [hfe] at hsm
    refine enterA [(0, .agg #[.slice ra R.length rc, .slice ga Gs.length gc]), (1, .slice la L.length lc), (2, .int .u8 n)] Tryz.func8 Tryz.ntmps8 ?_
    all_goals (refine go ?_; and_intros <;> (try exact trivial) <;> repeat (first | refine fun (Bk : Nat) => ?_ | intro h))
    repeat' ((first | (apply G.cV (g := 24); rfl; rfl; exact fun w' hw' => hsm w' hw'.below) | (apply G.cV (g := 10); rfl; rfl; exact fun w' _ => hsan w')) <;> (refine go ?_; and_intros <;> (try exact trivial) <;> repeat (first | refine fun (Bk : Nat) => ?_ | intro h)))
    all_goals refine ret1b Tryz.func8 Tryz.results8 ?_
    all_goals rfl
  obtain ⟨hA, hLim⟩ := smallB_arg hS hL hfe
  obtain ⟨f1, f2, f3, f4, f5, f6⟩ := smallB_ok hfe
  rw [hfe] at hsm
  obtain ⟨o1, o2, o3, o4⟩ := hA.ok f6
  have hAl := hA.alo f6 hLim
  have hva := fun w' hb => hA.vAllot hLim (fun _ n hn => sorts n L.length hn (by omega)) rc gc lc w' hb
  have hf := all_fair hAl o1 o3
  have hTl := allT_len (R := R) (Gs := Gs.map qR) (L := L.map cmO) 101
  rw [allR, if_neg (not_not_intro f6)] at hva
  dsimp only at hva
  generalize allT R (Gs.map qR) (L.map cmO) 101 = T at *
  rw [List.length_map] at hTl
  have hv1 := fun c a w' hb hs => hA.oth f6 f1 f2 hTl hf (rev_perm L.length) (fun i hi => by omega) rc gc c (a := a) (w' := w') hb hs
  have hv2 := fun c a w' hb hs => hA.oth f6 f1 f2 hTl hf (rot_perm L.length n (by omega)) (fun i hi => Nat.mod_lt _ (by omega)) rc gc c (a := a) (w' := w') hb hs
  clear hA hLim hf hAl o1 o2 o3 o4 f3 f4 f5 f6 hS
  have e1 : ∀ k, k < L.length → ((L.length : Int) - 1 - (k : Int)) = ((L.length - 1 - k : Nat) : Int) := fun k h => by omega
  have hsf := fun a b c d w' (X : List Rat) (h : X.length = L.length) hA hB => sameF_holds a b X c d w' hA hB (by omega)
  refine enterA [(0, .agg #[.slice ra R.length rc, .slice ga Gs.length gc]), (1, .slice la L.length lc), (2, .int .u8 n)] Tryz.func8 Tryz.ntmps8 ?_
  all_goals (refine go ?_; and_intros <;> (try exact trivial) <;> repeat (first | refine fun (Bk : Nat) => ?_ | intro h))
  repeat' ((first | (apply G.cV (g := 24); rfl; rfl; exact fun w' hw' => hsm w' hw'.below) | (apply G.cN (g := 13) (d := 33) (fun a' c' => .tuple #[.slice a' T.length c', .int .i64 0]) (T.map qF); rfl; rfl; exact fun w' hw' => hva w' hw'.below; intro a1 c1 hp1 hq1)) <;> (refine go ?_; and_intros <;> (try exact trivial) <;> repeat (first | refine fun (Bk : Nat) => ?_ | intro h)))
  revert Bk; intro B3
  apply J.nilOwn (E := 51) (size := 3)
  apply J.nilOwn (E := 54) (size := 5)
  apply J.nilOwn (E := 51) (size := 3)
  apply J.nilOwn (E := 54) (size := 5)
  refine J.loop (c := _) ((0, .slice none 0 0, .slice none 0 0, .slice none 0 0, .slice none 0 0) : Nat × Value × Value × Value × Value) (fun s => L.length - s.1) (fun s => [(1, .slice la L.length lc), (2, .int .u8 n), (3, .pointer (some ⟨B3, 0, none⟩)), (7, .slice a1 T.length c1), (9, s.2.1), (10, s.2.2.2.1), (11, s.2.2.1), (12, s.2.2.2.2), (46, .int .i64 L.length), (47, .int .i64 s.1)]) (fun s => [.own 0 s.2.1 54 5 s.1 (flat clV (sel L (fun k => L.length - 1 - k) s.1)), .own 0 s.2.2.1 51 3 s.1 (flat qF (gl s.1 fun k => fsq T (L.length - 1 - k))), .own 0 s.2.2.2.1 54 5 s.1 (flat clV (sel L (fun k => (k + n) % L.length) s.1)), .own 0 s.2.2.2.2 51 3 s.1 (flat qF (gl s.1 fun k => fsq T ((k + n) % L.length))), slRow w.heap.size a1 3 (T.map qF), .blk B3 25 [.slice ra R.length rc, .slice ga Gs.length gc] 2]) (fun s => s.1 ≤ L.length) ?_ sbT sbL ?_
  · exact Nat.zero_le _
  intro ⟨k, y1, y2, y3, y4⟩ k1 ih
  dsimp only at k1 ⊢
  by_cases hk : k < L.length
  · have i1 : L.length - 1 - k < L.length := by omega
    have i2 : (k + n) % L.length < L.length := Nat.mod_lt _ (by omega)
    have e1 := e1 k hk
    have ha1 : flat clV (sel L (fun k => L.length - 1 - k) k) ++ clV L[L.length - 1 - k] = flat clV (sel L (fun k => L.length - 1 - k) (k + 1)) := by rw [sel_succ (j := fun k => L.length - 1 - k) i1]; exact flat1 clV _ _
    have ha3 : flat clV (sel L (fun k => (k + n) % L.length) k) ++ clV L[(k + n) % L.length] = flat clV (sel L (fun k => (k + n) % L.length) (k + 1)) := by rw [sel_succ (j := fun k => (k + n) % L.length) i2]; exact flat1 clV _ _
    have ha2 : flat qF (gl k fun k => fsq T (L.length - 1 - k)) ++ qF (fsq T (L.length - 1 - k)) = flat qF (gl (k + 1) fun k => fsq T (L.length - 1 - k)) := by rw [gl_succ]; exact flat1 qF _ _
    have ha4 : flat qF (gl k fun k => fsq T ((k + n) % L.length)) ++ qF (fsq T ((k + n) % L.length)) = flat qF (gl (k + 1) fun k => fsq T ((k + n) % L.length)) := by rw [gl_succ]; exact flat1 qF _ _
    have ihN := fun z1 z2 z3 z4 => ih (k + 1, z1, z2, z3, z4) hk (by dsimp only; omega)
    dsimp only at ihN
    obtain ⟨b1, x1, rfl⟩ := hp1 (by rw [List.length_map]; omega)
    obtain ⟨bl, ol, rfl, hrl⟩ := SlAt.all hL (by omega)
    have hr1 := hrl _ i1
    have hr2 := hrl _ i2
    have hld1 := fun {C : Ctx} {M} [TAgg C.P 51 3] (hm : slRow w.heap.size (some ⟨b1, x1, none⟩) 3 (T.map qF) ∈ M) => LdV.aggSl (C := C) (M := M) (T := 51) (f := qF) (l := T) hm (i := L.length - 1 - k) (by omega) rfl
    have hld2 := fun {C : Ctx} {M} [TAgg C.P 51 3] (hm : slRow w.heap.size (some ⟨b1, x1, none⟩) 3 (T.map qF) ∈ M) => LdV.aggSl (C := C) (M := M) (T := 51) (f := qF) (l := T) hm (i := (k + n) % L.length) (by omega) rfl
    rw [fsq_lt (show L.length - 1 - k < T.length by omega)] at ha2
    rw [fsq_lt (show (k + n) % L.length < T.length by omega)] at ha4
    clear ih hrl hva hv1 hv2 hsf hsm hsan hL hp1 hq1 hfe
    have hmod : (((k + n) % L.length : Nat) : Int) = (((k : Int) + (n : Int)) % (L.length : Int)) := by rw [Int.natCast_emod, Int.natCast_add]
    generalize L[L.length - 1 - k] = cA at *
    generalize L[(k + n) % L.length] = cB at *
    rw [show ∀ x : Rat, qF x = qV (rQ x) from fun _ => rfl] at ha2 ha4 hld1 hld2
    generalize rQ T[L.length - 1 - k] = qA' at *
    generalize rQ T[(k + n) % L.length] = qB' at *
    obtain ⟨pA, rA, sA, uA, vA⟩ := cA
    obtain ⟨pB, rB, sB, uB, vB⟩ := cB
    obtain ⟨s1, u1, v1⟩ := qA'
    obtain ⟨s2, u2, v2⟩ := qB'
    dsimp only [clV, qV] at *
    all_goals (refine goR ?_; and_intros <;> (try exact trivial) <;> repeat (first | refine fun (Bk : Nat) => ?_ | intro h))
    repeat' ((first | (apply J.regS [slRow w.heap.size (some ⟨b1, x1, none⟩) 3 (T.map qF)] (.q 0 <| .q 1 <| .q 2 <| .q 3 <| .q 4 <| .q 7 <| .q 8 <| .q 9 <| .q 10 <| .q 11 <| .f 5 (.f 6 (.e 12 <| .r 13 <| .q 14 <| .q 15 <| .nil) 12 (.e 6 <| .r 13 <| .q 14 <| .q 15 <| .nil)) 12 (.e 5 <| .e 6 <| .r 13 <| .q 14 <| .q 15 <| .nil)); exact Tryz.mixed; decide +kernel; (repeat' (first | exact List.Sublist.refl _ | apply List.Sublist.cons_cons | apply List.Sublist.cons))) | (apply G.ix (i := L.length - 1 - k); rfl; rfl; exact e1; exact i1; rfl) | (apply G.ix (i := (k + n) % L.length); rfl; rfl; exact hmod.symm; exact i2; rfl) | (apply G.ix (i := L.length - 1 - k); rfl; rfl; exact e1; (rw [hTl]; exact i1); rfl) | (apply G.ix (i := (k + n) % L.length); rfl; rfl; exact hmod.symm; (rw [hTl]; exact i2); rfl) | (apply G.ld; rfl; exact hld1 (by exact mm); rfl) | (apply G.ld; rfl; exact hld2 (by exact mm); rfl) | (apply G.sliceL; rfl; rfl; rfl; rfl; rfl; rfl; rfl; rfl; intro Bs) | (apply G.forkS) | (apply G.apSO; rfl; rfl; rfl; (repeat (first | exact RAt.head | apply RAt.tail)); exact SrcV.blk (by exact mm) rfl rfl; (first | exact ha1 | exact ha2 | exact ha3 | exact ha4); omega; omega; intro v2; refine ⟨by (repeat' (first | exact List.Sublist.refl _ | apply List.Sublist.cons_cons | apply List.Sublist.cons)), ?_⟩) | (apply G.apS; rfl; rfl; rfl; rfl; (repeat (first | exact RAt.head | apply RAt.tail)); exact SrcV.blk (by exact mm) rfl rfl; (first | exact ha1 | exact ha2 | exact ha3 | exact ha4); omega; omega; intro v2; refine ⟨by (repeat' (first | exact List.Sublist.refl _ | apply List.Sublist.cons_cons | apply List.Sublist.cons)), ?_⟩) | (apply G.ap; rfl; rfl; rfl; (repeat (first | exact RAt.head | apply RAt.tail)); exact SrcV.blk (by exact mm) rfl rfl; (first | exact ha1 | exact ha2 | exact ha3 | exact ha4); omega; omega; intro v3) | (apply J.regQ; exact Tryz.mixed; decide +kernel) | (apply J.regL'; exact Tryz.mixed; decide +kernel)) <;> (refine goR ?_; and_intros <;> (try exact trivial) <;> repeat (first | refine fun (Bk : Nat) => ?_ | intro h)))
    all_goals exact J.finS (ihN _ _ _ _)
  obtain rfl : k = L.length := by omega
  apply J.ownForm (i := 0) rfl
  intro ab cb hub
  apply J.ownForm (i := 1) rfl
  intro ao co huo
  apply J.ownForm (i := 2) rfl
  intro at_ ct hut
  apply J.ownForm (i := 3) rfl
  intro aw cw huw
  subst hub huo hut huw
  have s1 := sel_len L (fun k => L.length - 1 - k) L.length
  have s2 := sel_len L (fun k => (k + n) % L.length) L.length
  have g1 := gl_len L.length fun k => fsq T (L.length - 1 - k)
  have g2 := gl_len L.length fun k => fsq T ((k + n) % L.length)
  have hv1 := fun c a w' hb hs => (hv1 c a w' hb hs).mono fun e w2 h => RetQ.len g1 h
  have hv2 := fun c a w' hb hs => (hv2 c a w' hb hs).mono fun e w2 h => RetQ.len g2 h
  have hs1 := fun a b c d w' hA hB => hsf a b c d w' _ g1 hA hB
  have hs2 := fun a b c d w' hA hB => hsf a b c d w' _ g2 hA hB
  rw [g1] at hs1
  rw [g2] at hs2
  clear ih hsm hL e1 hva hsf hp1 hq1
  generalize (sel L (fun k => L.length - 1 - k) L.length) = S1 at *
  generalize (sel L (fun k => (k + n) % L.length) L.length) = S2 at *
  generalize (gl L.length fun k => fsq T (L.length - 1 - k)) = G1 at *
  generalize (gl L.length fun k => fsq T ((k + n) % L.length)) = G2 at *
  all_goals (refine go ?_; and_intros <;> (try exact trivial) <;> repeat (first | refine fun (Bk : Nat) => ?_ | intro h))
  repeat' ((first | (apply G.cV (g := 10); rfl; rfl; exact fun w' _ => hsan w') | (apply G.cN (g := 13) (d := 94) (fun a' c' => .tuple #[.slice a' L.length c', .int .i64 0]) (G1.map qF); rfl; rfl; exact fun w' hw' => hv1 _ _ w' hw'.below (satOC hw' (by exact mm) s1); intro a5 c5 hp5 hq5) | (apply G.cN (g := 13) (d := 100) (fun a' c' => .tuple #[.slice a' L.length c', .int .i64 0]) (G2.map qF); rfl; rfl; exact fun w' hw' => hv2 _ _ w' hw'.below (satOC hw' (by exact mm) s2); intro a6 c6 hp6 hq6) | (apply G.cV (g := 17) (d := 115); rfl; rfl; exact fun w' hw' => hs1 _ _ _ _ w' (hw'.sl (by exact mm)) (satOF hw' (by exact mm) g1)) | (apply G.cV (g := 17) (d := 120); rfl; rfl; exact fun w' hw' => hs2 _ _ _ _ w' (hw'.sl (by exact mm)) (satOF hw' (by exact mm) g2))) <;> (refine go ?_; and_intros <;> (try exact trivial) <;> repeat (first | refine fun (Bk : Nat) => ?_ | intro h)))
  all_goals refine ret1b Tryz.func8 Tryz.results8 ?_
  all_goals rfl
end Go.Proofs.YteaccaieaigeaaaGreatDoor
/-
  The law RightsSeniorsFirst.
-/
namespace Go.Proofs.YteaccaieaigeaaaGreatDoor
open Go.RowKit Go.Sl Go.Num
def snC (r : Nat) (c : Clm) : Bool := decide (c.rk ≤ (r : Int))
def sen (r : Nat) (L : List Clm) (k : Nat) : List Clm := (L.take k).filter (snC r)
def wan (r : Nat) (L : List Clm) (T : List Rat) (k : Nat) : List Rat := (((L.zip T).take k).filter fun z => snC r z.1).map (·.2)
theorem sen_succ {r : Nat} {L : List Clm} {k : Nat} (h : k < L.length) : sen r L (k + 1) = sen r L k ++ if snC r L[k] = true then [L[k]] else [] := by
  rw [sen, List.take_add_one, List.getElem?_eq_getElem h, Option.toList, List.filter_append, sen]
  congr 1
  rw [List.filter_cons]; rfl
theorem wan_succ {r : Nat} {L : List Clm} {T : List Rat} {k : Nat} (h : k < L.length) (h2 : k < T.length) : wan r L T (k + 1) = wan r L T k ++ if snC r L[k] = true then [T[k]] else [] := by
  have hz : k < (L.zip T).length := by rw [List.length_zip]; omega
  rw [wan, List.take_add_one, List.getElem?_eq_getElem hz, Option.toList, List.filter_append, List.map_append, wan, List.getElem_zip]
  congr 1
  rw [List.filter_cons]
  dsimp only
  split <;> rfl
theorem sen_le (r : Nat) (L : List Clm) (k : Nat) : (sen r L k).length ≤ k := Nat.le_trans (List.length_filter_le _ _) (by rw [List.length_take]; omega)
theorem wan_len {r : Nat} {L : List Clm} {T : List Rat} (h : T.length = L.length) : ∀ k, k ≤ L.length → (wan r L T k).length = (sen r L k).length
  | 0, _ => rfl
  | k + 1, hk => by
    rw [wan_succ (by omega) (by omega), sen_succ (by omega), List.length_append, List.length_append, wan_len h k (by omega)]
    split <;> rfl
theorem sen_zip {r : Nat} : ∀ {L : List Clm} {T : List Rat}, T.length = L.length → (∀ c ∈ L, 0 ≤ c.rk) → ((L.filter (snC r)).map cmO).zip (((L.zip T).filter fun z => snC r z.1).map (·.2)) = ((L.map cmO).zip T).filter fun z => decide (z.1.rk ≤ r)
  | [], _, _, _ => rfl
  | c :: L, [], h, _ => by cases h
  | c :: L, t :: T, h, hr => by
    have hc := hr c (.head _)
    have he : decide ((cmO c).rk ≤ r) = snC r c := by
      rw [snC, cmO]
      dsimp only
      exact decide_eq_decide.2 (by omega)
    have ih := sen_zip (r := r) (L := L) (T := T) (by simpa using h) fun x hx => hr x (.tail _ hx)
    rw [List.zip_cons_cons, List.filter_cons, List.filter_cons, List.map_cons, List.zip_cons_cons, List.filter_cons]
    dsimp only
    rw [he]
    cases snC r c with
    | true => rw [if_pos rfl, if_pos rfl, if_pos rfl, List.map_cons, List.map_cons, List.zip_cons_cons, ih]
    | false => rw [if_neg (by decide), if_neg (by decide), if_neg (by decide), ih]
theorem sen_all (r : Nat) (L : List Clm) : sen r L L.length = L.filter (snC r) := by rw [sen, List.take_length]
theorem wan_all {r : Nat} {L : List Clm} {T : List Rat} (h : T.length = L.length) : wan r L T L.length = ((L.zip T).filter fun z => snC r z.1).map (·.2) := by
  have h2 : L.length = (L.zip T).length := by rw [List.length_zip]; omega
  have h3 : (L.zip T).take L.length = L.zip T := by conv => lhs; rw [h2, List.take_length]
  rw [wan, h3]
set_option maxHeartbeats 16000000 in
theorem law4_holds (w : World) (ra : Option Addr) (R : List Rch) (rc : Nat) (ga : Option Addr) (Gs : List Q3) (gc : Nat) (la : Option Addr) (L : List Clm) (lc n : Nat) (hS : SupAt w ra R ga (Gs.map qV)) (hL : SlAt w la 5 (L.map clV)) (hn : n ≤ 255) :
    Calls Tryz.prog 6 #[.agg #[.slice ra R.length rc, .slice ga Gs.length gc], .slice la L.length lc, .int .u8 n] w fun e w' => e = .returned (.bool true) ∧ Below w.heap.size w w' := by
  have hsm := fun w' (hb : Below w.heap.size w w') => small39_holds ra R rc ga Gs gc la L lc w' (hS.below hb) (hL.below hb)
  have hsan := fun w' => sanity39_holds w'
  cases hfe : smallB R Gs L
  · rw [hfe] at hsm
    refine enterA [(0, .agg #[.slice ra R.length rc, .slice ga Gs.length gc]), (1, .slice la L.length lc), (2, .int .u8 n)] Tryz.func6 Tryz.ntmps6 ?_
    all_goals (refine go ?_; and_intros <;> (try exact trivial) <;> repeat (first | refine fun (Bk : Nat) => ?_ | intro h))
    repeat' ((first | (apply G.cV (g := 24); rfl; rfl; exact fun w' hw' => hsm w' hw'.below) | (apply G.cV (g := 10); rfl; rfl; exact fun w' _ => hsan w')) <;> (refine go ?_; and_intros <;> (try exact trivial) <;> repeat (first | refine fun (Bk : Nat) => ?_ | intro h)))
    all_goals refine ret1b Tryz.func6 Tryz.results6 ?_
    all_goals rfl
  obtain ⟨hA, hLim⟩ := smallB_arg hS hL hfe
  obtain ⟨f1, f2, f3, f4, f5, f6⟩ := smallB_ok hfe
  rw [hfe] at hsm
  obtain ⟨o1, o2, o3, o4⟩ := hA.ok f6
  have hAl := hA.alo f6 hLim
  have hva := fun w' hb => hA.vAllot hLim (fun _ n hn => sorts n L.length hn (by omega)) rc gc lc w' hb
  have hsv := srv_all hAl o1 o3
  have hf := all_fair hAl o1 o3
  have hTl := allT_len (R := R) (Gs := Gs.map qR) (L := L.map cmO) 101
  rw [allR, if_neg (not_not_intro f6)] at hva
  dsimp only at hva
  generalize allT R (Gs.map qR) (L.map cmO) 101 = T at *
  have hTm : ∀ q ∈ T.map rQ, fewQ 30000 q := fun q hq => by
    obtain ⟨t, ht, rfl⟩ := List.mem_map.1 hq
    exact hsv.tk t ht
  rw [List.length_map] at hTl
  obtain ⟨A, q1, q2, q3⟩ := fr_ok o1 o3 (by rw [List.length_map]; exact hTl) hf
  have hvf := fun a c w' hb (hT : SlAt w' a 3 ((T.map rQ).map qV)) => (hA.below hb).vFair hT hTm (by rw [List.length_map]; omega) rc gc lc c w' (Below.refl _ _)
  rw [faiR, if_neg (not_not_intro f6), q2] at hvf
  dsimp only at hvf
  rw [mapQF, List.length_map] at hvf
  have q5 := (at_neg (R := R) (by rw [List.length_map]; exact hTl) q3).1
  rw [List.length_map] at q5
  have hvf := fun (a : Option Addr) (c : Nat) (w' : World) (hb : Below w.heap.size w w') (hT : SlAt w' a 3 (T.map qF)) => (hvf a c w' hb hT).mono fun e w2 h => RetI.len q5 h
  have hcl := fun c hc => clmE_ok (clmsE_ok (rgtE_ok f6).2.2 c hc)
  -- the plain facts
  obtain ⟨r, hr⟩ : ∃ r, n % 101 = r := ⟨_, rfl⟩
  have hmod : ((n : Int) % 101) = (r : Int) := by omega
  have hno : ∀ k (k1 : k < L.length) (k2 : k < T.length) i (i1 : i < L.length) (i2 : i < A.length) (g : Nat), (r : Int) < L[k].rk → T[k] ≠ 0 → onR R L[k].pl.toNat g = true → L[i].rk ≤ (r : Int) → A[i] ≠ (g : Int) := fun k k1 k2 i i1 i2 g h1 h2 h3 h4 h5 => by
    have hb := at_bnd o1 o3 hf (by rw [List.length_map]; exact hTl) q3 i (by rw [List.length_map]; exact i1) (by omega) i2 g h5
    refine h2 (hb.jun ((L.map cmO)[k]'(by rw [List.length_map]; exact k1), T[k]) ?_ ?_ ?_)
    · rw [← List.getElem_zip (h := by rw [List.length_zip, List.length_map]; omega)]; exact List.getElem_mem _
    · rw [List.getElem_map]; exact h3
    · rw [List.getElem_map, List.getElem_map]
      show L[i].rk.toNat < L[k].rk.toNat
      have := (hcl _ (List.getElem_mem i1)).1
      omega
  have hwl := wan_len (r := r) hTl L.length (Nat.le_refl _)
  have hsl := sen_le r L L.length
  have hone : ∀ a c w' (_ : Below w.heap.size w w') (_ : SlAt w' a 5 ((sen r L L.length).map clV)), Calls Tryz.prog 13 #[.agg #[.slice ra R.length rc, .slice ga Gs.length gc], .slice a (sen r L L.length).length c] w' (RetQ (fun v => .tuple #[v, .int .i64 0]) w' (wan r L T L.length)) := fun a c w' hb hs => by
    have hm : ∀ c ∈ sen r L L.length, c ∈ L := fun c hc => List.mem_of_mem_take (List.mem_filter.1 hc).1
    have h := hA.below hb
    have h00 := rgtE_sub (L' := sen r L L.length) f6 hm (by omega)
    have h2 : Arg w' ra R ga Gs a (sen r L L.length) := ⟨h.sup, hs, h.gf, fun c hc => h.cf c (hm c hc), h.len.1, by omega⟩
    have hLim2 : Lim R Gs (sen r L L.length) := fun _ => ⟨f1, by omega⟩
    have e := h2.one h00 hLim2 (T := wan r L T L.length) hwl (by
      rw [wan_all hTl, sen_all, sen_zip hTl fun c hc => (hcl c hc).1.2.2.1]
      exact fair_sen hf r)
    have h3 := h2.vAllot hLim2 (fun _ n hn => sorts n _ hn (by omega)) rc gc c w' (Below.refl _ _)
    rw [e] at h3
    exact h3
  have hsf := fun a b c d w' hA hB => sameF_holds a b (wan r L T L.length) c d w' hA hB (by omega)
  have hR := riv_of o1.riv
  have hnl := hR.len
  have hrv := hS.riv
  clear q1 q2 q3 hA hLim hAl hfe hTm o1 o2 o3 o4 f3 f4 f5 f6 hsv hf hS
  refine enterA [(0, .agg #[.slice ra R.length rc, .slice ga Gs.length gc]), (1, .slice la L.length lc), (2, .int .u8 n)] Tryz.func6 Tryz.ntmps6 ?_
  all_goals (refine go ?_; and_intros <;> (try exact trivial) <;> repeat (first | refine fun (Bk : Nat) => ?_ | intro h))
  repeat' ((first | (apply G.cV (g := 24); rfl; rfl; exact fun w' hw' => hsm w' hw'.below) | (apply G.cV (g := 10); rfl; rfl; exact fun w' _ => hsan w') | (apply G.cN (g := 13) (d := 34) (fun a' c' => .tuple #[.slice a' T.length c', .int .i64 0]) (T.map qF); rfl; rfl; exact fun w' hw' => hva w' hw'.below; intro a1 c1 hp1 hq1) | (apply G.cN (g := 21) (d := 41) (fun a' c' => .tuple #[.slice a' L.length c', .int .i64 0]) (A.map isV); rfl; rfl; exact fun w' hw' => hvf _ _ w' hw'.below (hw'.sl (by exact mm)); intro a3 c3 hp3 hq3)) <;> (refine go ?_; and_intros <;> (try exact trivial) <;> repeat (first | refine fun (Bk : Nat) => ?_ | intro h)))
  rw [hmod]
  revert Bk; intro B3
  clear hva hvf hsm hq1 hq3
  apply J.nilOwn (E := 51) (size := 3)
  apply J.nilOwn (E := 54) (size := 5)
  refine J.loop (c := _) ((0, .slice none 0 0, .slice none 0 0) : Nat × Value × Value) (fun s => L.length - s.1) (fun s => [(1, .slice la L.length lc), (3, .pointer (some ⟨B3, 0, none⟩)), (7, .int .i64 r), (8, s.2.1), (9, .slice a1 T.length c1), (11, .slice a3 L.length c3), (13, s.2.2), (64, .slice la L.length lc), (65, .int .i64 L.length), (66, .int .i64 s.1)]) (fun s => [.own 0 s.2.1 54 5 (sen r L s.1).length (flat clV (sen r L s.1)), .own 0 s.2.2 51 3 (sen r L s.1).length (flat qF (wan r L T s.1)), slRow w.heap.size a3 1 (A.map isV), slRow w.heap.size a1 3 (T.map qF), .blk B3 25 [.slice ra R.length rc, .slice ga Gs.length gc] 2]) (fun s => s.1 ≤ L.length) ?_ sbT sbL ?_
  · exact Nat.zero_le _
  intro ⟨k, y1, y2⟩ k1 ih
  dsimp only at k1 ⊢
  by_cases hk : k < L.length
  · have ihN := fun z1 z2 => ih (k + 1, z1, z2) hk (by dsimp only; omega)
    dsimp only at ihN
    obtain ⟨b1, x1, rfl⟩ := hp1 (by rw [List.length_map]; omega)
    obtain ⟨bl, ol, rfl, hrl⟩ := SlAt.all hL (by omega)
    have hr1 := hrl k hk
    have hld1 := fun {C : Ctx} {M} [TAgg C.P 51 3] (hm : slRow w.heap.size (some ⟨b1, x1, none⟩) 3 (T.map qF) ∈ M) => LdV.aggSl (C := C) (M := M) (T := 51) (f := qF) (l := T) hm (i := k) (by omega) rfl
    have hsk := sen_le r L k
    have g1 := sen_succ (r := r) hk
    have g2 := wan_succ (r := r) (T := T) hk (by omega)
    have hpe : snC r L[k] = decide (L[k].rk ≤ (r : Int)) := rfl
    clear ih hrl hone hsf hsan hL hp1 hp3 hno hcl hwl hsl hr hmod
    by_cases hc : L[k].rk ≤ (r : Int)
    · rw [hpe, decide_eq_true hc, if_pos rfl] at g1 g2
      have g3 : (sen r L (k + 1)).length = (sen r L k).length + 1 := by rw [g1, List.length_append]; rfl
      rw [g3, g1, g2] at ihN
      have ha1 : flat clV (sen r L k) ++ clV L[k] = flat clV (sen r L k ++ [L[k]]) := flat1 clV _ _
      have ha2 : flat qF (wan r L T k) ++ qF (T[k]'(by omega)) = flat qF (wan r L T k ++ [T[k]'(by omega)]) := flat1 qF _ _
      clear g1 g2 g3 hpe
      generalize (sen r L k) = S1 at *
      generalize (wan r L T k) = W1 at *
      generalize L[k] = cA at *
      generalize T[k]'_ = tA at *
      rw [show ∀ x : Rat, qF x = qV (rQ x) from fun _ => rfl] at ha2 hld1
      generalize rQ tA = qA' at *
      obtain ⟨pA, rA, sA, uA, vA⟩ := cA
      obtain ⟨s1, u1, v1⟩ := qA'
      dsimp only [clV, qV] at *
      all_goals (refine goR ?_; and_intros <;> (try exact trivial) <;> repeat (first | refine fun (Bk : Nat) => ?_ | intro h))
      repeat' ((first | (apply J.regS [.blk _ 54 [.int .i64 pA, .int .i64 rA, .bool sA, .string (bs uA), .string (bs vA)] 5, slRow w.heap.size (some ⟨b1, x1, none⟩) 3 (T.map qF)] (.q 0 <| .q 1 <| .q 4 <| .q 5 <| .q 6 <| .q 7 <| .q 8 <| .f 2 (.f 3 (.e 9 <| .r 10 <| .q 11 <| .q 12 <| .nil) 9 (.e 3 <| .r 10 <| .q 11 <| .q 12 <| .nil)) 9 (.e 2 <| .e 3 <| .r 10 <| .q 11 <| .q 12 <| .nil)); exact Tryz.mixed; decide +kernel; (repeat' (first | exact List.Sublist.refl _ | apply List.Sublist.cons_cons | apply List.Sublist.cons))) | (apply G.ld; rfl; exact hld1 (by exact mm); rfl) | (apply G.sliceL; rfl; rfl; rfl; rfl; rfl; rfl; rfl; rfl; intro Bs) | (apply G.forkS) | (apply G.apSO; rfl; rfl; rfl; (repeat (first | exact RAt.head | apply RAt.tail)); exact SrcV.blk (by exact mm) rfl rfl; (first | exact ha1 | exact ha2); omega; omega; intro v2; refine ⟨by (repeat' (first | exact List.Sublist.refl _ | apply List.Sublist.cons_cons | apply List.Sublist.cons)), ?_⟩) | (apply G.apS; rfl; rfl; rfl; rfl; (repeat (first | exact RAt.head | apply RAt.tail)); exact SrcV.blk (by exact mm) rfl rfl; (first | exact ha1 | exact ha2); omega; omega; intro v2; refine ⟨by (repeat' (first | exact List.Sublist.refl _ | apply List.Sublist.cons_cons | apply List.Sublist.cons)), ?_⟩) | (apply G.ap; rfl; rfl; rfl; (repeat (first | exact RAt.head | apply RAt.tail)); exact SrcV.blk (by exact mm) rfl rfl; (first | exact ha1 | exact ha2); omega; omega; intro v3) | (apply J.regQ; exact Tryz.mixed; decide +kernel) | (apply J.regL'; exact Tryz.mixed; decide +kernel)) <;> (refine goR ?_; and_intros <;> (try exact trivial) <;> repeat (first | refine fun (Bk : Nat) => ?_ | intro h)))
      all_goals exact J.finS (ihN _ _)
    · rw [hpe, decide_eq_false hc, if_neg (by decide), List.append_nil] at g1 g2
      rw [g1, g2] at ihN
      clear g1 g2 hpe hld1
      generalize L[k] = cA at *
      obtain ⟨pA, rA, sA, uA, vA⟩ := cA
      dsimp only [clV] at *
      all_goals (refine go ?_; and_intros <;> (try exact trivial) <;> repeat (first | refine fun (Bk : Nat) => ?_ | intro h))
      all_goals exact J.finS (ihN _ _)
  obtain rfl : k = L.length := by omega
  apply J.ownForm (i := 0) rfl
  intro ab cb hub
  apply J.ownForm (i := 1) rfl
  intro ao co huo
  subst hub huo
  have g1 : (sen r L L.length).length = (sen r L L.length).length := rfl
  have hone := fun a c w' hb hs => (hone a c w' hb hs).mono fun e w2 h => RetQ.len hwl h
  rw [hwl] at hsf
  clear ih hr hmod g1 k1
  all_goals (refine go ?_; and_intros <;> (try exact trivial) <;> repeat (first | refine fun (Bk : Nat) => ?_ | intro h))
  repeat' ((first | (apply G.cN (g := 13) (d := 90) (fun a' c' => .tuple #[.slice a' (sen r L L.length).length c', .int .i64 0]) ((wan r L T L.length).map qF); rfl; rfl; exact fun w' hw' => hone _ _ w' hw'.below (satOC hw' (by exact mm) rfl); intro a5 c5 hp5 hq5) | (apply G.cV (g := 17) (d := 98); rfl; rfl; exact fun w' hw' => hsf _ _ _ _ w' (hw'.sl (by exact mm)) (satOF hw' (by exact mm) hwl))) <;> (refine go ?_; and_intros <;> (try exact trivial) <;> repeat (first | refine fun (Bk : Nat) => ?_ | intro h)))
  clear hone hsf hwl hsl hp5 hq5
  refine J.loop (c := _) (0 : Nat) (fun s => L.length - s) (fun s => [(1, .slice la L.length lc), (3, .pointer (some ⟨B3, 0, none⟩)), (7, .int .i64 r), (9, .slice a1 T.length c1), (11, .slice a3 L.length c3), (101, .slice la L.length lc), (102, .int .i64 L.length), (103, .int .i64 s)]) (fun s => [slRow w.heap.size a3 1 (A.map isV), slRow w.heap.size a1 3 (T.map qF), .blk B3 25 [.slice ra R.length rc, .slice ga Gs.length gc] 2]) (fun s => s ≤ L.length) ?_ sbT sbL ?_
  · exact Nat.zero_le _
  intro k k1 ih
  by_cases hk : k < L.length
  case neg =>
    obtain rfl : k = L.length := by omega
    clear ih hno hcl
    all_goals (refine go ?_; and_intros <;> (try exact trivial) <;> repeat (first | refine fun (Bk : Nat) => ?_ | intro h))
    repeat' ((first | (apply G.cV (g := 10); rfl; rfl; exact fun w' _ => hsan w')) <;> (refine go ?_; and_intros <;> (try exact trivial) <;> repeat (first | refine fun (Bk : Nat) => ?_ | intro h)))
    all_goals refine ret1b Tryz.func6 Tryz.results6 ?_
    all_goals rfl
  have ihN := ih (k + 1) hk (by omega)
  have hkT : k < T.length := by omega
  obtain ⟨b1, x1, rfl⟩ := hp1 (by rw [List.length_map]; omega)
  obtain ⟨b3, x3, rfl⟩ := hp3 (by rw [List.length_map]; omega)
  obtain ⟨bl, ol, rfl, hrl⟩ := SlAt.all hL (by omega)
  have hr1 := hrl k hk
  have hld1 := fun {C : Ctx} {M} [TAgg C.P 51 3] (hm : slRow w.heap.size (some ⟨b1, x1, none⟩) 3 (T.map qF) ∈ M) => LdV.aggSl (C := C) (M := M) (T := 51) (f := qF) (l := T) hm (i := k) hkT rfl
  have hck := (hcl _ (List.getElem_mem hk)).1
  have hnk := fun i i1 i2 g => hno k hk hkT i i1 i2 g
  have hzz9 := rQ_zero (x := T[k])
  clear ih hno hcl hp1 hp3 hL
  rw [qF] at hld1
  generalize T[k] = tA at *
  generalize L[k] = cA at *
  obtain ⟨pA, rA, sA, uA, vA⟩ := cA
  dsimp only [clV] at *
  by_cases hc : rA ≤ (r : Int)
  · clear hld1 hnk hzz9
    all_goals (refine go ?_; and_intros <;> (try exact trivial) <;> repeat (first | refine fun (Bk : Nat) => ?_ | intro h))
    exact J.finS ihN
  have hc2 : (r : Int) < rA := by omega
  by_cases h0 : tA = 0
  · have hz := hzz9.2 h0
    clear hnk hzz9
    generalize rQ tA = qA' at *
    obtain ⟨s1, u1, v1⟩ := qA'
    dsimp only [qV] at *
    all_goals (refine go ?_; and_intros <;> (try exact trivial) <;> repeat (first | refine fun (Bk : Nat) => ?_ | intro h))
    repeat' ((first | (apply G.ld; rfl; exact hld1 (by exact mm); rfl) | (apply G.eqR ⟨s1, u1, v1⟩ zero3; rfl; rfl; rfl; all_goals intro h; all_goals try (exact absurd hz h))) <;> (refine go ?_; and_intros <;> (try exact trivial) <;> repeat (first | refine fun (Bk : Nat) => ?_ | intro h)))
    exact J.finS ihN
  have hz : ¬ _ := fun e => h0 (hzz9.1 e)
  have hnk := fun i i1 i2 g => hnk i i1 i2 g hc2 h0
  obtain ⟨pk, rfl⟩ : ∃ pk : Nat, pA = pk := ⟨pA.toNat, by omega⟩
  rw [Int.toNat_natCast] at hnk
  clear hzz9
  generalize rQ tA = qA' at *
  obtain ⟨s1, u1, v1⟩ := qA'
  dsimp only [qV] at *
  all_goals (refine go ?_; and_intros <;> (try exact trivial) <;> repeat (first | refine fun (Bk : Nat) => ?_ | intro h))
  repeat' ((first | (apply G.ld; rfl; exact hld1 (by exact mm); rfl) | (apply G.eqR ⟨s1, u1, v1⟩ zero3; rfl; rfl; rfl; all_goals intro h; all_goals try (exact absurd h hz))) <;> (refine go ?_; and_intros <;> (try exact trivial) <;> repeat (first | refine fun (Bk : Nat) => ?_ | intro h)))
  clear hld1 hr1
  refine J.loop (c := _) (0 : Nat) (fun s => R.length + 1 - s) (fun s => [(1, .slice (some ⟨bl, ol, none⟩) L.length lc), (3, .pointer (some ⟨B3, 0, none⟩)), (7, .int .i64 r), (9, .slice (some ⟨b1, x1, none⟩) T.length c1), (11, .slice (some ⟨b3, x3, none⟩) L.length c3), (20, .int .i64 (itr R s (pk : Int))), (101, .slice (some ⟨bl, ol, none⟩) L.length lc), (102, .int .i64 L.length), (103, .int .i64 k)]) (fun s => [slRow w.heap.size (some ⟨b3, x3, none⟩) 1 (A.map isV), slRow w.heap.size (some ⟨b1, x1, none⟩) 3 (T.map qF), .blk B3 25 [.slice ra R.length rc, .slice ga Gs.length gc] 2]) (fun s => True) ?_ sbT sbL ?_
  · trivial
  intro i _ ih
  by_cases hi : 0 ≤ itr R i (pk : Int)
  case neg =>
    clear ih hnk
    generalize itr R i (pk : Int) = y at *
    all_goals (refine go ?_; and_intros <;> (try exact trivial) <;> repeat (first | refine fun (Bk : Nat) => ?_ | intro h))
    exact J.finS ihN
  have hfew := itr_few hR hi
  have hin := (hR.in_ i (g := (pk : Int)) (by omega) (by omega)).2
  have hon := fun (g : Nat) (hg : itr R i (pk : Int) = (g : Int)) => (onR_iff hR).2 ⟨i, hg⟩
  have ih := ih (i + 1) trivial (by omega)
  rw [itr_succ] at ih
  clear ihN
  generalize itr R i (pk : Int) = y at *
  obtain ⟨g, rfl⟩ : ∃ g : Nat, y = g := ⟨y.toNat, by omega⟩
  have hg : g < R.length := by omega
  have hon := hon g rfl
  have hng := fun i i1 i2 => hnk i i1 i2 g hon
  rw [dnOf_at hg] at ih
  clear hnk hon
  all_goals (refine go ?_; and_intros <;> (try exact trivial) <;> repeat (first | refine fun (Bk : Nat) => ?_ | intro h))
  refine J.loop (c := _) (0 : Nat) (fun s => L.length - s) (fun s => [(1, .slice (some ⟨bl, ol, none⟩) L.length lc), (3, .pointer (some ⟨B3, 0, none⟩)), (7, .int .i64 r), (9, .slice (some ⟨b1, x1, none⟩) T.length c1), (11, .slice (some ⟨b3, x3, none⟩) L.length c3), (20, .int .i64 (g : Nat)), (101, .slice (some ⟨bl, ol, none⟩) L.length lc), (102, .int .i64 L.length), (103, .int .i64 k), (130, .slice (some ⟨bl, ol, none⟩) L.length lc), (131, .int .i64 L.length), (132, .int .i64 s)]) (fun s => [slRow w.heap.size (some ⟨b3, x3, none⟩) 1 (A.map isV), slRow w.heap.size (some ⟨b1, x1, none⟩) 3 (T.map qF), .blk B3 25 [.slice ra R.length rc, .slice ga Gs.length gc] 2]) (fun s => s ≤ L.length) ?_ sbT sbL ?_
  · exact Nat.zero_le _
  intro j j1 ih2
  by_cases hj : j < L.length
  · have ih2 := ih2 (j + 1) hj (by omega)
    have hjA : j < A.length := by omega
    have hng := hng j hj hjA
    have hrj := hrl j hj
    have hld3 := fun {C M} (hm : slRow w.heap.size (some ⟨b3, x3, none⟩) 1 (A.map isV) ∈ M) => CellV.sl0 (C := C) (M := M) (f := isV) (l := A) hm hjA rfl
    clear hrl ih hrv
    generalize A[j] = aj at *
    generalize L[j] = cB at *
    obtain ⟨pB, rB, sB, uB, vB⟩ := cB
    dsimp only [clV, isV] at *
    by_cases hcj : rB ≤ (r : Int)
    · have hng := hng hcj
      all_goals (refine go ?_; and_intros <;> (try exact trivial) <;> repeat (first | refine fun (Bk : Nat) => ?_ | intro h))
      repeat' ((first | (apply G.ld; rfl; (apply LdV.one; exact hld3 (by exact mm)); rfl)) <;> (refine go ?_; and_intros <;> (try exact trivial) <;> repeat (first | refine fun (Bk : Nat) => ?_ | intro h)))
      exact J.finS ih2
    · clear hng hld3
      all_goals (refine go ?_; and_intros <;> (try exact trivial) <;> repeat (first | refine fun (Bk : Nat) => ?_ | intro h))
      exact J.finS ih2
  obtain rfl : j = L.length := by omega
  obtain ⟨br, or, rfl, hrr⟩ := SlAt.all hrv (by omega)
  have hrr := hrr g hg
  clear ih2 hng hrl hrv
  generalize R[g] = rr at *
  obtain ⟨dn, ws, adr, cp⟩ := rr
  dsimp only [rcV] at *
  all_goals (refine go ?_; and_intros <;> (try exact trivial) <;> repeat (first | refine fun (Bk : Nat) => ?_ | intro h))
  exact J.finS ih
end Go.Proofs.YteaccaieaigeaaaGreatDoor
