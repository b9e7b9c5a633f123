/-
  Contracts of rights: the program's Allot.
-/
import Derived.Test.YtcdgibkbbcekhaaGreatDoorGR10
set_option linter.unusedVariables false
set_option linter.unusedSimpArgs false
set_option linter.unusedSectionVars false
namespace Go.Sl
open Go.RowKit Go.Num
variable {C : Ctx} {st : List (Nat × Value)} {M : List Row} {k : List Item} {q q' : Md} {all rest : List Oper} {d : Nat} {ty : TypeId} {pos : String} {after : Array Edge} {gd : Option (Nat × Bool)}
theorem G.neRb {T : TypeId} {x y : Operand} {yt : TypeId} (a b : Q3) (v : Bool) (hv : decide (a ≠ b) = v) (hx : evS st x = some (qA a)) (hy : evS st y = some (qA b)) [hT : TEqR C.P T] (hs : sideB all st gd d C.N q.calm = some q') (h : G q' C all ((d, .bool v) :: st) M rest k) :
    G q C all st M ({ dst := some d, op := .binOp .neq T x y yt, type := ty, pos, after, guard := gd } :: rest) k := by
  refine G.neR a b hx hy hs (fun e => ?_) (fun e => ?_)
  · rwa [← hv, decide_eq_false (fun h => h e)] at h
  · rwa [← hv, decide_eq_true e] at h
theorem J.slPos {sz N : Nat} {a : Option Addr} {L : List (List Value)} (hm : slRow N a sz L ∈ M) (h : (0 < L.length → ∃ b off, a = some ⟨b, off, none⟩) → J C st M k) : J C st M k := .mk fun ac w hf hd hw =>
  (h fun h0 => by obtain ⟨b, off, e, _⟩ := hw.sl hm h0; exact ⟨b, off, e⟩).go ac w hf hd hw
end Go.Sl
namespace Go.Proofs.YtcdgibkbbcekhaaGreatDoor
open Go.RowKit Go.Sl Go.Num
theorem mixL_same {α : Type} {N O : List α} {k : Nat} (h : N.length = O.length) (hk : k < O.length) (hk2 : k < N.length) (he : N[k] = O[k]) : mixL N O (k + 1) = mixL N O k := by
  rw [← mixL_set h hk hk2, he]
  apply List.ext_getElem?
  intro i
  rw [List.getElem?_set]
  split
  · rename_i e
    subst e
    rw [mixL_get h hk, if_pos (by rw [mixL_len h]; exact hk)]
  · rfl
theorem rs0 {R : List Rch} {Gs : List Rat} {L : List Cm} (g : Nat) : rsT R Gs L (allT R Gs L 0) g = sup (onR R) R.length (fsq Gs) g := by
  rw [rsT, used_zero (zs := L.zip (allT R Gs L 0)) (fun z hz => mem_gl0 (List.of_mem_zip hz).2)]; grind
set_option maxHeartbeats 400000000 in
theorem vAllot_holds (w : World) (ra : Option Addr) (R : List Rch) (rc : Nat) (ga : Option Addr) (Gs : List Rat) (gc : Nat) (la : Option Addr) (L : List Cm) (lc : Nat)
    (hS : SupAt w ra R ga (Gs.map qF)) (hsu : SupOk R Gs) (hL : SlAt w la 5 (L.map cmV)) (hC : ClOk R.length L) (hA : Alo R Gs L) (hso : ∀ n, n ≤ L.length → SortsTo n)
    (hck : ∀ w', Below w.heap.size w w' → Calls Tryz.prog 48 #[.agg #[.slice ra R.length rc, .slice ga Gs.length gc], .slice la L.length lc] w' fun e w2 => e = .returned (.int .i64 0) ∧ Below w'.heap.size w' w2) :
    Calls Tryz.prog 14 #[.agg #[.slice ra R.length rc, .slice ga Gs.length gc], .slice la L.length lc] w (RetQ (fun v => .tuple #[v, .int .i64 0]) w (allT R Gs L 101)) := by
  have hl := hA.m
  have hR := riv_of hsu.riv
  have hnl := hR.len
  have hps := fun M w' (hw' : Sat w M w') => vPassing_holds w M w' ra R rc ga Gs gc hS hsu hw'
  have hz0 : gl R.length (sup (onR R) R.length (fsq Gs)) = gl R.length (rsT R Gs L (allT R Gs L 0)) := gl_congr fun g _ => (rs0 g).symm
  rw [hz0] at hps
  clear hz0
  refine enterA [(0, .agg #[.slice ra R.length rc, .slice ga Gs.length gc]), (1, .slice la L.length lc)] Tryz.func14 Tryz.ntmps14 ?_
  all_goals (refine go ?_; and_intros <;> (try exact trivial) <;> repeat (first | refine fun (Bk : Nat) => ?_ | intro h))
  repeat' ((first | (apply G.cV (g := 48); rfl; rfl; exact fun w' hw' => hck w' hw'.below) | (apply G.cR (g := 53) (v := fun B : Nat => .tuple #[.slice (some ⟨B, 0, none⟩) R.length R.length, .int .i64 0]) (Mn := fun B => [.blk B 29 (flat qF (gl R.length (rsT R Gs L (allT R Gs L 0)))) (R.length * 3)]); rfl; rfl; exact fun w' hw' => hps _ w' hw'; intro Bl) | (apply G.make (n := L.length) (qV zero3); rfl; rfl; rfl; rfl; rfl; rfl; rfl; rfl; omega; omega; intro Bo) | (apply G.mkm; rfl; intro bm)) <;> (refine go ?_; and_intros <;> (try exact trivial) <;> repeat (first | refine fun (Bk : Nat) => ?_ | intro h)))
  rename_i B2 B3
  revert Bk; intro B7
  rw [show flat (fun x : List Value => x) (List.replicate L.length (qV zero3)) = flat qF (allT R Gs L 0) from zeroG L.length]
  have hrk := hC.rk
  refine J.loop (c := _) ((0, #[], 0, []) : Nat × Array MapEntry × Nat × List (Int × Value)) (fun s => L.length - s.1) (fun s => [(2, .pointer (some ⟨B2, 0, none⟩)), (3, .pointer (some ⟨B3, 0, none⟩)), (7, .pointer (some ⟨B7, 0, none⟩)), (9, .slice (some ⟨Bo, 0, none⟩) L.length L.length), (10, .map (some bm)), (46, .slice la L.length lc), (47, .int .i64 L.length), (48, .int .i64 s.1)]) (fun s => [.obj bm (.map s.2.1 s.2.2.1), .blk Bo 29 (flat qF (allT R Gs L 0)) (L.length * 3), .blk B7 23 [.slice (some ⟨Bl, 0, none⟩) R.length R.length] 1, .blk Bl 29 (flat qF (gl R.length (rsT R Gs L (allT R Gs L 0)))) (R.length * 3), .blk B3 26 [.slice la L.length lc] 1, .blk B2 25 [.slice ra R.length rc, .slice ga Gs.length gc] 2]) (fun s => s.1 ≤ L.length ∧ MapIs (Value.int .i64) s.2.1 s.2.2.1 s.2.2.2 ∧ RkIs (L.take s.1) (s.2.2.2.map (·.1)) ∧ s.2.2.2.length ≤ s.1) ?_ sbT sbL ?_
  · exact ⟨Nat.zero_le _, MapIs.nil, fun x => ⟨fun h => (by cases h), fun ⟨c, h, _⟩ => (by cases h)⟩, Nat.le_refl _⟩
  intro ⟨k, es, cc, Ls⟩ ⟨k1, k2, k3, k4⟩ ih
  dsimp only at k1 k2 k3 k4 ⊢
  by_cases hk : k < L.length
  · obtain ⟨bl, ol, rfl, hrl⟩ := SlAt.all hL (by omega)
    have hrk := hrl k hk
    have hpl := fun v => (keys_put (L[k].rk : Int) v Ls)
    have ihN := fun es2 c2 v (hI : MapIs (Value.int .i64) es2 c2 (putM (L[k].rk : Int) v Ls)) => ih (k + 1, es2, c2, putM (L[k].rk : Int) v Ls) ⟨hk, hI, k3.next hk v, by
      have h1 := congrArg List.length (keys_put (L[k].rk : Int) v Ls)
      rw [List.length_map] at h1
      dsimp only
      split at h1
      · rw [List.length_map] at h1; omega
      · rw [List.length_append, List.length_map] at h1
        have : [(L[k].rk : Int)].length = 1 := rfl
        omega⟩ (by dsimp only; omega)
    clear ih hrl hpl hps hck
    dsimp only at ihN
    generalize L[k] = cl at *
    obtain ⟨pl, rk, am⟩ := cl
    rw [cmV, qF] at hrk
    dsimp only at *
    generalize rQ am = q at *
    obtain ⟨s1, u1, v1⟩ := q
    dsimp only [qV] at hrk
    all_goals (refine go ?_; and_intros <;> (try exact trivial) <;> repeat (first | refine fun (Bk : Nat) => ?_ | intro h))
    repeat' ((first | (apply G.mu k2 rfl; rfl; rfl; rfl; rfl; (repeat (first | exact RAt.head | apply RAt.tail)); intro es2 c2 hI2)) <;> (refine go ?_; and_intros <;> (try exact trivial) <;> repeat (first | refine fun (Bk : Nat) => ?_ | intro h)))
    exact J.finS (ihN es2 c2 _ hI2)
  obtain rfl : k = L.length := by omega
  rw [List.take_length] at k3
  clear ih hps hck
  have hky := fun M w' (hw' : Sat w M w') => keys_holds w M w' (.bool false) bm hw'
  have hsr : ∀ (x : Nat) M w', Sat w ([.blk x 112 [.map (some bm)] 1, .obj bm (.map es cc)] ++ M) w' → Calls Tryz.prog 59 #[.func (.func 128) #[] #[.pointer (some ⟨x, 0, none⟩)]] w' fun e w2 => ∃ y : { x : Option Addr × Nat × List Int // x.2.2.Perm (Ls.map (·.1)) ∧ x.2.2.Pairwise (· ≤ ·) }, e = .returned (.slice y.1.1 y.1.2.2.length y.1.2.1) ∧ Sat w ([.own 0 (.slice y.1.1 y.1.2.2.length y.1.2.1) 3 1 y.1.2.2.length (flat isV y.1.2.2)] ++ M) w2 := fun x M w' hw' => (sorted_holds w M [.blk x 112 [.map (some bm)] 1, .obj bm (.map es cc)] w' 128 #[.pointer (some ⟨x, 0, none⟩)] (Ls.map (·.1)) (keys_iter w x bm es cc Ls k2) (by rw [List.length_map]; omega) (hso _ (by rw [List.length_map]; exact k4)) hw').mono fun e w2 ⟨x, h1, h2, h3⟩ => ⟨⟨x, h2⟩, h1, h3⟩
  all_goals (refine go ?_; and_intros <;> (try exact trivial) <;> repeat (first | refine fun (Bk : Nat) => ?_ | intro h))
  repeat' ((first | (apply G.cR (g := 60) (v := fun x : Nat => .func (.func 128) #[] #[.pointer (some ⟨x, 0, none⟩)]) (Mn := fun x => [.blk x 112 [.map (some bm)] 1]); rfl; rfl; exact fun w' hw' => hky _ w' hw'; intro Bx) | (refine G.cP (g := 59) (X := { x : Option Addr × Nat × List Int // x.2.2.Perm (Ls.map (·.1)) ∧ x.2.2.Pairwise (· ≤ ·) }) (fun x => .slice x.1.1 x.1.2.2.length x.1.2.1) [.blk Bx 112 [.map (some bm)] 1, .obj bm (.map es cc)] (fun x => [.own 0 (.slice x.1.1 x.1.2.2.length x.1.2.1) 3 1 x.1.2.2.length (flat isV x.1.2.2)]) rfl rfl (by (repeat (first | exact List.Perm.refl _ | (refine pickT (by (repeat (first | exact Pick.head | apply Pick.tail))) ?_)))) (fun w' hw' => hsr Bx _ w' hw') ?_; rintro ⟨⟨au, cu, S⟩, hS1, hS2⟩; dsimp only at hS1 hS2 ⊢)) <;> (refine go ?_; and_intros <;> (try exact trivial) <;> repeat (first | refine fun (Bk : Nat) => ?_ | intro h)))
  refine J.ownSlF (f := isV) isV_len (by (repeat (first | exact Pick.head | apply Pick.tail))) rfl ?_
  refine J.slPos (L := S.map isV) (by exact mm) fun hpos => ?_
  have hRS := RkSo.of k3 k2.keys hS1 hS2
  have hSl : S.length ≤ L.length := by rw [hS1.length_eq, List.length_map]; exact k4
  clear hky hsr hS1 hS2 k1 k2 k3 k4 hso
  have hrkA := rk_all hA hsu hC
  refine J.loopD (c := _) ((0, []) : Nat × List Nat) (fun x => S.length - x.1) (fun x => x.2.map Sl.mark) (fun x => [(2, .pointer (some ⟨B2, 0, none⟩)), (3, .pointer (some ⟨B3, 0, none⟩)), (7, .pointer (some ⟨B7, 0, none⟩)), (9, .slice (some ⟨Bo, 0, none⟩) L.length L.length), (58, .slice au S.length cu), (59, .int .i64 S.length), (60, .int .i64 x.1)])
    (fun x => slRow w.heap.size au 1 (S.map isV) :: .blk Bo 29 (flat qF (allT R Gs L (nxR S x.1))) (L.length * 3) :: .blk B7 23 [.slice (some ⟨Bl, 0, none⟩) R.length R.length] 1 :: .blk Bl 29 (flat qF (gl R.length (rsT R Gs L (allT R Gs L (nxR S x.1))))) (R.length * 3) :: .blk B3 26 [.slice la L.length lc] 1 :: .blk B2 25 [.slice ra R.length rc, .slice ga Gs.length gc] 2 :: Sl.mk x.2)
    (fun x => x.1 ≤ S.length) (Nat.zero_le _) rfl (by (repeat' (first | exact trivial | refine ⟨rfl, ?_⟩))) (List.Sublist.refl _) ?_
  intro ⟨i, ds⟩ i1 ih
  dsimp only at i1 ⊢
  by_cases hi : i < S.length
  case neg =>
    obtain rfl : i = S.length := by omega
    rw [hRS.fin hrk R Gs]
    have hTl := allT_len (R := R) (Gs := Gs) (L := L) (nxR S S.length)
    generalize allT R Gs L (nxR S S.length) = T at *
    clear ih hrkA hRS
    all_goals (refine go ?_; and_intros <;> (try exact trivial) <;> repeat (first | refine fun (Bk : Nat) => ?_ | intro h))
    refine J.sel (T := .blk Bo 29 (flat qF T) (L.length * 3) :: Sl.mk ds) ?_
    refine leaveM (v := .tuple #[.slice (some ⟨Bo, 0, none⟩) L.length L.length, .int .i64 0]) (ds := ds) (M0 := [.blk Bo 29 (flat qF T) (L.length * 3)]) Tryz.func14 rfl rfl rfl rfl (RunsTo.two Tryz.results14 (by (first | (apply ResV.tmp; rfl) | (apply ResV.cell; rfl; (first | (apply LdV.one; (first | exact CellV.row0 (by assumption) rfl | exact CellV.rowS (by assumption) rfl | exact CellV.rowSS (by assumption) rfl | (apply CellV.blk; exact mm; rfl))) | (apply LdV.aggBlk; exact mm; rfl) | (apply LdV.part; exact mm; rfl; rfl) | (apply LdV.aggRow; assumption; rfl) | (apply LdV.partRow; assumption; rfl; rfl))))) (by (first | (apply ResV.tmp; rfl) | (apply ResV.cell; rfl; (first | (apply LdV.one; (first | exact CellV.row0 (by assumption) rfl | exact CellV.rowS (by assumption) rfl | exact CellV.rowSS (by assumption) rfl | (apply CellV.blk; exact mm; rfl))) | (apply LdV.aggBlk; exact mm; rfl) | (apply LdV.part; exact mm; rfl; rfl) | (apply LdV.aggRow; assumption; rfl) | (apply LdV.partRow; assumption; rfl; rfl)))))) (List.perm_append_comm (l₁ := [_])) fun w' hw' => ?_
    exact satQ hw' (.head _) hTl fun v => .tuple #[v, .int .i64 0]
  obtain ⟨sk1, sk2⟩ := hRS.skip hi R Gs
  obtain ⟨ba, oa, rfl⟩ := hpos (by rw [List.length_map]; omega)
  have hg0 := fun {C M} (hm : slRow w.heap.size (some ⟨ba, oa, none⟩) 1 (S.map isV) ∈ M) => CellV.sl0 (C := C) (M := M) (f := isV) (l := S) hm hi rfl
  have hnn := hRS.nn hi
  have ihR := fun ds2 => ih (i + 1, ds2) hi (by dsimp only; omega)
  dsimp only at ihR
  rw [← sk1]
  rw [sk2] at ihR
  clear ih sk1 sk2 hpos
  obtain ⟨r, hr⟩ : ∃ r : Nat, S[i] = r := ⟨S[i].toNat, by omega⟩
  rw [hr] at hg0
  rw [hr, Int.toNat_natCast] at ihR ⊢
  dsimp only [allT] at ihR
  have hT0 := hrkA r
  have hst := hT0.start
  have z1 := (rkT_zip (R := R) (Gs := Gs) hT0.lt r).1
  have z2 := (rkT_zip (R := R) (Gs := Gs) hT0.lt r).2
  have hrz : rankZ (onR R) R.length (fsq Gs) r (L.zip (allT R Gs L r)) = tks (lpZ (onR R) R.length (fsq Gs) (cntO (zz L (allT R Gs L r) (opO L r))) (zz L (allT R Gs L r) (opO L r)) 0) := by rw [rankZ, start_zz hT0.lt]; rfl
  rw [hrz] at z1
  have hO2 : ∀ k (h : k < L.length) (h2 : k < (opO L r).length), (opO L r)[k] = (decide (L[k].rk = r) && decide (L[k].am ≠ 0)) := fun k h h2 => by simp only [opO, List.getElem_map]
  have hOl : (opO L r).length = L.length := List.length_map _
  generalize opO L r = O0 at *
  generalize allT R Gs L r = T0 at *
  clear hrkA hr hnn
  all_goals (refine go ?_; and_intros <;> (try exact trivial) <;> repeat (first | refine fun (Bk : Nat) => ?_ | intro h))
  repeat' ((first | (apply G.ld; rfl; (apply LdV.one; exact hg0 (by exact mm)); rfl) | (apply G.make (n := L.length) [.bool false]; rfl; rfl; rfl; rfl; rfl; rfl; rfl; rfl; omega; omega; intro Bp)) <;> (refine go ?_; and_intros <;> (try exact trivial) <;> repeat (first | refine fun (Bk : Nat) => ?_ | intro h)))
  revert Bk; intro B15
  rw [show flat (fun x : List Value => x) (List.replicate L.length [Value.bool false]) = flat oV (mixL O0 (List.replicate L.length false) 0) from zeroB L.length O0]
  obtain ⟨Z, hZ⟩ : ∃ Z, List.replicate L.length false = Z := ⟨_, rfl⟩
  have hZl : Z.length = L.length := by rw [← hZ, List.length_replicate]
  rw [hZ]
  clear hZ
  refine J.loop (c := _) (0 : Nat) (fun s => L.length - s) (fun s => [(2, .pointer (some ⟨B2, 0, none⟩)), (3, .pointer (some ⟨B3, 0, none⟩)), (7, .pointer (some ⟨B7, 0, none⟩)), (9, .slice (some ⟨Bo, 0, none⟩) L.length L.length), (14, .int .i64 r), (15, .pointer (some ⟨B15, 0, none⟩)), (58, .slice (some ⟨ba, oa, none⟩) S.length cu), (59, .int .i64 S.length), (60, .int .i64 i), (67, .slice la L.length lc), (68, .int .i64 L.length), (69, .int .i64 s)]) (fun s => .blk B15 117 [.slice (some ⟨Bp, 0, none⟩) L.length L.length] 1 :: .blk Bp 4 (flat oV (mixL O0 Z s)) (L.length * 1) :: slRow w.heap.size (some ⟨ba, oa, none⟩) 1 (S.map isV) :: .blk Bo 29 (flat qF T0) (L.length * 3) :: .blk B7 23 [.slice (some ⟨Bl, 0, none⟩) R.length R.length] 1 :: .blk Bl 29 (flat qF (gl R.length (rsT R Gs L T0))) (R.length * 3) :: .blk B3 26 [.slice la L.length lc] 1 :: .blk B2 25 [.slice ra R.length rc, .slice ga Gs.length gc] 2 :: Sl.mk ds) (fun s => s ≤ L.length) ?_ sbT sbL ?_
  · exact Nat.zero_le _
  intro k k1 ih
  by_cases hk : k < L.length
  · skip
    --<<
    obtain ⟨bl, ol, rfl, hrl⟩ := SlAt.all hL (by omega)
    have hrk := hrl k hk
    have hk2 : k < O0.length := by rw [hOl]; exact hk
    have hOk := hO2 k hk hk2
    have h9 := mixL_set (N := O0) (O := Z) (k := k) (by omega) (by omega) hk2
    have hml := mixL_len (N := O0) (O := Z) (k := k) (by omega)
    have l1 : 0 + k * 1 < (flat oV (mixL O0 Z k)).length := by rw [oLen, hml]; omega
    have hr1 := fun b => oSet (O := mixL O0 Z k) (k := k) (by omega) b
    have ihN := ih (k + 1) hk (by omega)
    have hz := rQ_zero (x := L[k].am)
    have hzc := fun w' => zero_holds w'
    clear ih hO2 hrl ihR hL hT0 hst z1 z2 hrz
    generalize O0[k]'_ = ok at *
    have hr1 := hr1 ok
    rw [h9] at hr1
    clear h9 hml
    generalize mixL O0 Z (k + 1) = X2 at *
    generalize mixL O0 Z k = X1 at *
    generalize L[k] = cl at *
    obtain ⟨pl, rk, am⟩ := cl
    rw [cmV, qF] at hrk
    dsimp only at *
    generalize rQ am = q at *
    obtain ⟨s1, u1, v1⟩ := q
    dsimp only [qV] at hrk
    dsimp only [qA, zero3] at hzc
    by_cases hrr : rk = r
    · subst hrr
      rw [decide_eq_true (show rk = rk from rfl), Bool.true_and] at hOk
      by_cases hz0 : am = 0
      · obtain rfl : ok = false := by rw [hOk, decide_eq_false (fun e => e hz0)]
        have hz := hz.2 hz0
        clear hOk
        all_goals (refine go ?_; and_intros <;> (try exact trivial) <;> repeat (first | refine fun (Bk : Nat) => ?_ | intro h))
        repeat' ((first | (apply J.regA (.q 0 <| .q 1 <| .q 2 <| .q 3 <| .q 4 <| .q 5 <| .q 6 <| .q 7 <| .q 8 <| .q 9 <| .q 10 <| .q 11 <| .q 12 <| .r 13 <| .nil); exact Tryz.mixed; decide +kernel) | (apply G.cV (g := 61); rfl; rfl; exact fun w' _ => hzc w') | (apply G.neR ⟨s1, u1, v1⟩ zero3; rfl; rfl; rfl; all_goals intro h; all_goals try (exact absurd hz h)) | (apply G.s1; rfl; rfl; rfl; (repeat (first | exact RAt.head | apply RAt.tail)); exact ⟨rfl, rfl⟩; exact l1; exact hr1)) <;> (refine go ?_; and_intros <;> (try exact trivial) <;> repeat (first | refine fun (Bk : Nat) => ?_ | intro h)))
        exact J.finS ihN
      · obtain rfl : ok = true := by rw [hOk, decide_eq_true hz0]
        have hz : ¬ _ := fun e => hz0 (hz.1 e)
        clear hOk
        all_goals (refine go ?_; and_intros <;> (try exact trivial) <;> repeat (first | refine fun (Bk : Nat) => ?_ | intro h))
        repeat' ((first | (apply J.regA (.q 0 <| .q 1 <| .q 2 <| .q 3 <| .q 4 <| .q 5 <| .q 6 <| .q 7 <| .q 8 <| .q 9 <| .q 10 <| .q 11 <| .q 12 <| .r 13 <| .nil); exact Tryz.mixed; decide +kernel) | (apply G.cV (g := 61); rfl; rfl; exact fun w' _ => hzc w') | (apply G.neR ⟨s1, u1, v1⟩ zero3; rfl; rfl; rfl; all_goals intro h; all_goals try (exact absurd h hz)) | (apply G.s1; rfl; rfl; rfl; (repeat (first | exact RAt.head | apply RAt.tail)); exact ⟨rfl, rfl⟩; exact l1; exact hr1)) <;> (refine go ?_; and_intros <;> (try exact trivial) <;> repeat (first | refine fun (Bk : Nat) => ?_ | intro h)))
        exact J.finS ihN
    · obtain rfl : ok = false := by rw [hOk, decide_eq_false hrr, Bool.false_and]
      clear hOk hz
      all_goals (refine go ?_; and_intros <;> (try exact trivial) <;> repeat (first | refine fun (Bk : Nat) => ?_ | intro h))
      repeat' ((first | (apply J.regA (.q 0 <| .q 1 <| .q 2 <| .q 3 <| .q 4 <| .q 5 <| .q 6 <| .q 7 <| .q 8 <| .q 9 <| .q 10 <| .q 11 <| .q 12 <| .r 13 <| .nil); exact Tryz.mixed; decide +kernel) | (apply G.s1; rfl; rfl; rfl; (repeat (first | exact RAt.head | apply RAt.tail)); exact ⟨rfl, rfl⟩; exact l1; exact hr1)) <;> (refine go ?_; and_intros <;> (try exact trivial) <;> repeat (first | refine fun (Bk : Nat) => ?_ | intro h)))
      exact J.finS ihN
    -->>
  obtain rfl : k = L.length := by omega
  rw [show mixL O0 Z L.length = O0 from by rw [← hZl]; exact mixL_end (by omega)]
  clear ih hO2 hZl Z k1
  have hzc := fun w' => zero_holds w'
  dsimp only [qA, zero3] at hzc
  all_goals (refine go ?_; and_intros <;> (try exact trivial) <;> repeat (first | refine fun (Bk : Nat) => ?_ | intro h))
  repeat' ((first | (apply G.cV (g := 61); rfl; rfl; exact fun w' _ => hzc w')) <;> (refine go ?_; and_intros <;> (try exact trivial) <;> repeat (first | refine fun (Bk : Nat) => ?_ | intro h)))
  revert Bk; intro B0
  have hhd : (setL [Value.bool false, Value.string (bs []), Value.string (bs [])] 0 (Value.agg #[Value.bool false, Value.string (bs []), Value.string (bs [])]).cells.toList) = qV (rQ 0) := rfl
  refine J.loopD (c := _) ((T0, O0, 0, rQ 0, B0, ds) : List Rat × List Bool × Rat × Q3 × Nat × List Nat) (fun x => cntO (zz L x.1 x.2.1)) (fun x => x.2.2.2.2.2.map Sl.mark) (fun x => [(2, .pointer (some ⟨B2, 0, none⟩)), (3, .pointer (some ⟨B3, 0, none⟩)), (7, .pointer (some ⟨B7, 0, none⟩)), (9, .slice (some ⟨Bo, 0, none⟩) L.length L.length), (15, .pointer (some ⟨B15, 0, none⟩)), (18, .func (.func 62) #[] #[.pointer (some ⟨B15, 0, none⟩)]), (19, .pointer (some ⟨x.2.2.2.2.1, 0, none⟩)), (58, .slice (some ⟨ba, oa, none⟩) S.length cu), (59, .int .i64 S.length), (60, .int .i64 i)])
    (fun x => .blk x.2.2.2.2.1 29 (qV x.2.2.2.1) 3 :: .blk B15 117 [.slice (some ⟨Bp, 0, none⟩) L.length L.length] 1 :: .blk Bp 4 (flat oV x.2.1) (L.length * 1) :: slRow w.heap.size (some ⟨ba, oa, none⟩) 1 (S.map isV) :: .blk Bo 29 (flat qF x.1) (L.length * 3) :: .blk B7 23 [.slice (some ⟨Bl, 0, none⟩) R.length R.length] 1 :: .blk Bl 29 (flat qF (gl R.length (rsT R Gs L x.1))) (R.length * 3) :: .blk B3 26 [.slice la L.length lc] 1 :: .blk B2 25 [.slice ra R.length rc, .slice ga Gs.length gc] 2 :: Sl.mk x.2.2.2.2.2)
    (fun x => Rnd R Gs L r x.1 x.2.1 x.2.2.1 ∧ x.2.2.2.1 = rQ x.2.2.1 ∧ tks (lpZ (onR R) R.length (fsq Gs) (cntO (zz L x.1 x.2.1)) (zz L x.1 x.2.1) x.2.2.1) = L.zip (rkT R Gs L r T0)) ?_ rfl (by (repeat' (first | exact trivial | refine ⟨rfl, ?_⟩))) (List.Sublist.refl _) ?_
  · exact ⟨hst, rfl, z1.symm⟩
  clear hst z1 hrz hhd
  intro ⟨T, O, p, q, B19, ds⟩ ⟨i1, i2, i4⟩ ih
  dsimp only at i1 i2 i4 ⊢
  have hany := anyO i1.lt i1.lo
  have hol := i1.lo
  have hTl := i1.lt
  have hcb := fun w' (h : SlAt w' (some ⟨Bp, 0, none⟩) 1 (O.map oV)) => containsB_holds (some ⟨Bp, 0, none⟩) O L.length w' h (by omega)
  rw [hol] at hcb
  obtain ⟨s0, u0, v0⟩ := q
  dsimp only [qV] at *
  obtain ⟨b, hb⟩ : ∃ b, O.any id = b := ⟨_, rfl⟩
  rw [hb] at hany hcb
  cases b
  · rw [lpZ_end hany, tks_zz i1.lt i1.lo] at i4
    have hTT : rkT R Gs L r T0 = T := by
      have h3 := congrArg (List.map Prod.snd) i4
      rw [List.map_snd_zip (by omega), List.map_snd_zip (by omega)] at h3
      exact h3.symm
    rw [hTT] at ihR
    have ihR := ihR ds
    clear ih hTT i4 i1 z2 hany i2
    all_goals (refine go ?_; and_intros <;> (try exact trivial) <;> repeat (first | refine fun (Bk : Nat) => ?_ | intro h))
    repeat' ((first | (apply G.cV (g := 63); rfl; rfl; exact fun w' hw' => hcb w' (SlAt.ofBlk oV_len hw' (by exact mm)))) <;> (refine go ?_; and_intros <;> (try exact trivial) <;> repeat (first | refine fun (Bk : Nat) => ?_ | intro h)))
    exact J.finS ihR
  have hfew := i1.few hA hsu.len hC.nn
  obtain ⟨p', hp'⟩ : ∃ p', capZ (onR R) R.length (fsq Gs) (zz L T O) p = p' := ⟨_, rfl⟩
  have hrnd := i1.step hA hsu.len hC.nn hany hp'
  have hless := i1.inv.less hany
  have hstep := lpZ_step i1.inv hany
  rw [hp', step_zz i1.lt i1.lo] at hless hstep
  rw [hstep] at i4
  have hfew2 := (hrnd.few hA hsu.len hC.nn).2
  have hgr := fun g => rsT_grow i1 p' g
  have hUf : ∀ g, fewQ 21000 (rQ (unitZ (onR R) (zz L T O) g)) := fun g => by
    have := untS_few hC T O (onR R) g (zz L T O).length
    rw [untS, List.take_length] at this
    exact this
  have hEf := fun g => rsT_big hsu hC hfew.1 g
  have hpf := hfew.2
  have hamf : ∀ k, fewQ 100 (rQ (amK L k)) := fun k => by
    rcases Nat.lt_or_ge k L.length with h | h
    · rw [amK_at h]; exact hC.few _ (List.getElem_mem h)
    · rw [amK, List.getD_eq_getElem?_getD, List.getElem?_eq_none (by rw [List.length_map]; exact h)]; exact fewQ_zero
  have hun : gl R.length (sIt (onR R) (atI L (fun k => O.getD k false) (amK L) L.length)) = gl R.length (unitZ (onR R) (zz L T O)) := gl_congr fun g _ => sI_unit hTl hol g
  have hsm : ∀ (x y z : Nat) (M1 M : List Row) (w' : World), M.Perm ([.blk x 26 [.slice la L.length lc] 1, .blk y 119 [.func (.func 62) #[] #[.pointer (some ⟨B15, 0, none⟩)]] 1, .blk z 111 [.func (.func 66) #[] #[.pointer (some ⟨B3, 0, none⟩)]] 1, .blk B15 117 [.slice (some ⟨Bp, 0, none⟩) L.length L.length] 1, .blk Bp 4 (flat oV O) (L.length * 1), .blk B3 26 [.slice la L.length lc] 1] ++ M1) → Sat w M w' →
      Calls Tryz.prog 64 #[.slice ra R.length rc, .func (.func 130) #[] #[.pointer (some ⟨x, 0, none⟩), .pointer (some ⟨y, 0, none⟩), .pointer (some ⟨z, 0, none⟩)]] w' fun e w2 => ∃ Bu : Nat, e = .returned (.slice (some ⟨Bu, 0, none⟩) R.length R.length) ∧ Sat w ([.blk Bu 29 (flat qF (gl R.length (sIt (onR R) (atI L (fun k => O.getD k false) (amK L) L.length)))) (R.length * 3)] ++ M) w2 :=
    fun x y z M1 M w' hpm hw' => (summed_holds w M1 _ w' 130 #[.pointer (some ⟨x, 0, none⟩), .pointer (some ⟨y, 0, none⟩), .pointer (some ⟨z, 0, none⟩)] ra R rc (atI L (fun k => O.getD k false) (amK L) L.length) hS.riv hR (at_iter w [.blk B15 117 [.slice (some ⟨Bp, 0, none⟩) L.length L.length] 1, .blk Bp 4 (flat oV O) (L.length * 1), .blk B3 26 [.slice la L.length lc] 1] x y z la L lc (fun k => O.getD k false) (amK L) 62 66 #[.pointer (some ⟨B15, 0, none⟩)] #[.pointer (some ⟨B3, 0, none⟩)] hL (by omega) (fun k hk M w' hw' => aIs_holds w (.blk B3 26 [.slice la L.length lc] 1 :: M) w' B15 Bp O L.length (L.length * 1) k hol hk hw') (fun k hk _ M w' hw' => aNm_holds w [] w' B3 la L lc k hL hk (hw'.forget (.cons _ (.cons _ (.cons_cons _ (List.nil_sublist _))))))) (fun e he => (atI_pl hC.pl he).1) (fun i _ g => atI_big (k := 100) (by decide) (by decide) (by omega) hamf _ i g) (fun e he => by obtain ⟨i, hi⟩ := (atI_pl hC.pl he).2; rw [hi]; exact (hamf i).big (by decide)) (hw'.perm hpm)).mono fun e w2 ⟨Bu, e1, e2⟩ => ⟨Bu, e1, e2.perm (hpm.symm.cons _)⟩
  rw [hun] at hsm
  rw [capZ, restZ_zz hTl hol] at hp'
  have hnl2 := nxO_len (R := R) (Gs := Gs) (L := L) (T := grT L T O p') (O := O) (p := p') hol
  have hng := fun k (h1 : k < L.length) (h2 : k < O.length) => nxO_get (R := R) (Gs := Gs) (L := L) (T := grT L T O p') (O := O) (p := p') h1 h2
  have hgg := fun k (h0 : k < L.length) (h1 : k < T.length) (h2 : k < O.length) => grT_get (p := p') h0 h1 h2
  have hgl := grT_len hTl hol p'
  have ihP := fun B19 ds2 => ih (grT L T O p', nxO R Gs L (grT L T O p') O p', p', rQ p', B19, ds2) ⟨hrnd, rfl, i4⟩ hless
  dsimp only at ihP
  clear ih hrnd hless i4 hstep hany i1 hfew hamf hun z2 hT0
  generalize nxO R Gs L (grT L T O p') O p' = N at *
  generalize grT L T O p' = T' at *
  generalize rsT R Gs L T' = E' at *
  generalize rsT R Gs L T = E at *
  generalize unitZ (onR R) (zz L T O) = U at *
  have hcf : ∀ M : List Nat, fewQ 7000000 (rQ (capF U E p M 1)) := fun M => by
    rcases capF_or (u := U) (e := E) (p := p) (L := M) (b := 1) with h | ⟨g, _, _, h⟩
    · rw [h]; exact fewQ_le one_few (by decide)
    · rw [h]; exact fewQ_le (fewQ_add hpf (fewQ_quo (hEf g) (hUf g) (by decide) (by decide)) (by decide) (by decide)) (by decide)
  have hca := fun g => capF_app U E p g (List.range g) 1
  simp only [← List.range_succ] at hca
  have hc0 : capF U E p (List.range 0) 1 = 1 := rfl
  obtain ⟨cap, hcap⟩ : ∃ cap : Nat → Rat, (fun g => capF U E p (List.range g) 1) = cap := ⟨_, rfl⟩
  have hcap := fun g => congrFun hcap g
  have hcf := fun g => hcf (List.range g)
  simp only [hcap] at hca hcf hc0 hp'
  clear hcap
  have hone := fun w' => int_holds 1 w' (by decide) (by decide)
  have hsu1 := fun w' => vSub (x := 1) (y := p) (one_few.big (by decide)) (hpf.big (by decide)) w'
  rw [show ((1 : Int) : Rat) = 1 from rfl] at hone
  have hb0 : rQ (1 - p) = rQ (cap 0 - p) := by rw [hc0]
  rw [hb0, ← i2] at hsu1
  generalize rQ 1 = q1 at *
  obtain ⟨s1, u1, v1⟩ := q1
  have hmul := fun g => vMul (y := p' - p) ((hUf g).big (by decide))
  dsimp only [qA] at hone hsu1
  obtain ⟨qc, hqc⟩ : ∃ qc, rQ (cap 0 - p) = qc := ⟨_, rfl⟩
  rw [hqc] at hsu1
  have hbz : True := trivial
  obtain ⟨s2, u2, v2⟩ := qc
  dsimp only at hsu1
  all_goals (refine goR ?_; and_intros <;> (try exact trivial) <;> repeat (first | refine fun (Bk : Nat) => ?_ | intro h))
  repeat' ((first | (apply J.regA (.q 0 <| .q 1 <| .q 2 <| .q 3 <| .q 4 <| .e 5 <| .r 6 <| .q 7 <| .nil); exact Tryz.mixed; decide +kernel) | (apply J.regA (.q 0 <| .q 1 <| .q 2 <| .e 3 <| .r 4 <| .nil); exact Tryz.mixed; decide +kernel) | (apply G.cV (g := 63); rfl; rfl; exact fun w' hw' => hcb w' (SlAt.ofBlk oV_len hw' (by exact mm))) | (apply G.cR (g := 65) (v := fun x : Nat × Nat × Nat => .func (.func 130) #[] #[.pointer (some ⟨x.1, 0, none⟩), .pointer (some ⟨x.2.1, 0, none⟩), .pointer (some ⟨x.2.2, 0, none⟩)]) (Mn := fun x => [.blk x.1 26 [.slice la L.length lc] 1, .blk x.2.1 119 [.func (.func 62) #[] #[.pointer (some ⟨B15, 0, none⟩)]] 1, .blk x.2.2 111 [.func (.func 66) #[] #[.pointer (some ⟨B3, 0, none⟩)]] 1]); rfl; rfl; exact fun w' hw' => clmAt_holds w _ w' la L.length lc _ _ _ _ hw'; rintro ⟨Bx, By, Bz⟩; dsimp only) | (apply G.cR (g := 64) (v := fun B : Nat => .slice (some ⟨B, 0, none⟩) R.length R.length) (Mn := fun B => [.blk B 29 (flat qF (gl R.length U)) (R.length * 3)]); rfl; rfl; exact fun w' hw' => hsm Bx By Bz _ _ w' (by (repeat (first | exact List.Perm.refl _ | (refine pickT (by (repeat (first | exact Pick.head | apply Pick.tail))) ?_)))) hw'; intro Bu) | (apply G.cV (g := 58); rfl; rfl; exact fun w' _ => hone w') | (apply G.cV (g := 67); rfl; rfl; exact fun w' _ => hsu1 w') | (apply J.regQ; exact Tryz.mixed; decide +kernel) | (apply J.regL'; exact Tryz.mixed; decide +kernel)) <;> (refine goR ?_; and_intros <;> (try exact trivial) <;> repeat (first | refine fun (Bk : Nat) => ?_ | intro h)))
  revert Bk; intro B21
  have hca : ∀ g, cap (g + 1) = if U g = 0 then cap g else qmin (cap g) (p + E g / U g) := hca
  clear hsm hcb hone hsu1 hb hg0
  refine J.loop (c := _) ((0, ⟨s2, u2, v2⟩) : Nat × Q3) (fun s => R.length - s.1) (fun s => [(2, .pointer (some ⟨B2, 0, none⟩)), (3, .pointer (some ⟨B3, 0, none⟩)), (7, .pointer (some ⟨B7, 0, none⟩)), (9, .slice (some ⟨Bo, 0, none⟩) L.length L.length), (15, .pointer (some ⟨B15, 0, none⟩)), (18, .func (.func 62) #[] #[.pointer (some ⟨B15, 0, none⟩)]), (19, .pointer (some ⟨B19, 0, none⟩)), (20, .slice (some ⟨Bu, 0, none⟩) R.length R.length), (21, .pointer (some ⟨B21, 0, none⟩)), (58, .slice (some ⟨ba, oa, none⟩) S.length cu), (59, .int .i64 S.length), (60, .int .i64 i), (102, .slice (some ⟨Bu, 0, none⟩) R.length R.length), (103, .int .i64 R.length), (104, .int .i64 s.1)]) (fun s => .blk B21 29 (qV s.2) 3 :: .blk Bu 29 (flat qF (gl R.length U)) (R.length * 3) :: .blk B19 29 [.bool s0, .string (bs u0), .string (bs v0)] 3 :: .blk B15 117 [.slice (some ⟨Bp, 0, none⟩) L.length L.length] 1 :: .blk Bp 4 (flat oV O) (L.length * 1) :: slRow w.heap.size (some ⟨ba, oa, none⟩) 1 (S.map isV) :: .blk Bo 29 (flat qF T) (L.length * 3) :: .blk B7 23 [.slice (some ⟨Bl, 0, none⟩) R.length R.length] 1 :: .blk Bl 29 (flat qF (gl R.length E)) (R.length * 3) :: .blk B3 26 [.slice la L.length lc] 1 :: .blk B2 25 [.slice ra R.length rc, .slice ga Gs.length gc] 2 :: Sl.mk ds) (fun s => s.1 ≤ R.length ∧ s.2 = rQ (cap s.1 - p)) ?_ sbT sbL ?_
  · exact ⟨Nat.zero_le _, hqc.symm⟩
  clear hqc hb0 hc0
  intro ⟨g, q⟩ ⟨h1, h2⟩ ih
  dsimp only at h1 h2 ⊢
  by_cases hg : g < R.length
  · skip
    --<<
    have hcg := hca g
    have ihN := ih (g + 1, rQ (cap (g + 1) - p)) ⟨hg, rfl⟩ (by dsimp only; omega)
    dsimp only at ihN
    have hEg := hEf g
    have hUg := hUf g
    have hcp := fewQ_sub (hcf g) hpf (by decide) (by decide)
    have hog1 : (gl R.length U)[g]? = some (U g) := by rw [List.getElem?_eq_getElem (by rw [gl_len]; exact hg), gl_get]
    have hog2 : (gl R.length E)[g]? = some (E g) := by rw [List.getElem?_eq_getElem (by rw [gl_len]; exact hg), gl_get]
    have hld1 := fun {C : Ctx} {M} [TAgg C.P 29 3] (hm : Row.blk Bu 29 (flat qF (gl R.length U)) (R.length * 3) ∈ M) => LdV.flat (C := C) (M := M) (T := 29) (n := 3) qF_len hm hog1 rfl
    have hld2 := fun {C : Ctx} {M} [TAgg C.P 29 3] (hm : Row.blk Bl 29 (flat qF (gl R.length E)) (R.length * 3) ∈ M) => LdV.flat (C := C) (M := M) (T := 29) (n := 3) qF_len hm hog2 rfl
    have hz := rQ_zero (x := U g)
    have hdv := fun h0 => vDiv (hEg.big (by decide)) (hUg.big (by decide)) h0
    have hmi := vMin (hcp.big (by decide)) ((fewQ_quo hEg hUg (by decide) (by decide)).big (by decide))
    rw [qmin_shift, ← h2] at hmi
    clear ih hcf hca hEf hUf hgr hmul hng hgg ihP ihR hp' hog1 hog2 hEg hUg hcp hS hL hC
    generalize gl R.length U = X1 at *
    generalize gl R.length E = X2 at *
    rw [qF] at hld1 hld2
    by_cases hz0 : U g = 0
    · rw [if_pos hz0] at hcg
      rw [hcg, ← h2] at ihN
      have hz := hz.2 hz0
      clear hdv hmi h2 hcg
      generalize rQ (U g) = q3 at *
      generalize rQ (E g) = q4 at *
      obtain ⟨s3, u3, v3⟩ := q3
      obtain ⟨s4, u4, v4⟩ := q4
      obtain ⟨s5, u5, v5⟩ := q
      dsimp only [qV, qA] at *
      all_goals (refine goR ?_; and_intros <;> (try exact trivial) <;> repeat (first | refine fun (Bk : Nat) => ?_ | intro h))
      repeat' ((first | (apply G.cV (g := 61); rfl; rfl; exact fun w' _ => hzc w') | (apply G.ld; rfl; exact hld1 (by exact mm); rfl) | (apply G.neR ⟨s3, u3, v3⟩ zero3; rfl; rfl; rfl; all_goals intro h; all_goals try (exact absurd hz h)) | (apply J.regQ; exact Tryz.mixed; decide +kernel) | (apply J.regL'; exact Tryz.mixed; decide +kernel)) <;> (refine goR ?_; and_intros <;> (try exact trivial) <;> repeat (first | refine fun (Bk : Nat) => ?_ | intro h)))
      exact J.finS ihN
    · rw [if_neg hz0] at hcg
      rw [hcg] at ihN
      have hz : ¬ _ := fun e => hz0 (hz.1 e)
      have hdv := hdv hz0
      clear h2 hcg
      generalize rQ (qmin (cap g) (p + E g / U g) - p) = q9 at *
      generalize rQ (E g / U g) = q8 at *
      generalize rQ (U g) = q3 at *
      generalize rQ (E g) = q4 at *
      obtain ⟨s3, u3, v3⟩ := q3
      obtain ⟨s4, u4, v4⟩ := q4
      obtain ⟨s5, u5, v5⟩ := q
      obtain ⟨s8, u8, v8⟩ := q8
      obtain ⟨s9, u9, v9⟩ := q9
      dsimp only [qV, qA] at *
      all_goals (refine goR ?_; and_intros <;> (try exact trivial) <;> repeat (first | refine fun (Bk : Nat) => ?_ | intro h))
      repeat' ((first | (apply J.regA (.q 0 <| .q 1 <| .q 2 <| .q 3 <| .q 4 <| .q 5 <| .q 6 <| .q 7 <| .q 8 <| .e 9 <| .r 10 <| .q 11 <| .nil); exact Tryz.mixed; decide +kernel) | (apply G.cV (g := 61); rfl; rfl; exact fun w' _ => hzc w') | (apply G.ld; rfl; exact hld1 (by exact mm); rfl) | (apply G.ld; rfl; exact hld2 (by exact mm); rfl) | (apply G.neR ⟨s3, u3, v3⟩ zero3; rfl; rfl; rfl; all_goals intro h; all_goals try (exact absurd h hz)) | (apply G.cV (g := 68); rfl; rfl; exact fun w' _ => hdv w') | (apply G.cV (g := 69); rfl; rfl; exact fun w' _ => hmi w') | (apply J.regQ; exact Tryz.mixed; decide +kernel) | (apply J.regL'; exact Tryz.mixed; decide +kernel)) <;> (refine goR ?_; and_intros <;> (try exact trivial) <;> repeat (first | refine fun (Bk : Nat) => ?_ | intro h)))
      exact J.finS ihN
    -->>
  obtain rfl : g = R.length := by omega
  rw [hp'] at h2
  clear ih hcf hca hp'
  have hdf := fewQ_sub hfew2 hpf (by decide) (by decide)
  have had := vAdd (hpf.big (by decide)) (hdf.big (by decide))
  rw [show p + (p' - p) = p' by grind, ← h2, ← i2] at had
  have hmul := fun g => hmul g (hdf.big (by decide))
  simp only [← h2] at hmul
  have hsb := fun g => vSub ((hEf g).big (by decide)) ((fewQ_mul (hUf g) hdf (by decide) (by decide)).big (by decide))
  simp only [← hgr] at hsb
  clear h2 hdf i2
  obtain ⟨q', hq'⟩ : ∃ q', rQ p' = q' := ⟨_, rfl⟩
  rw [hq'] at had
  simp only [hq'] at ihP
  obtain ⟨s6, u6, v6⟩ := q'
  obtain ⟨s5, u5, v5⟩ := q
  dsimp only [qV, qA] at *
  all_goals (refine go ?_; and_intros <;> (try exact trivial) <;> repeat (first | refine fun (Bk : Nat) => ?_ | intro h))
  repeat' ((first | (apply G.cV (g := 15); rfl; rfl; exact fun w' _ => had w')) <;> (refine go ?_; and_intros <;> (try exact trivial) <;> repeat (first | refine fun (Bk : Nat) => ?_ | intro h)))
  clear had
  obtain ⟨F, hF⟩ : ∃ F : Nat → Nat → Rat, (fun s t => if t < s then E' t else E t) = F := ⟨_, rfl⟩
  have hF : ∀ s t, (if t < s then E' t else E t) = F s t := fun s t => congrFun (congrFun hF s) t
  have hF0 : gl R.length E = gl R.length (F 0) := gl_congr fun g _ => by rw [← hF, if_neg (Nat.not_lt_zero _)]
  have hFn : gl R.length (F R.length) = gl R.length E' := gl_congr fun g h => by rw [← hF, if_pos h]
  have hFo : ∀ g, F g g = E g := fun g => by rw [← hF, if_neg (Nat.lt_irrefl _)]
  have hFs : ∀ g, F (g + 1) g = E' g := fun g => by rw [← hF, if_pos (Nat.lt_succ_self _)]
  have hFx : ∀ g t, t ≠ g → F (g + 1) t = F g t := fun g t ht => by
    rw [← hF, ← hF]
    by_cases h : t < g
    · rw [if_pos h, if_pos (by omega)]
    · rw [if_neg h, if_neg (by omega)]
  rw [hF0]
  clear hF hF0
  refine J.loop (c := _) (0 : Nat) (fun s => R.length - s) (fun s => [(2, .pointer (some ⟨B2, 0, none⟩)), (3, .pointer (some ⟨B3, 0, none⟩)), (7, .pointer (some ⟨B7, 0, none⟩)), (9, .slice (some ⟨Bo, 0, none⟩) L.length L.length), (15, .pointer (some ⟨B15, 0, none⟩)), (18, .func (.func 62) #[] #[.pointer (some ⟨B15, 0, none⟩)]), (19, .pointer (some ⟨B19, 0, none⟩)), (21, .pointer (some ⟨B21, 0, none⟩)), (58, .slice (some ⟨ba, oa, none⟩) S.length cu), (59, .int .i64 S.length), (60, .int .i64 i), (128, .slice (some ⟨Bu, 0, none⟩) R.length R.length), (129, .int .i64 R.length), (130, .int .i64 s)]) (fun s => .blk B21 29 [.bool s5, .string (bs u5), .string (bs v5)] 3 :: .blk Bu 29 (flat qF (gl R.length U)) (R.length * 3) :: .blk B19 29 [.bool s6, .string (bs u6), .string (bs v6)] 3 :: .blk B15 117 [.slice (some ⟨Bp, 0, none⟩) L.length L.length] 1 :: .blk Bp 4 (flat oV O) (L.length * 1) :: slRow w.heap.size (some ⟨ba, oa, none⟩) 1 (S.map isV) :: .blk Bo 29 (flat qF T) (L.length * 3) :: .blk B7 23 [.slice (some ⟨Bl, 0, none⟩) R.length R.length] 1 :: .blk Bl 29 (flat qF (gl R.length (F s))) (R.length * 3) :: .blk B3 26 [.slice la L.length lc] 1 :: .blk B2 25 [.slice ra R.length rc, .slice ga Gs.length gc] 2 :: Sl.mk ds) (fun s => s ≤ R.length) ?_ sbT sbL ?_
  · exact Nat.zero_le _
  intro g h1 ih
  by_cases hg : g < R.length
  · skip
    --<<
    have ihN := ih (g + 1) hg (by omega)
    have hog1 : (gl R.length U)[g]? = some (U g) := by rw [List.getElem?_eq_getElem (by rw [gl_len]; exact hg), gl_get]
    have hog2 : (gl R.length (F g))[g]? = some (E g) := by rw [List.getElem?_eq_getElem (by rw [gl_len]; exact hg), gl_get, hFo]
    have hld1 := fun {C : Ctx} {M} [TAgg C.P 29 3] (hm : Row.blk Bu 29 (flat qF (gl R.length U)) (R.length * 3) ∈ M) => LdV.flat (C := C) (M := M) (T := 29) (n := 3) qF_len hm hog1 rfl
    have hld2 := fun {C : Ctx} {M} [TAgg C.P 29 3] (hm : Row.blk Bl 29 (flat qF (gl R.length (F g))) (R.length * 3) ∈ M) => LdV.flat (C := C) (M := M) (T := 29) (n := 3) qF_len hm hog2 rfl
    have hset := fun Q (h : rQ (E' g) = Q) => qF_set1 (O := gl R.length (F g)) (i := g) (by rw [gl_len]; exact hg) h
    rw [gl_set (f' := F (g + 1)) (hFs g) (hFx g)] at hset
    have hlen3 : 0 + g * 3 + 3 ≤ (flat qF (gl R.length (F g))).length := by rw [flat_len qF_len, gl_len]; omega
    have hmul := hmul g
    have hsb := hsb g
    clear ih hEf hUf hgr hng hgg ihP ihR hog1 hog2 hS hL hC hFo hFs hFx hFn
    generalize gl R.length (F g) = X2 at *
    generalize gl R.length (F (g + 1)) = X3 at *
    generalize gl R.length U = X1 at *
    rw [qF] at hld1 hld2
    generalize rQ (U g * (p' - p)) = q9 at *
    generalize rQ (U g) = q1 at *
    generalize rQ (E g) = q2 at *
    obtain ⟨q4, hq4⟩ : ∃ q4, rQ (E' g) = q4 := ⟨_, rfl⟩
    have hset := hset q4 hq4
    rw [hq4] at hsb
    clear hq4
    obtain ⟨s1, u1, v1⟩ := q1
    obtain ⟨s2, u2, v2⟩ := q2
    obtain ⟨s4, u4, v4⟩ := q4
    obtain ⟨s9, u9, v9⟩ := q9
    dsimp only [qV, qA] at *
    all_goals (refine goR ?_; and_intros <;> (try exact trivial) <;> repeat (first | refine fun (Bk : Nat) => ?_ | intro h))
    repeat' ((first | (apply J.regA (.q 0 <| .q 1 <| .q 2 <| .q 3 <| .q 4 <| .q 5 <| .q 6 <| .q 7 <| .q 8 <| .q 9 <| .q 10 <| .r 11 <| .nil); exact Tryz.mixed; decide +kernel) | (apply G.ld; rfl; exact hld1 (by exact mm); rfl) | (apply G.ld; rfl; exact hld2 (by exact mm); rfl) | (apply G.cV (g := 17); rfl; rfl; exact fun w' _ => hmul w') | (apply G.cV (g := 67); rfl; rfl; exact fun w' _ => hsb w') | (apply G.sA; rfl; rfl; rfl; (repeat (first | exact RAt.head | apply RAt.tail)); rfl; rfl; exact hlen3; exact hset) | (apply J.regQ; exact Tryz.mixed; decide +kernel) | (apply J.regL'; exact Tryz.mixed; decide +kernel)) <;> (refine goR ?_; and_intros <;> (try exact trivial) <;> repeat (first | refine fun (Bk : Nat) => ?_ | intro h)))
    exact J.finS ihN
    -->>
  obtain rfl : g = R.length := by omega
  rw [hFn]
  clear ih hFn hFo hFs hFx hEf hUf hgr hmul hsb hpf hbz
  all_goals (refine go ?_; and_intros <;> (try exact trivial) <;> repeat (first | refine fun (Bk : Nat) => ?_ | intro h))
  have hpl := fun k (h : k < L.length) => hC.pl _ (List.getElem_mem h)
  have haf := fun k (h : k < L.length) => fewQ.big (hC.few _ (List.getElem_mem h)) (by decide)
  have hone := fun w' => int_holds 1 w' (by decide) (by decide)
  rw [show ((1 : Int) : Rat) = 1 from rfl] at hone
  have hp1 : decide (⟨s6, u6, v6⟩ ≠ rQ 1) = decide (p' ≠ 1) := by
    rw [← hq']
    have : rQ p' = rQ 1 ↔ p' = 1 := ⟨fun e => by have := congrArg qR e; rwa [qR_rQ, qR_rQ] at this, fun e => by rw [e]⟩
    simp only [Ne, this]
  have hmulA := fun k (h : k < L.length) => vMul (haf k h) (hfew2.big (by decide))
  rw [hq'] at hmulA
  have hAr := hS.riv
  clear haf hfew2 hC hS hsu hA hg h1 hSl hnl hrk
  generalize rQ 1 = q1 at *
  obtain ⟨s1, u1, v1⟩ := q1
  obtain ⟨b0, hb0⟩ : ∃ b0, decide (p' ≠ 1) = b0 := ⟨_, rfl⟩
  rw [hb0] at hp1
  simp only [hb0] at hng
  dsimp only [qA] at hone
  rw [show flat oV O = flat oV (mixL N O 0) from by rw [mixL_zero], show flat qF T = flat qF (mixL T' T 0) from by rw [mixL_zero]]
  refine J.loopD (c := _) ((0, ds) : Nat × List Nat) (fun x => L.length - x.1) (fun x => x.2.map Sl.mark) (fun x => [(2, .pointer (some ⟨B2, 0, none⟩)), (3, .pointer (some ⟨B3, 0, none⟩)), (7, .pointer (some ⟨B7, 0, none⟩)), (9, .slice (some ⟨Bo, 0, none⟩) L.length L.length), (15, .pointer (some ⟨B15, 0, none⟩)), (18, .func (.func 62) #[] #[.pointer (some ⟨B15, 0, none⟩)]), (19, .pointer (some ⟨B19, 0, none⟩)), (58, .slice (some ⟨ba, oa, none⟩) S.length cu), (59, .int .i64 S.length), (60, .int .i64 i), (147, .slice la L.length lc), (148, .int .i64 L.length), (149, .int .i64 x.1)])
    (fun x => .blk B19 29 [.bool s6, .string (bs u6), .string (bs v6)] 3 :: .blk B15 117 [.slice (some ⟨Bp, 0, none⟩) L.length L.length] 1 :: .blk Bp 4 (flat oV (mixL N O x.1)) (L.length * 1) :: slRow w.heap.size (some ⟨ba, oa, none⟩) 1 (S.map isV) :: .blk Bo 29 (flat qF (mixL T' T x.1)) (L.length * 3) :: .blk B7 23 [.slice (some ⟨Bl, 0, none⟩) R.length R.length] 1 :: .blk Bl 29 (flat qF (gl R.length E')) (R.length * 3) :: .blk B3 26 [.slice la L.length lc] 1 :: .blk B2 25 [.slice ra R.length rc, .slice ga Gs.length gc] 2 :: Sl.mk x.2)
    (fun x => x.1 ≤ L.length) ?_ rfl (by (repeat' (first | exact trivial | refine ⟨rfl, ?_⟩))) (by (repeat' (first | exact List.Sublist.refl _ | apply List.Sublist.cons_cons | apply List.Sublist.cons))) ?_
  · exact Nat.zero_le _
  intro ⟨kc, ds⟩ k1 ih
  dsimp only at k1 ⊢
  by_cases hk : kc < L.length
  case neg =>
    obtain rfl : kc = L.length := by omega
    rw [show mixL N O L.length = N from by rw [← hol]; exact mixL_end (by omega), show mixL T' T L.length = T' from by rw [← hTl]; exact mixL_end (by omega)]
    clear ih hng hgg hmulA hpl
    all_goals (refine go ?_; and_intros <;> (try exact trivial) <;> repeat (first | refine fun (Bk : Nat) => ?_ | intro h))
    exact J.finS (ihP Bk ds)
  obtain ⟨bl, ol, rfl, hrl⟩ := SlAt.all hL (by omega)
  have hrk := hrl kc hk
  have kO : kc < O.length := by rw [hol]; exact hk
  have kN : kc < N.length := by rw [hnl2]; exact hk
  have kT : kc < T.length := by rw [hTl]; exact hk
  have kT' : kc < T'.length := by rw [hgl]; exact hk
  have hN := hng kc hk kO kN
  have hT := hgg kc hk kT kO kT'
  have hpk := hpl kc hk
  have hmk := hmulA kc hk
  have hso := stO_end hR (f := E') hpk b0
  have hOk := List.getElem?_eq_getElem kO
  have setN := mixL_set (N := N) (O := O) (k := kc) (by omega) kO kN
  have setT := mixL_set (N := T') (O := T) (k := kc) (by omega) kT kT'
  have samN := mixL_same (N := N) (O := O) (k := kc) (by omega) kO kN
  have samT := mixL_same (N := T') (O := T) (k := kc) (by omega) kT kT'
  have getN := mixL_get (N := N) (O := O) (k := kc) (by omega) kO
  have lenN := mixL_len (N := N) (O := O) (k := kc) (by omega)
  have lenT := mixL_len (N := T') (O := T) (k := kc) (by omega)
  have ihN := fun ds2 => ih (kc + 1, ds2) hk (by dsimp only; omega)
  dsimp only at ihN
  rw [← hso] at hN
  have hq1 := oGet getN
  have l1 : 0 + kc * 1 < (flat oV (mixL N O kc)).length := by rw [oLen, lenN]; omega
  have l2 : ∀ u, 0 + kc * 1 < (flat oV ((mixL N O kc).set kc u)).length := fun u => by rw [oLen, List.length_set, lenN]; omega
  have r1 := fun b => oSet (O := mixL N O kc) (k := kc) (by omega) b
  have r2 : ∀ u b, setL (flat oV ((mixL N O kc).set kc u)) (0 + kc * 1) [.bool b] = flat oV ((mixL N O kc).set kc b) := fun u b => by
    have := oSet (O := (mixL N O kc).set kc u) (k := kc) (by rw [List.length_set]; omega) b
    rwa [List.set_set] at this
  have q2 : ∀ u, (flat oV ((mixL N O kc).set kc u))[0 + kc * 1]? = some (.bool u) := fun u => oGet (by rw [List.getElem?_set_self (by omega)])
  have l3 : 0 + kc * 3 + 3 ≤ (flat qF (mixL T' T kc)).length := by rw [flat_len qF_len, lenT]; omega
  have r3 := fun Q (h : rQ T'[kc] = Q) => qF_set1 (O := mixL T' T kc) (i := kc) (by omega) h
  rw [setT] at r3
  clear ih hL hrl hng hgg hmulA hpl ihP ihR hso setT getN lenN lenT hRS
  generalize L[kc] = cl at *
  generalize O[kc]'_ = ok at *
  generalize N[kc]'_ = nk at *
  generalize T'[kc]'_ = tk' at *
  generalize T[kc]'_ = tk at *
  rw [← setN] at ihN samN
  clear setN
  generalize mixL N O kc = X1 at *
  generalize mixL T' T kc = Y1 at *
  generalize mixL T' T (kc + 1) = Y2 at *
  obtain ⟨pk, rk, am⟩ := cl
  rw [cmV, qF] at hrk
  dsimp only at *
  obtain ⟨qa, hqa⟩ : ∃ qa, rQ am = qa := ⟨_, rfl⟩
  rw [hqa] at hrk hmk
  clear hqa
  obtain ⟨s3, u3, v3⟩ := qa
  dsimp only [qV, qA] at hrk hmk
  cases ok
  · obtain rfl : nk = false := hN
    rw [if_neg (by decide)] at hT
    have samT := samT hT
    have samN := samN rfl
    subst samT
    rw [samN] at ihN
    clear hT hmk r3 l1 l2 l3 r1 r2 q2
    all_goals (refine go ?_; and_intros <;> (try exact trivial) <;> repeat (first | refine fun (Bk : Nat) => ?_ | intro h))
    repeat' ((first | (apply G.ld; rfl; (apply LdV.one; exact CellV.blk (by exact mm) hq1); rfl)) <;> (refine go ?_; and_intros <;> (try exact trivial) <;> repeat (first | refine fun (Bk : Nat) => ?_ | intro h)))
    exact J.finS (ihN ds)
  rw [Bool.true_and] at hN
  rw [if_pos rfl] at hT
  rw [← hT] at hmk
  clear samN samT hT
  obtain ⟨q7, hq7⟩ : ∃ q7, rQ tk' = q7 := ⟨_, rfl⟩
  rw [hq7] at hmk
  have r3 := r3 q7 hq7
  clear hq7
  obtain ⟨s7, u7, v7⟩ := q7
  dsimp only [qA, qV] at hmk r3
  all_goals (refine goR ?_; and_intros <;> (try exact trivial) <;> repeat (first | refine fun (Bk : Nat) => ?_ | intro h))
  repeat' ((first | (apply J.regA (.q 0 <| .q 1 <| .q 2 <| .q 3 <| .q 4 <| .q 5 <| .q 6 <| .r 7 <| .nil); exact Tryz.mixed; decide +kernel) | (apply J.regA (.q 0 <| .q 1 <| .q 2 <| .q 3 <| .q 4 <| .q 5 <| .r 6 <| .nil); exact Tryz.mixed; decide +kernel) | (apply G.ld; rfl; (apply LdV.one; exact CellV.blk (by exact mm) hq1); rfl) | (apply G.cV (g := 17); rfl; rfl; exact fun w' _ => hmk w') | (apply G.cV (g := 58); rfl; rfl; exact fun w' _ => hone w') | (apply G.neRb ⟨s6, u6, v6⟩ ⟨s1, u1, v1⟩ b0 hp1; rfl; rfl; rfl) | (apply G.sA; rfl; rfl; rfl; (repeat (first | exact RAt.head | apply RAt.tail)); rfl; rfl; exact l3; exact r3) | (apply G.s1; rfl; rfl; rfl; (repeat (first | exact RAt.head | apply RAt.tail)); exact ⟨rfl, rfl⟩; exact l1; exact r1 b0) | (apply G.cR (g := 70) (v := fun x : Nat × Nat => .func (.func 132) #[] #[.pointer (some ⟨x.1, 0, none⟩), .pointer (some ⟨x.2, 0, none⟩)]) (Mn := fun x => [.blk x.1 3 [.int .i64 pk] 1, .blk x.2 22 [.slice ra R.length rc] 1]); rfl; rfl; exact fun w' hw' => rdown_holds _ _ w' ra R rc pk hw'; rintro ⟨Bg, Bl2⟩; dsimp only) | (apply J.regQ; exact Tryz.mixed; decide +kernel) | (apply J.regL'; exact Tryz.mixed; decide +kernel)) <;> (refine goR ?_; and_intros <;> (try exact trivial) <;> repeat (first | refine fun (Bk : Nat) => ?_ | intro h)))
  rename_i B28
  revert Bk; intro B29
  clear hmk r3 l1 l3 r1 hp1 hone hq1
  refine J.rangeE1 (e1 := fun e : Int => .int .i64 e) (es := wayI R pk) (K := [.blk Bg 3 [.int .i64 pk] 1, .blk Bl2 22 [.slice ra R.length rc] 1]) (fun s : Nat × Bool => [.blk Bp 4 (flat oV (X1.set kc s.2)) (L.length * 1), .blk B15 117 [.slice (some ⟨Bp, 0, none⟩) L.length L.length] 1, .blk B28 3 [.int .i64 kc] 1, .blk B7 23 [.slice (some ⟨Bl, 0, none⟩) R.length R.length] 1, .blk Bl 29 (flat qF (gl R.length E')) (R.length * 3)]) (fun j s => s.1 = j ∧ s.2 = stO R E' pk b0 j) (fun _ _ => False) (0, b0) (.blk B19 29 [.bool s6, .string (bs u6), .string (bs v6)] 3 :: slRow w.heap.size (some ⟨ba, oa, none⟩) 1 (S.map isV) :: .blk Bo 29 (flat qF Y2) (L.length * 3) :: .blk B3 26 [.slice (some ⟨bl, ol, none⟩) L.length lc] 1 :: .blk B2 25 [.slice ra R.length rc, .slice ga Gs.length gc] 2 :: .blk B29 40 [.int .i64 pk, .int .i64 rk, .bool s3, .string (bs u3), .string (bs v3)] 5 :: Sl.mk ds) (rdown_iter w Bg Bl2 ra R rc pk hAr hR hpk) rfl rfl rfl (by (repeat (first | exact List.Perm.refl _ | (refine pickT (by (repeat (first | exact Pick.head | apply Pick.tail))) ?_)))) ⟨rfl, (Bool.and_true _).symm⟩ ?_ ?_ ?_
  · intro j ⟨x, bo⟩ e ⟨i1, i2⟩ he L0 rr M' hrs hrp
    obtain ⟨hj, rfl⟩ := wayI_at he
    dsimp only at i1 i2 ⊢
    subst i1
    have hd := hR.dep (g := (pk : Int)) (by omega)
    have h0 := hd.2.2 x hj
    have hlt := (hR.in_ x (g := (pk : Int)) (by omega) (by omega)).2
    have hsu := stO_succ R E' pk b0 x
    rw [← i2] at hsu
    clear he hd hN ihN
    generalize itr R x (pk : Int) = e at *
    obtain ⟨g, rfl⟩ : ∃ g : Nat, e = g := ⟨e.toNat, by omega⟩
    have hg : g < R.length := by omega
    rw [Int.toNat_natCast] at hsu
    have hog2 : (gl R.length E')[g]? = some (E' g) := by rw [List.getElem?_eq_getElem (by rw [gl_len]; exact hg), gl_get]
    have hld2 := fun {C : Ctx} {M} [TAgg C.P 29 3] (hm : Row.blk Bl 29 (flat qF (gl R.length E')) (R.length * 3) ∈ M) => LdV.flat (C := C) (M := M) (T := 29) (n := 3) qF_len hm hog2 rfl
    clear hog2
    obtain ⟨X3, hX3⟩ : ∃ X3, gl R.length E' = X3 := ⟨_, rfl⟩
    rw [hX3]
    rw [hX3] at hld2
    obtain ⟨bn, hbn⟩ : ∃ bn, stO R E' pk b0 (x + 1) = bn := ⟨_, rfl⟩
    rw [hbn] at hsu
    have q3 := q2 bo
    have l3 := l2 bo
    have r3 := r2 bo bn
    clear q2 l2 r2
    have hqz := rQ_zero (x := E' g)
    rw [qF] at hld2
    generalize rQ (E' g) = q1 at *
    obtain ⟨s1, u1, v1⟩ := q1
    dsimp only [qV, qA] at *
    cases bo
    · obtain rfl : bn = false := hsu
      all_goals (refine goR ?_; and_intros <;> (try exact trivial) <;> repeat (first | refine fun (Bk : Nat) => ?_ | intro h))
      repeat' ((first | (refine J.beginR rfl (i := 0) rfl hrs ?_) | (apply J.regA (.q 0 <| .q 1 <| .q 2 <| .q 3 <| .q 4 <| .q 5 <| .q 6 <| .q 7 <| .q 8 <| .q 9 <| .q 10 <| .q 11 <| .q 12 <| .q 13 <| .q 14 <| .r 15 <| .nil); exact Tryz.mixed; decide +kernel) | (apply G.ld; rfl; (apply LdV.one; exact CellV.blk (by exact mm) q3); rfl) | (apply G.s1; rfl; rfl; rfl; (repeat (first | exact RAt.head | apply RAt.tail)); exact ⟨rfl, rfl⟩; exact l3; exact r3) | (apply J.regQ; exact Tryz.mixed; decide +kernel) | (apply J.regL'; exact Tryz.mixed; decide +kernel)) <;> (refine goR ?_; and_intros <;> (try exact trivial) <;> repeat (first | refine fun (Bk : Nat) => ?_ | intro h)))
      subst hX3
      exact J.sel (leaveG hrs hrp (x + 1, false) ⟨rfl, hbn.symm⟩ rfl)
    · have hq0 : decide ((⟨s1, u1, v1⟩ : Q3) ≠ zero3) = bn := by
        rw [hsu, Bool.true_and]
        simp only [Ne, hqz]
      all_goals (refine goR ?_; and_intros <;> (try exact trivial) <;> repeat (first | refine fun (Bk : Nat) => ?_ | intro h))
      repeat' ((first | (refine J.beginR rfl (i := 0) rfl hrs ?_) | (apply J.regA (.q 0 <| .q 1 <| .q 2 <| .q 3 <| .q 4 <| .q 5 <| .q 6 <| .q 7 <| .q 8 <| .q 9 <| .q 10 <| .q 11 <| .q 12 <| .q 13 <| .q 14 <| .r 15 <| .nil); exact Tryz.mixed; decide +kernel) | (apply G.ld; rfl; (apply LdV.one; exact CellV.blk (by exact mm) q3); rfl) | (apply G.ld; rfl; exact hld2 (by exact mm); rfl) | (apply G.cV (g := 61); rfl; rfl; exact fun w' _ => hzc w') | (apply G.neRb ⟨s1, u1, v1⟩ zero3 bn hq0; rfl; rfl; rfl) | (apply G.s1; rfl; rfl; rfl; (repeat (first | exact RAt.head | apply RAt.tail)); exact ⟨rfl, rfl⟩; exact l3; exact r3) | (apply J.regQ; exact Tryz.mixed; decide +kernel) | (apply J.regL'; exact Tryz.mixed; decide +kernel)) <;> (refine goR ?_; and_intros <;> (try exact trivial) <;> repeat (first | refine fun (Bk : Nat) => ?_ | intro h)))
      subst hX3
      exact J.sel (leaveG hrs hrp (x + 1, bn) ⟨rfl, hbn.symm⟩ rfl)
  · intro Bd ⟨x, bo⟩ ⟨i1, i2⟩
    dsimp only at i1 i2 ⊢
    rw [wayI_len] at i2
    rw [i2, ← hN]
    have ihN := ihN (Bd :: ds)
    all_goals (refine go ?_; and_intros <;> (try exact trivial) <;> repeat (first | refine fun (Bk : Nat) => ?_ | intro h))
    exact J.finS ihN
  · intro _ _ _ h
    exact h.elim
end Go.Proofs.YtcdgibkbbcekhaaGreatDoor
