/-
  Contract of settle.
-/
import Derived.Test.YtjfbdffcgapdlaaL

namespace Go.Proofs.Ytjfbdffcgapdlaa
open Go.RowKit Go.Sl


def stpS (x : List Int × Bool) (e : Ed) : List Int × Bool := if x.1.getD e.2.1 0 < x.1.getD e.1 0 + e.2.2 then (x.1.set e.2.1 (x.1.getD e.1 0 + e.2.2), false) else x
def passS (es : List Ed) (l : List Int) : List Int × Bool := es.foldl stpS (l, true)
def settleS (es : List Ed) : Nat → List Int → List Int × Bool
  | 0, l => (l, false)
  | k + 1, l => if (passS es l).2 = true then ((passS es l).1, true) else settleS es k (passS es l).1

def BndL (N : Int) (l : List Int) : Prop := ∀ i, -N ≤ l.getD i 0 ∧ l.getD i 0 ≤ N
theorem getD_set (l : List Int) (i : Nat) (v : Int) (j : Nat) : (l.set i v).getD j 0 = if i = j ∧ i < l.length then v else l.getD j 0 := by
  simp only [List.getD_eq_getElem?_getD, List.getElem?_set]
  by_cases h : i = j
  · subst h
    by_cases h2 : i < l.length
    · simp [h2]
    · simp [h2]
  · simp [h]
theorem stpS_bnd {N : Int} {n : Nat} {x : List Int × Bool} {e : Ed} (he : okEd n e) (h : BndL N x.1) : BndL (N + 9000000) (stpS x e).1 := by
  intro j
  have h1 := h j
  have h2 := h e.1
  obtain ⟨_, _, h3, h4⟩ := he
  rw [stpS]
  split
  · dsimp only
    rw [getD_set]
    split <;> omega
  · omega
theorem stpS_len (x : List Int × Bool) (e : Ed) : (stpS x e).1.length = x.1.length := by
  rw [stpS]; split <;> simp

theorem flat_in {l : List Int} {i : Nat} (h : i < l.length) : (flat inV l)[0 + i * 1]? = some (.int .i64 (l.getD i 0)) := by
  rw [Nat.zero_add, List.getD_eq_getElem?_getD, List.getElem?_eq_getElem h, Option.getD_some]
  exact flat_at inV_len h (j := 0) (by decide)
theorem flat_inset {l : List Int} {i : Nat} {v : Int} (h : i < l.length) : setL (flat inV l) (0 + i * 1) [.int .i64 v] = flat inV (l.set i v) := by
  rw [Nat.zero_add]; exact flat_set inV_len h v

theorem c43 (w0 : World) (K : List Row) (f : FuncId) [hF : Fun Try.prog f] (cap : Array Value) (es : List Ed) (n g c tot : Nat) (l0 : List Int) (hIt : IterF Try.prog w0 K f cap edA es) (hok : ∀ e ∈ es, okEd n e) (hes : es.length ≤ 400) (hn : n ≤ 40) (hl0 : l0.length = n) (hb0 : BndL 2000 l0)
    (M1 : List Row) (w : World) (hw : Sat w0 (K ++ (.blk g 3 (flat inV l0) tot :: M1)) w) :
    Calls Try.prog 43 #[.slice (some ⟨g, 0, none⟩) n c, .func (.func f) #[] cap, .func (.func 42) #[] #[]] w fun e w' => e = .returned (.bool (settleS es (n + 2) l0).2) ∧ Sat w0 (K ++ (.blk g 3 (flat inV (settleS es (n + 2) l0).1) tot :: M1)) w' := by
  refine enterM [(0, .slice (some ⟨g, 0, none⟩) n c), (1, .func (.func f) #[] cap), (2, .func (.func 42) #[] #[])] hw Try.func43 rfl Try.ntmps43 (by simp) ⟨rfl, rfl, rfl, trivial⟩ ?_
  repeat' (first
    | (apply G.move; rfl; (first | exact Wn.none | exact Wn.some rfl rfl); rfl; rfl)
    | (apply G.assign; rfl; (first | exact Wn.none | exact Wn.some rfl rfl); rfl; rfl)
    | (apply G.fieldAddr; rfl; (first | exact Wn.none | exact Wn.some rfl rfl); rfl; rfl)
    | (apply G.load; rfl; (first | (apply LdV.one; (first | exact CellV.row0 (by assumption) rfl | exact CellV.rowS (by assumption) rfl | exact CellV.blk (.head _) rfl | exact CellV.blk (.tail _ (.head _)) rfl | exact CellV.blk (.tail _ (.tail _ (.head _))) rfl | exact CellV.blk (.tail _ (.tail _ (.tail _ (.head _)))) rfl | exact CellV.blk (.tail _ (.tail _ (.tail _ (.tail _ (.head _))))) rfl | exact CellV.blk (.tail _ (.tail _ (.tail _ (.tail _ (.tail _ (.head _)))))) rfl)) | (apply LdV.aggBlk; (first | exact .head _ | exact .tail _ (.head _) | exact .tail _ (.tail _ (.head _)) | exact .tail _ (.tail _ (.tail _ (.head _))) | exact .tail _ (.tail _ (.tail _ (.tail _ (.head _)))) | exact .tail _ (.tail _ (.tail _ (.tail _ (.tail _ (.head _)))))); rfl) | (apply LdV.aggRow; assumption; rfl)); (first | exact Wn.none | exact Wn.some rfl rfl); rfl; rfl)
    | (apply G.nil; rfl)
    | apply J.seq
    | (apply J.condT; rfl)
    | (apply J.condF; rfl)
    | apply J.skip
    | apply J.block
    | apply J.inBlock
    | (apply J.exit; rfl)
    | (apply G.skip; rfl; rfl; rfl; rfl; rfl)
    | (apply G.lenSlice; rfl; (first | exact Wn.none | exact Wn.some rfl rfl); rfl; rfl)
    | (apply G.indexAddr; rfl; rfl; rfl; omega; (first | exact Wn.none | exact Wn.some rfl rfl); rfl; rfl)
    | (apply G.notT; rfl; (first | exact Wn.none | exact Wn.some rfl rfl); rfl; rfl)
    | (apply G.notF; rfl; (first | exact Wn.none | exact Wn.some rfl rfl); rfl; rfl)
    | (apply G.pickT; rfl; rfl; (first | exact Wn.none | exact Wn.some rfl rfl); rfl; rfl)
    | (apply G.pickF; rfl; rfl; (first | exact Wn.none | exact Wn.some rfl rfl); rfl; rfl)
    | (apply G.lss; rfl; rfl; (first | exact Wn.none | exact Wn.some rfl rfl); rfl; rfl; all_goals intro h; all_goals try (exfalso; omega))
    | (apply G.leq; rfl; rfl; (first | exact Wn.none | exact Wn.some rfl rfl); rfl; rfl; all_goals intro h; all_goals try (exfalso; omega))
    | (apply G.gtr; rfl; rfl; (first | exact Wn.none | exact Wn.some rfl rfl); rfl; rfl; all_goals intro h; all_goals try (exfalso; omega))
    | (apply G.geq; rfl; rfl; (first | exact Wn.none | exact Wn.some rfl rfl); rfl; rfl; all_goals intro h; all_goals try (exfalso; omega))
    | (apply G.eql; rfl; rfl; (first | exact Wn.none | exact Wn.some rfl rfl); rfl; rfl; all_goals intro h; all_goals try (exfalso; omega))
    | (apply G.neq; rfl; rfl; (first | exact Wn.none | exact Wn.some rfl rfl); rfl; rfl; all_goals intro h; all_goals try (exfalso; omega))
    | (apply G.eql2; rfl; rfl; (first | exact Wn.none | exact Wn.some rfl rfl); rfl; rfl; all_goals intro h; all_goals try (exfalso; omega))
    | (apply G.neq2; rfl; rfl; (first | exact Wn.none | exact Wn.some rfl rfl); rfl; rfl; all_goals intro h; all_goals try (exfalso; omega))
    | (apply G.add; rfl; rfl; omega; omega; (first | exact Wn.none | exact Wn.some rfl rfl); rfl; rfl)
    | (apply G.sub; rfl; rfl; omega; omega; (first | exact Wn.none | exact Wn.some rfl rfl); rfl; rfl)
    | (apply G.addW; rfl; rfl; (first | exact Wn.none | exact Wn.some rfl rfl); rfl; rfl)
    | (apply G.subW; rfl; rfl; (first | exact Wn.none | exact Wn.some rfl rfl); rfl; rfl)
    | (apply G.extract; rfl; rfl; (first | exact Wn.none | exact Wn.some rfl rfl); rfl; rfl)
    | (apply G.build; rfl; rfl; (first | exact Wn.none | exact Wn.some rfl rfl); rfl; rfl)
    | (apply G.neg; rfl; omega; omega; (first | exact Wn.none | exact Wn.some rfl rfl); rfl; rfl)
    | (apply G.max2; rfl; rfl; (first | exact Wn.none | exact Wn.some rfl rfl); rfl; rfl)
    | (apply G.min2; rfl; rfl; (first | exact Wn.none | exact Wn.some rfl rfl); rfl; rfl)
    | (apply G.box; (first | exact Wn.none | exact Wn.some rfl rfl); rfl; rfl; rfl; rfl; intro Bk)
    | (apply G.alloc; (first | exact Wn.none | exact Wn.some rfl rfl); rfl; rfl; intro Bk)
    | (apply G.store (i := 0); (first | exact Wn.none | exact Wn.some rfl rfl); rfl; rfl; rfl; rfl; rfl; rfl; rfl; rfl)
    | (apply G.store (i := 1); (first | exact Wn.none | exact Wn.some rfl rfl); rfl; rfl; rfl; rfl; rfl; rfl; rfl; rfl)
    | (apply G.store (i := 2); (first | exact Wn.none | exact Wn.some rfl rfl); rfl; rfl; rfl; rfl; rfl; rfl; rfl; rfl)
    | (apply G.store (i := 3); (first | exact Wn.none | exact Wn.some rfl rfl); rfl; rfl; rfl; rfl; rfl; rfl; rfl; rfl)
    | (apply G.store (i := 4); (first | exact Wn.none | exact Wn.some rfl rfl); rfl; rfl; rfl; rfl; rfl; rfl; rfl; rfl)
    | (apply G.storeSame (i := 0); (first | exact Wn.none | exact Wn.some rfl rfl); rfl; rfl; rfl; rfl; rfl; rfl; rfl; rfl; rfl)
    | (apply G.storeSame (i := 1); (first | exact Wn.none | exact Wn.some rfl rfl); rfl; rfl; rfl; rfl; rfl; rfl; rfl; rfl; rfl)
    | (apply G.storeSame (i := 2); (first | exact Wn.none | exact Wn.some rfl rfl); rfl; rfl; rfl; rfl; rfl; rfl; rfl; rfl; rfl)
    | (apply J.regQ; exact Try.mixed; decide +kernel)
    | apply J.reg)
  rename_i B3
  rename Nat => B5
  refine J.loopD (c := _) ((0, l0, []) : Nat × List Int × List Nat) (fun x => n + 2 - x.1) (fun x => x.2.2.map Sl.mark) (fun x => [(1, .func (.func f) #[] cap), (3, .pointer (some ⟨B3, 0, none⟩)), (5, .pointer (some ⟨B5, 0, none⟩)), (12, .int .i64 (n + 2)), (13, .int .i64 x.1)]) (fun x => .blk B5 91 [.func (.func 42) #[] #[]] 1 :: .blk B3 27 [.slice (some ⟨g, 0, none⟩) n c] 1 :: (K ++ (.blk g 3 (flat inV x.2.1) tot :: (Sl.mk x.2.2 ++ M1)))) (fun x => x.1 ≤ n + 2 ∧ x.2.1.length = n ∧ BndL (2000 + x.1 * 3600000000) x.2.1 ∧ settleS es (n + 2 - x.1) x.2.1 = settleS es (n + 2) l0) ?_ rfl (by (repeat' (first | exact trivial | refine ⟨rfl, ?_⟩))) (List.Sublist.refl _) ?_
  · exact ⟨Nat.zero_le _, hl0, by simpa using hb0, rfl⟩
  intro ⟨k, l, ds⟩ hI ih
  obtain ⟨hk, hl, hb, hr⟩ := hI
  dsimp only at hk hl hb hr ⊢
  by_cases hlt : k < n + 2
  · skip
    repeat' (first
      | fail
      | (apply G.move; rfl; (first | exact Wn.none | exact Wn.some rfl rfl); rfl; rfl)
      | (apply G.assign; rfl; (first | exact Wn.none | exact Wn.some rfl rfl); rfl; rfl)
      | (apply G.fieldAddr; rfl; (first | exact Wn.none | exact Wn.some rfl rfl); rfl; rfl)
      | (apply G.load; rfl; (first | (apply LdV.one; (first | exact CellV.row0 (by assumption) rfl | exact CellV.rowS (by assumption) rfl | exact CellV.blk (.head _) rfl | exact CellV.blk (.tail _ (.head _)) rfl | exact CellV.blk (.tail _ (.tail _ (.head _))) rfl | exact CellV.blk (.tail _ (.tail _ (.tail _ (.head _)))) rfl | exact CellV.blk (.tail _ (.tail _ (.tail _ (.tail _ (.head _))))) rfl | exact CellV.blk (.tail _ (.tail _ (.tail _ (.tail _ (.tail _ (.head _)))))) rfl)) | (apply LdV.aggBlk; (first | exact .head _ | exact .tail _ (.head _) | exact .tail _ (.tail _ (.head _)) | exact .tail _ (.tail _ (.tail _ (.head _))) | exact .tail _ (.tail _ (.tail _ (.tail _ (.head _)))) | exact .tail _ (.tail _ (.tail _ (.tail _ (.tail _ (.head _)))))); rfl) | (apply LdV.aggRow; assumption; rfl)); (first | exact Wn.none | exact Wn.some rfl rfl); rfl; rfl)
      | (apply G.nil; rfl)
      | apply J.seq
      | (apply J.condT; rfl)
      | (apply J.condF; rfl)
      | apply J.skip
      | apply J.block
      | apply J.inBlock
      | (apply J.exit; rfl)
      | (apply G.skip; rfl; rfl; rfl; rfl; rfl)
      | (apply G.lenSlice; rfl; (first | exact Wn.none | exact Wn.some rfl rfl); rfl; rfl)
      | (apply G.indexAddr; rfl; rfl; rfl; omega; (first | exact Wn.none | exact Wn.some rfl rfl); rfl; rfl)
      | (apply G.notT; rfl; (first | exact Wn.none | exact Wn.some rfl rfl); rfl; rfl)
      | (apply G.notF; rfl; (first | exact Wn.none | exact Wn.some rfl rfl); rfl; rfl)
      | (apply G.pickT; rfl; rfl; (first | exact Wn.none | exact Wn.some rfl rfl); rfl; rfl)
      | (apply G.pickF; rfl; rfl; (first | exact Wn.none | exact Wn.some rfl rfl); rfl; rfl)
      | (apply G.lss; rfl; rfl; (first | exact Wn.none | exact Wn.some rfl rfl); rfl; rfl; all_goals intro h; all_goals try (exfalso; omega))
      | (apply G.leq; rfl; rfl; (first | exact Wn.none | exact Wn.some rfl rfl); rfl; rfl; all_goals intro h; all_goals try (exfalso; omega))
      | (apply G.gtr; rfl; rfl; (first | exact Wn.none | exact Wn.some rfl rfl); rfl; rfl; all_goals intro h; all_goals try (exfalso; omega))
      | (apply G.geq; rfl; rfl; (first | exact Wn.none | exact Wn.some rfl rfl); rfl; rfl; all_goals intro h; all_goals try (exfalso; omega))
      | (apply G.eql; rfl; rfl; (first | exact Wn.none | exact Wn.some rfl rfl); rfl; rfl; all_goals intro h; all_goals try (exfalso; omega))
      | (apply G.neq; rfl; rfl; (first | exact Wn.none | exact Wn.some rfl rfl); rfl; rfl; all_goals intro h; all_goals try (exfalso; omega))
      | (apply G.eql2; rfl; rfl; (first | exact Wn.none | exact Wn.some rfl rfl); rfl; rfl; all_goals intro h; all_goals try (exfalso; omega))
      | (apply G.neq2; rfl; rfl; (first | exact Wn.none | exact Wn.some rfl rfl); rfl; rfl; all_goals intro h; all_goals try (exfalso; omega))
      | (apply G.add; rfl; rfl; omega; omega; (first | exact Wn.none | exact Wn.some rfl rfl); rfl; rfl)
      | (apply G.sub; rfl; rfl; omega; omega; (first | exact Wn.none | exact Wn.some rfl rfl); rfl; rfl)
      | (apply G.addW; rfl; rfl; (first | exact Wn.none | exact Wn.some rfl rfl); rfl; rfl)
      | (apply G.subW; rfl; rfl; (first | exact Wn.none | exact Wn.some rfl rfl); rfl; rfl)
      | (apply G.extract; rfl; rfl; (first | exact Wn.none | exact Wn.some rfl rfl); rfl; rfl)
      | (apply G.build; rfl; rfl; (first | exact Wn.none | exact Wn.some rfl rfl); rfl; rfl)
      | (apply G.neg; rfl; omega; omega; (first | exact Wn.none | exact Wn.some rfl rfl); rfl; rfl)
      | (apply G.max2; rfl; rfl; (first | exact Wn.none | exact Wn.some rfl rfl); rfl; rfl)
      | (apply G.min2; rfl; rfl; (first | exact Wn.none | exact Wn.some rfl rfl); rfl; rfl)
      | (apply G.box; (first | exact Wn.none | exact Wn.some rfl rfl); rfl; rfl; rfl; rfl; intro Bk)
      | (apply G.alloc; (first | exact Wn.none | exact Wn.some rfl rfl); rfl; rfl; intro Bk)
      | (apply G.store (i := 0); (first | exact Wn.none | exact Wn.some rfl rfl); rfl; rfl; rfl; rfl; rfl; rfl; rfl; rfl)
      | (apply G.store (i := 1); (first | exact Wn.none | exact Wn.some rfl rfl); rfl; rfl; rfl; rfl; rfl; rfl; rfl; rfl)
      | (apply G.store (i := 2); (first | exact Wn.none | exact Wn.some rfl rfl); rfl; rfl; rfl; rfl; rfl; rfl; rfl; rfl)
      | (apply G.store (i := 3); (first | exact Wn.none | exact Wn.some rfl rfl); rfl; rfl; rfl; rfl; rfl; rfl; rfl; rfl)
      | (apply G.store (i := 4); (first | exact Wn.none | exact Wn.some rfl rfl); rfl; rfl; rfl; rfl; rfl; rfl; rfl; rfl)
      | (apply G.storeSame (i := 0); (first | exact Wn.none | exact Wn.some rfl rfl); rfl; rfl; rfl; rfl; rfl; rfl; rfl; rfl; rfl)
      | (apply G.storeSame (i := 1); (first | exact Wn.none | exact Wn.some rfl rfl); rfl; rfl; rfl; rfl; rfl; rfl; rfl; rfl; rfl)
      | (apply G.storeSame (i := 2); (first | exact Wn.none | exact Wn.some rfl rfl); rfl; rfl; rfl; rfl; rfl; rfl; rfl; rfl; rfl)
      | (apply J.regQ; exact Try.mixed; decide +kernel)
      | apply J.reg)
    refine J.rangeF (f := f) (E := Ed) (R := fun x : List Int × Bool => [.blk B5 91 [.func (.func 42) #[] #[]] 1, .blk B3 27 [.slice (some ⟨g, 0, none⟩) n c] 1, .blk Bk 4 [.bool x.2] 1, .blk g 3 (flat inV x.1) tot]) (stp := stpS) (Inv := fun i x => x.1.length = n ∧ BndL (2000 + k * 3600000000 + i * 9000000) x.1) (x0 := (l, true)) (M1 := Sl.mk ds ++ M1) hIt rfl rfl rfl ?_ ⟨hl, by simpa using hb⟩ ?_ ?_
    · exact perm_cat [[.blk Bk 4 [.bool true] 1], [.blk B5 91 [.func (.func 42) #[] #[]] 1], [.blk B3 27 [.slice (some ⟨g, 0, none⟩) n c] 1], K, [.blk g 3 (flat inV l) tot], Sl.mk ds, M1] [0, 1, 2, 3, 4, 5, 6] [3, 1, 2, 0, 4, 5, 6] rfl
    · intro i ⟨y, done⟩ e ⟨hy, hyb⟩ he L r M' hr1 hr2
      have heo := hok e (List.mem_of_getElem? he)
      have hi : i < es.length := (List.getElem?_eq_some_iff.1 he).1
      have hnb := stpS_bnd (x := (y, done)) heo hyb
      have hnl := stpS_len (y, done) e
      dsimp only at hy hyb hnl ⊢
      obtain ⟨o1, o2, o3, o4⟩ := heo
      obtain ⟨e1, e2, e3⟩ := e
      dsimp only at o1 o2 o3 o4
      have q1 := flat_in (l := y) (i := e1) (by omega)
      have q2 := flat_in (l := y) (i := e2) (by omega)
      have q3 := flat_inset (l := y) (i := e2) (v := y.getD e1 0 + e3) (by omega)
      have b1 := hyb e1
      have b2 := hyb e2
      have hd : stpS (y, done) (e1, e2, e3) = if y.getD e2 0 < y.getD e1 0 + e3 then (y.set e2 (y.getD e1 0 + e3), false) else (y, done) := rfl
      repeat' (first
        | first | (apply J.beginR (i := 1) rfl rfl hr1) | (apply G.load; rfl; (apply LdV.one; first | exact CellV.blk (.tail _ (.tail _ (.tail _ (.tail _ (.tail _ (.head _)))))) q1 | exact CellV.blk (.tail _ (.tail _ (.tail _ (.tail _ (.tail _ (.head _)))))) q2); (first | exact Wn.none | exact Wn.some rfl rfl); rfl; rfl) | (apply G.callVf (g := 42); rfl; rfl; (first | exact Wn.none | exact Wn.some rfl rfl); rfl; rfl; exact fun w' _ => c42 (y.getD e1 0) (e1, e2, e3) w' (by omega) (by omega) (by dsimp only; omega) (by dsimp only; omega)) | (apply storeE (i := 5); (first | exact Wn.none | exact Wn.some rfl rfl); rfl; rfl; rfl; rfl; rfl; rfl; exact q3; (show 0 + e2 * 1 + 1 ≤ (flat inV y).length; rw [flat_len inV_len]; omega); rfl)
        | (apply G.move; rfl; (first | exact Wn.none | exact Wn.some rfl rfl); rfl; rfl)
        | (apply G.assign; rfl; (first | exact Wn.none | exact Wn.some rfl rfl); rfl; rfl)
        | (apply G.fieldAddr; rfl; (first | exact Wn.none | exact Wn.some rfl rfl); rfl; rfl)
        | (apply G.load; rfl; (first | (apply LdV.one; (first | exact CellV.row0 (by assumption) rfl | exact CellV.rowS (by assumption) rfl | exact CellV.blk (.head _) rfl | exact CellV.blk (.tail _ (.head _)) rfl | exact CellV.blk (.tail _ (.tail _ (.head _))) rfl | exact CellV.blk (.tail _ (.tail _ (.tail _ (.head _)))) rfl | exact CellV.blk (.tail _ (.tail _ (.tail _ (.tail _ (.head _))))) rfl | exact CellV.blk (.tail _ (.tail _ (.tail _ (.tail _ (.tail _ (.head _)))))) rfl)) | (apply LdV.aggBlk; (first | exact .head _ | exact .tail _ (.head _) | exact .tail _ (.tail _ (.head _)) | exact .tail _ (.tail _ (.tail _ (.head _))) | exact .tail _ (.tail _ (.tail _ (.tail _ (.head _)))) | exact .tail _ (.tail _ (.tail _ (.tail _ (.tail _ (.head _)))))); rfl) | (apply LdV.aggRow; assumption; rfl)); (first | exact Wn.none | exact Wn.some rfl rfl); rfl; rfl)
        | (apply G.nil; rfl)
        | apply J.seq
        | (apply J.condT; rfl)
        | (apply J.condF; rfl)
        | apply J.skip
        | apply J.block
        | apply J.inBlock
        | (apply J.exit; rfl)
        | (apply G.skip; rfl; rfl; rfl; rfl; rfl)
        | (apply G.lenSlice; rfl; (first | exact Wn.none | exact Wn.some rfl rfl); rfl; rfl)
        | (apply G.indexAddr; rfl; rfl; rfl; omega; (first | exact Wn.none | exact Wn.some rfl rfl); rfl; rfl)
        | (apply G.notT; rfl; (first | exact Wn.none | exact Wn.some rfl rfl); rfl; rfl)
        | (apply G.notF; rfl; (first | exact Wn.none | exact Wn.some rfl rfl); rfl; rfl)
        | (apply G.pickT; rfl; rfl; (first | exact Wn.none | exact Wn.some rfl rfl); rfl; rfl)
        | (apply G.pickF; rfl; rfl; (first | exact Wn.none | exact Wn.some rfl rfl); rfl; rfl)
        | (apply G.lss; rfl; rfl; (first | exact Wn.none | exact Wn.some rfl rfl); rfl; rfl; all_goals intro h; all_goals try (exfalso; omega))
        | (apply G.leq; rfl; rfl; (first | exact Wn.none | exact Wn.some rfl rfl); rfl; rfl; all_goals intro h; all_goals try (exfalso; omega))
        | (apply G.gtr; rfl; rfl; (first | exact Wn.none | exact Wn.some rfl rfl); rfl; rfl; all_goals intro h; all_goals try (exfalso; omega))
        | (apply G.geq; rfl; rfl; (first | exact Wn.none | exact Wn.some rfl rfl); rfl; rfl; all_goals intro h; all_goals try (exfalso; omega))
        | (apply G.eql; rfl; rfl; (first | exact Wn.none | exact Wn.some rfl rfl); rfl; rfl; all_goals intro h; all_goals try (exfalso; omega))
        | (apply G.neq; rfl; rfl; (first | exact Wn.none | exact Wn.some rfl rfl); rfl; rfl; all_goals intro h; all_goals try (exfalso; omega))
        | (apply G.eql2; rfl; rfl; (first | exact Wn.none | exact Wn.some rfl rfl); rfl; rfl; all_goals intro h; all_goals try (exfalso; omega))
        | (apply G.neq2; rfl; rfl; (first | exact Wn.none | exact Wn.some rfl rfl); rfl; rfl; all_goals intro h; all_goals try (exfalso; omega))
        | (apply G.add; rfl; rfl; omega; omega; (first | exact Wn.none | exact Wn.some rfl rfl); rfl; rfl)
        | (apply G.sub; rfl; rfl; omega; omega; (first | exact Wn.none | exact Wn.some rfl rfl); rfl; rfl)
        | (apply G.addW; rfl; rfl; (first | exact Wn.none | exact Wn.some rfl rfl); rfl; rfl)
        | (apply G.subW; rfl; rfl; (first | exact Wn.none | exact Wn.some rfl rfl); rfl; rfl)
        | (apply G.extract; rfl; rfl; (first | exact Wn.none | exact Wn.some rfl rfl); rfl; rfl)
        | (apply G.build; rfl; rfl; (first | exact Wn.none | exact Wn.some rfl rfl); rfl; rfl)
        | (apply G.neg; rfl; omega; omega; (first | exact Wn.none | exact Wn.some rfl rfl); rfl; rfl)
        | (apply G.max2; rfl; rfl; (first | exact Wn.none | exact Wn.some rfl rfl); rfl; rfl)
        | (apply G.min2; rfl; rfl; (first | exact Wn.none | exact Wn.some rfl rfl); rfl; rfl)
        | (apply G.box; (first | exact Wn.none | exact Wn.some rfl rfl); rfl; rfl; rfl; rfl; intro Bk)
        | (apply G.alloc; (first | exact Wn.none | exact Wn.some rfl rfl); rfl; rfl; intro Bk)
        | (apply G.store (i := 0); (first | exact Wn.none | exact Wn.some rfl rfl); rfl; rfl; rfl; rfl; rfl; rfl; rfl; rfl)
        | (apply G.store (i := 1); (first | exact Wn.none | exact Wn.some rfl rfl); rfl; rfl; rfl; rfl; rfl; rfl; rfl; rfl)
        | (apply G.store (i := 2); (first | exact Wn.none | exact Wn.some rfl rfl); rfl; rfl; rfl; rfl; rfl; rfl; rfl; rfl)
        | (apply G.store (i := 3); (first | exact Wn.none | exact Wn.some rfl rfl); rfl; rfl; rfl; rfl; rfl; rfl; rfl; rfl)
        | (apply G.store (i := 4); (first | exact Wn.none | exact Wn.some rfl rfl); rfl; rfl; rfl; rfl; rfl; rfl; rfl; rfl)
        | (apply G.storeSame (i := 0); (first | exact Wn.none | exact Wn.some rfl rfl); rfl; rfl; rfl; rfl; rfl; rfl; rfl; rfl; rfl)
        | (apply G.storeSame (i := 1); (first | exact Wn.none | exact Wn.some rfl rfl); rfl; rfl; rfl; rfl; rfl; rfl; rfl; rfl; rfl)
        | (apply G.storeSame (i := 2); (first | exact Wn.none | exact Wn.some rfl rfl); rfl; rfl; rfl; rfl; rfl; rfl; rfl; rfl; rfl)
        | (apply J.regQ; exact Try.mixed; decide +kernel)
        | apply J.reg)
      · refine leaveR (i := 1) hr1 hr2 rfl fun w' hw' => ⟨rfl, ⟨hnl.trans hy, by rw [show (2000 : Int) + k * 3600000000 + ((i + 1 : Nat) : Int) * 9000000 = 2000 + k * 3600000000 + i * 9000000 + 9000000 by omega]; exact hnb⟩, ?_⟩
        rw [hd, if_pos (by assumption)]
        exact hw'.forget (List.sublist_cons_self _ _)
      · refine leaveR (i := 1) hr1 hr2 rfl fun w' hw' => ⟨rfl, ⟨hnl.trans hy, by rw [show (2000 : Int) + k * 3600000000 + ((i + 1 : Nat) : Int) * 9000000 = 2000 + k * 3600000000 + i * 9000000 + 9000000 by omega]; exact hnb⟩, ?_⟩
        rw [hd, if_neg (by assumption)]
        exact hw'.forget (List.sublist_cons_self _ _)
    · intro Bd ⟨hIF1, hIF2⟩
      have hps : es.foldl stpS (l, true) = passS es l := rfl
      rw [hps] at hIF1 hIF2 ⊢
      have hstep : settleS es (n + 2 - k) l = if (passS es l).2 = true then ((passS es l).1, true) else settleS es (n + 2 - (k + 1)) (passS es l).1 := by
        rw [show n + 2 - k = (n + 2 - (k + 1)) + 1 by omega, settleS]
      generalize passS es l = r at *
      obtain ⟨l2, done⟩ := r
      dsimp only at hIF1 hIF2 hstep ⊢
      refine J.perm (M' := .blk B5 91 [.func (.func 42) #[] #[]] 1 :: .blk B3 27 [.slice (some ⟨g, 0, none⟩) n c] 1 :: .blk Bk 4 [.bool done] 1 :: (K ++ (.blk g 3 (flat inV l2) tot :: (Sl.mk (Bd :: ds) ++ M1)))) (perm_cat [[Row.obj Bd (.deferred (some []))], K, [.blk B5 91 [.func (.func 42) #[] #[]] 1], [.blk B3 27 [.slice (some ⟨g, 0, none⟩) n c] 1], [.blk Bk 4 [.bool done] 1], [.blk g 3 (flat inV l2) tot], Sl.mk ds, M1] [0, 1, 2, 3, 4, 5, 6, 7] [2, 3, 4, 1, 5, 0, 6, 7] rfl) ?_
      cases done
      · skip
        repeat' (first
          | (apply G.move; rfl; (first | exact Wn.none | exact Wn.some rfl rfl); rfl; rfl)
          | (apply G.assign; rfl; (first | exact Wn.none | exact Wn.some rfl rfl); rfl; rfl)
          | (apply G.fieldAddr; rfl; (first | exact Wn.none | exact Wn.some rfl rfl); rfl; rfl)
          | (apply G.load; rfl; (first | (apply LdV.one; (first | exact CellV.row0 (by assumption) rfl | exact CellV.rowS (by assumption) rfl | exact CellV.blk (.head _) rfl | exact CellV.blk (.tail _ (.head _)) rfl | exact CellV.blk (.tail _ (.tail _ (.head _))) rfl | exact CellV.blk (.tail _ (.tail _ (.tail _ (.head _)))) rfl | exact CellV.blk (.tail _ (.tail _ (.tail _ (.tail _ (.head _))))) rfl | exact CellV.blk (.tail _ (.tail _ (.tail _ (.tail _ (.tail _ (.head _)))))) rfl)) | (apply LdV.aggBlk; (first | exact .head _ | exact .tail _ (.head _) | exact .tail _ (.tail _ (.head _)) | exact .tail _ (.tail _ (.tail _ (.head _))) | exact .tail _ (.tail _ (.tail _ (.tail _ (.head _)))) | exact .tail _ (.tail _ (.tail _ (.tail _ (.tail _ (.head _)))))); rfl) | (apply LdV.aggRow; assumption; rfl)); (first | exact Wn.none | exact Wn.some rfl rfl); rfl; rfl)
          | (apply G.nil; rfl)
          | apply J.seq
          | (apply J.condT; rfl)
          | (apply J.condF; rfl)
          | apply J.skip
          | apply J.block
          | apply J.inBlock
          | (apply J.exit; rfl)
          | (apply G.skip; rfl; rfl; rfl; rfl; rfl)
          | (apply G.lenSlice; rfl; (first | exact Wn.none | exact Wn.some rfl rfl); rfl; rfl)
          | (apply G.indexAddr; rfl; rfl; rfl; omega; (first | exact Wn.none | exact Wn.some rfl rfl); rfl; rfl)
          | (apply G.notT; rfl; (first | exact Wn.none | exact Wn.some rfl rfl); rfl; rfl)
          | (apply G.notF; rfl; (first | exact Wn.none | exact Wn.some rfl rfl); rfl; rfl)
          | (apply G.pickT; rfl; rfl; (first | exact Wn.none | exact Wn.some rfl rfl); rfl; rfl)
          | (apply G.pickF; rfl; rfl; (first | exact Wn.none | exact Wn.some rfl rfl); rfl; rfl)
          | (apply G.lss; rfl; rfl; (first | exact Wn.none | exact Wn.some rfl rfl); rfl; rfl; all_goals intro h; all_goals try (exfalso; omega))
          | (apply G.leq; rfl; rfl; (first | exact Wn.none | exact Wn.some rfl rfl); rfl; rfl; all_goals intro h; all_goals try (exfalso; omega))
          | (apply G.gtr; rfl; rfl; (first | exact Wn.none | exact Wn.some rfl rfl); rfl; rfl; all_goals intro h; all_goals try (exfalso; omega))
          | (apply G.geq; rfl; rfl; (first | exact Wn.none | exact Wn.some rfl rfl); rfl; rfl; all_goals intro h; all_goals try (exfalso; omega))
          | (apply G.eql; rfl; rfl; (first | exact Wn.none | exact Wn.some rfl rfl); rfl; rfl; all_goals intro h; all_goals try (exfalso; omega))
          | (apply G.neq; rfl; rfl; (first | exact Wn.none | exact Wn.some rfl rfl); rfl; rfl; all_goals intro h; all_goals try (exfalso; omega))
          | (apply G.eql2; rfl; rfl; (first | exact Wn.none | exact Wn.some rfl rfl); rfl; rfl; all_goals intro h; all_goals try (exfalso; omega))
          | (apply G.neq2; rfl; rfl; (first | exact Wn.none | exact Wn.some rfl rfl); rfl; rfl; all_goals intro h; all_goals try (exfalso; omega))
          | (apply G.add; rfl; rfl; omega; omega; (first | exact Wn.none | exact Wn.some rfl rfl); rfl; rfl)
          | (apply G.sub; rfl; rfl; omega; omega; (first | exact Wn.none | exact Wn.some rfl rfl); rfl; rfl)
          | (apply G.addW; rfl; rfl; (first | exact Wn.none | exact Wn.some rfl rfl); rfl; rfl)
          | (apply G.subW; rfl; rfl; (first | exact Wn.none | exact Wn.some rfl rfl); rfl; rfl)
          | (apply G.extract; rfl; rfl; (first | exact Wn.none | exact Wn.some rfl rfl); rfl; rfl)
          | (apply G.build; rfl; rfl; (first | exact Wn.none | exact Wn.some rfl rfl); rfl; rfl)
          | (apply G.neg; rfl; omega; omega; (first | exact Wn.none | exact Wn.some rfl rfl); rfl; rfl)
          | (apply G.max2; rfl; rfl; (first | exact Wn.none | exact Wn.some rfl rfl); rfl; rfl)
          | (apply G.min2; rfl; rfl; (first | exact Wn.none | exact Wn.some rfl rfl); rfl; rfl)
          | (apply G.box; (first | exact Wn.none | exact Wn.some rfl rfl); rfl; rfl; rfl; rfl; intro Bk)
          | (apply G.alloc; (first | exact Wn.none | exact Wn.some rfl rfl); rfl; rfl; intro Bk)
          | (apply G.store (i := 0); (first | exact Wn.none | exact Wn.some rfl rfl); rfl; rfl; rfl; rfl; rfl; rfl; rfl; rfl)
          | (apply G.store (i := 1); (first | exact Wn.none | exact Wn.some rfl rfl); rfl; rfl; rfl; rfl; rfl; rfl; rfl; rfl)
          | (apply G.store (i := 2); (first | exact Wn.none | exact Wn.some rfl rfl); rfl; rfl; rfl; rfl; rfl; rfl; rfl; rfl)
          | (apply G.store (i := 3); (first | exact Wn.none | exact Wn.some rfl rfl); rfl; rfl; rfl; rfl; rfl; rfl; rfl; rfl)
          | (apply G.store (i := 4); (first | exact Wn.none | exact Wn.some rfl rfl); rfl; rfl; rfl; rfl; rfl; rfl; rfl; rfl)
          | (apply G.storeSame (i := 0); (first | exact Wn.none | exact Wn.some rfl rfl); rfl; rfl; rfl; rfl; rfl; rfl; rfl; rfl; rfl)
          | (apply G.storeSame (i := 1); (first | exact Wn.none | exact Wn.some rfl rfl); rfl; rfl; rfl; rfl; rfl; rfl; rfl; rfl; rfl)
          | (apply G.storeSame (i := 2); (first | exact Wn.none | exact Wn.some rfl rfl); rfl; rfl; rfl; rfl; rfl; rfl; rfl; rfl; rfl)
          | (apply J.regQ; exact Try.mixed; decide +kernel)
          | apply J.reg)
        refine J.forget (.cons_cons _ (.cons_cons _ (.cons _ (List.Sublist.refl _)))) (J.sub (by (repeat' (first | exact trivial | refine ⟨rfl, ?_⟩))) (ih (k + 1, l2, Bd :: ds) ⟨hlt, hIF1, ?_, ?_⟩ (show n + 2 - (k + 1) < n + 2 - k by omega)))
        · intro j
          have := hIF2 j
          dsimp only
          omega
        · dsimp only
          rw [← hr, hstep, if_neg (by decide)]
      · skip
        repeat' (first
          | (apply G.move; rfl; (first | exact Wn.none | exact Wn.some rfl rfl); rfl; rfl)
          | (apply G.assign; rfl; (first | exact Wn.none | exact Wn.some rfl rfl); rfl; rfl)
          | (apply G.fieldAddr; rfl; (first | exact Wn.none | exact Wn.some rfl rfl); rfl; rfl)
          | (apply G.load; rfl; (first | (apply LdV.one; (first | exact CellV.row0 (by assumption) rfl | exact CellV.rowS (by assumption) rfl | exact CellV.blk (.head _) rfl | exact CellV.blk (.tail _ (.head _)) rfl | exact CellV.blk (.tail _ (.tail _ (.head _))) rfl | exact CellV.blk (.tail _ (.tail _ (.tail _ (.head _)))) rfl | exact CellV.blk (.tail _ (.tail _ (.tail _ (.tail _ (.head _))))) rfl | exact CellV.blk (.tail _ (.tail _ (.tail _ (.tail _ (.tail _ (.head _)))))) rfl)) | (apply LdV.aggBlk; (first | exact .head _ | exact .tail _ (.head _) | exact .tail _ (.tail _ (.head _)) | exact .tail _ (.tail _ (.tail _ (.head _))) | exact .tail _ (.tail _ (.tail _ (.tail _ (.head _)))) | exact .tail _ (.tail _ (.tail _ (.tail _ (.tail _ (.head _)))))); rfl) | (apply LdV.aggRow; assumption; rfl)); (first | exact Wn.none | exact Wn.some rfl rfl); rfl; rfl)
          | (apply G.nil; rfl)
          | apply J.seq
          | (apply J.condT; rfl)
          | (apply J.condF; rfl)
          | apply J.skip
          | apply J.block
          | apply J.inBlock
          | (apply J.exit; rfl)
          | (apply G.skip; rfl; rfl; rfl; rfl; rfl)
          | (apply G.lenSlice; rfl; (first | exact Wn.none | exact Wn.some rfl rfl); rfl; rfl)
          | (apply G.indexAddr; rfl; rfl; rfl; omega; (first | exact Wn.none | exact Wn.some rfl rfl); rfl; rfl)
          | (apply G.notT; rfl; (first | exact Wn.none | exact Wn.some rfl rfl); rfl; rfl)
          | (apply G.notF; rfl; (first | exact Wn.none | exact Wn.some rfl rfl); rfl; rfl)
          | (apply G.pickT; rfl; rfl; (first | exact Wn.none | exact Wn.some rfl rfl); rfl; rfl)
          | (apply G.pickF; rfl; rfl; (first | exact Wn.none | exact Wn.some rfl rfl); rfl; rfl)
          | (apply G.lss; rfl; rfl; (first | exact Wn.none | exact Wn.some rfl rfl); rfl; rfl; all_goals intro h; all_goals try (exfalso; omega))
          | (apply G.leq; rfl; rfl; (first | exact Wn.none | exact Wn.some rfl rfl); rfl; rfl; all_goals intro h; all_goals try (exfalso; omega))
          | (apply G.gtr; rfl; rfl; (first | exact Wn.none | exact Wn.some rfl rfl); rfl; rfl; all_goals intro h; all_goals try (exfalso; omega))
          | (apply G.geq; rfl; rfl; (first | exact Wn.none | exact Wn.some rfl rfl); rfl; rfl; all_goals intro h; all_goals try (exfalso; omega))
          | (apply G.eql; rfl; rfl; (first | exact Wn.none | exact Wn.some rfl rfl); rfl; rfl; all_goals intro h; all_goals try (exfalso; omega))
          | (apply G.neq; rfl; rfl; (first | exact Wn.none | exact Wn.some rfl rfl); rfl; rfl; all_goals intro h; all_goals try (exfalso; omega))
          | (apply G.eql2; rfl; rfl; (first | exact Wn.none | exact Wn.some rfl rfl); rfl; rfl; all_goals intro h; all_goals try (exfalso; omega))
          | (apply G.neq2; rfl; rfl; (first | exact Wn.none | exact Wn.some rfl rfl); rfl; rfl; all_goals intro h; all_goals try (exfalso; omega))
          | (apply G.add; rfl; rfl; omega; omega; (first | exact Wn.none | exact Wn.some rfl rfl); rfl; rfl)
          | (apply G.sub; rfl; rfl; omega; omega; (first | exact Wn.none | exact Wn.some rfl rfl); rfl; rfl)
          | (apply G.addW; rfl; rfl; (first | exact Wn.none | exact Wn.some rfl rfl); rfl; rfl)
          | (apply G.subW; rfl; rfl; (first | exact Wn.none | exact Wn.some rfl rfl); rfl; rfl)
          | (apply G.extract; rfl; rfl; (first | exact Wn.none | exact Wn.some rfl rfl); rfl; rfl)
          | (apply G.build; rfl; rfl; (first | exact Wn.none | exact Wn.some rfl rfl); rfl; rfl)
          | (apply G.neg; rfl; omega; omega; (first | exact Wn.none | exact Wn.some rfl rfl); rfl; rfl)
          | (apply G.max2; rfl; rfl; (first | exact Wn.none | exact Wn.some rfl rfl); rfl; rfl)
          | (apply G.min2; rfl; rfl; (first | exact Wn.none | exact Wn.some rfl rfl); rfl; rfl)
          | (apply G.box; (first | exact Wn.none | exact Wn.some rfl rfl); rfl; rfl; rfl; rfl; intro Bk)
          | (apply G.alloc; (first | exact Wn.none | exact Wn.some rfl rfl); rfl; rfl; intro Bk)
          | (apply G.store (i := 0); (first | exact Wn.none | exact Wn.some rfl rfl); rfl; rfl; rfl; rfl; rfl; rfl; rfl; rfl)
          | (apply G.store (i := 1); (first | exact Wn.none | exact Wn.some rfl rfl); rfl; rfl; rfl; rfl; rfl; rfl; rfl; rfl)
          | (apply G.store (i := 2); (first | exact Wn.none | exact Wn.some rfl rfl); rfl; rfl; rfl; rfl; rfl; rfl; rfl; rfl)
          | (apply G.store (i := 3); (first | exact Wn.none | exact Wn.some rfl rfl); rfl; rfl; rfl; rfl; rfl; rfl; rfl; rfl)
          | (apply G.store (i := 4); (first | exact Wn.none | exact Wn.some rfl rfl); rfl; rfl; rfl; rfl; rfl; rfl; rfl; rfl)
          | (apply G.storeSame (i := 0); (first | exact Wn.none | exact Wn.some rfl rfl); rfl; rfl; rfl; rfl; rfl; rfl; rfl; rfl; rfl)
          | (apply G.storeSame (i := 1); (first | exact Wn.none | exact Wn.some rfl rfl); rfl; rfl; rfl; rfl; rfl; rfl; rfl; rfl; rfl)
          | (apply G.storeSame (i := 2); (first | exact Wn.none | exact Wn.some rfl rfl); rfl; rfl; rfl; rfl; rfl; rfl; rfl; rfl; rfl)
          | (apply J.regQ; exact Try.mixed; decide +kernel)
          | apply J.reg)
        refine leaveM (v := .bool true) (ds := Bd :: ds) (M0 := .blk B5 91 [.func (.func 42) #[] #[]] 1 :: .blk B3 27 [.slice (some ⟨g, 0, none⟩) n c] 1 :: .blk Bk 4 [.bool true] 1 :: (K ++ (.blk g 3 (flat inV l2) tot :: M1))) Try.func43 rfl rfl rfl rfl ?_ ?_ fun w' hw' => ⟨?_, ?_⟩
        · exact RunsTo.one Try.results43 (ResV.tmp rfl)
        · exact perm_cat [[.blk B5 91 [.func (.func 42) #[] #[]] 1], [.blk B3 27 [.slice (some ⟨g, 0, none⟩) n c] 1], [.blk Bk 4 [.bool true] 1], K, [.blk g 3 (flat inV l2) tot], Sl.mk (Bd :: ds), M1] [0, 1, 2, 3, 4, 5, 6] [5, 0, 1, 2, 3, 4, 6] rfl
        · rw [← hr, hstep, if_pos rfl]
        · rw [← hr, hstep, if_pos rfl]
          exact hw'.forget (.cons _ (.cons _ (.cons _ (List.Sublist.refl _))))
  · skip
    repeat' (first
      | (apply G.move; rfl; (first | exact Wn.none | exact Wn.some rfl rfl); rfl; rfl)
      | (apply G.assign; rfl; (first | exact Wn.none | exact Wn.some rfl rfl); rfl; rfl)
      | (apply G.fieldAddr; rfl; (first | exact Wn.none | exact Wn.some rfl rfl); rfl; rfl)
      | (apply G.load; rfl; (first | (apply LdV.one; (first | exact CellV.row0 (by assumption) rfl | exact CellV.rowS (by assumption) rfl | exact CellV.blk (.head _) rfl | exact CellV.blk (.tail _ (.head _)) rfl | exact CellV.blk (.tail _ (.tail _ (.head _))) rfl | exact CellV.blk (.tail _ (.tail _ (.tail _ (.head _)))) rfl | exact CellV.blk (.tail _ (.tail _ (.tail _ (.tail _ (.head _))))) rfl | exact CellV.blk (.tail _ (.tail _ (.tail _ (.tail _ (.tail _ (.head _)))))) rfl)) | (apply LdV.aggBlk; (first | exact .head _ | exact .tail _ (.head _) | exact .tail _ (.tail _ (.head _)) | exact .tail _ (.tail _ (.tail _ (.head _))) | exact .tail _ (.tail _ (.tail _ (.tail _ (.head _)))) | exact .tail _ (.tail _ (.tail _ (.tail _ (.tail _ (.head _)))))); rfl) | (apply LdV.aggRow; assumption; rfl)); (first | exact Wn.none | exact Wn.some rfl rfl); rfl; rfl)
      | (apply G.nil; rfl)
      | apply J.seq
      | (apply J.condT; rfl)
      | (apply J.condF; rfl)
      | apply J.skip
      | apply J.block
      | apply J.inBlock
      | (apply J.exit; rfl)
      | (apply G.skip; rfl; rfl; rfl; rfl; rfl)
      | (apply G.lenSlice; rfl; (first | exact Wn.none | exact Wn.some rfl rfl); rfl; rfl)
      | (apply G.indexAddr; rfl; rfl; rfl; omega; (first | exact Wn.none | exact Wn.some rfl rfl); rfl; rfl)
      | (apply G.notT; rfl; (first | exact Wn.none | exact Wn.some rfl rfl); rfl; rfl)
      | (apply G.notF; rfl; (first | exact Wn.none | exact Wn.some rfl rfl); rfl; rfl)
      | (apply G.pickT; rfl; rfl; (first | exact Wn.none | exact Wn.some rfl rfl); rfl; rfl)
      | (apply G.pickF; rfl; rfl; (first | exact Wn.none | exact Wn.some rfl rfl); rfl; rfl)
      | (apply G.lss; rfl; rfl; (first | exact Wn.none | exact Wn.some rfl rfl); rfl; rfl; all_goals intro h; all_goals try (exfalso; omega))
      | (apply G.leq; rfl; rfl; (first | exact Wn.none | exact Wn.some rfl rfl); rfl; rfl; all_goals intro h; all_goals try (exfalso; omega))
      | (apply G.gtr; rfl; rfl; (first | exact Wn.none | exact Wn.some rfl rfl); rfl; rfl; all_goals intro h; all_goals try (exfalso; omega))
      | (apply G.geq; rfl; rfl; (first | exact Wn.none | exact Wn.some rfl rfl); rfl; rfl; all_goals intro h; all_goals try (exfalso; omega))
      | (apply G.eql; rfl; rfl; (first | exact Wn.none | exact Wn.some rfl rfl); rfl; rfl; all_goals intro h; all_goals try (exfalso; omega))
      | (apply G.neq; rfl; rfl; (first | exact Wn.none | exact Wn.some rfl rfl); rfl; rfl; all_goals intro h; all_goals try (exfalso; omega))
      | (apply G.eql2; rfl; rfl; (first | exact Wn.none | exact Wn.some rfl rfl); rfl; rfl; all_goals intro h; all_goals try (exfalso; omega))
      | (apply G.neq2; rfl; rfl; (first | exact Wn.none | exact Wn.some rfl rfl); rfl; rfl; all_goals intro h; all_goals try (exfalso; omega))
      | (apply G.add; rfl; rfl; omega; omega; (first | exact Wn.none | exact Wn.some rfl rfl); rfl; rfl)
      | (apply G.sub; rfl; rfl; omega; omega; (first | exact Wn.none | exact Wn.some rfl rfl); rfl; rfl)
      | (apply G.addW; rfl; rfl; (first | exact Wn.none | exact Wn.some rfl rfl); rfl; rfl)
      | (apply G.subW; rfl; rfl; (first | exact Wn.none | exact Wn.some rfl rfl); rfl; rfl)
      | (apply G.extract; rfl; rfl; (first | exact Wn.none | exact Wn.some rfl rfl); rfl; rfl)
      | (apply G.build; rfl; rfl; (first | exact Wn.none | exact Wn.some rfl rfl); rfl; rfl)
      | (apply G.neg; rfl; omega; omega; (first | exact Wn.none | exact Wn.some rfl rfl); rfl; rfl)
      | (apply G.max2; rfl; rfl; (first | exact Wn.none | exact Wn.some rfl rfl); rfl; rfl)
      | (apply G.min2; rfl; rfl; (first | exact Wn.none | exact Wn.some rfl rfl); rfl; rfl)
      | (apply G.box; (first | exact Wn.none | exact Wn.some rfl rfl); rfl; rfl; rfl; rfl; intro Bk)
      | (apply G.alloc; (first | exact Wn.none | exact Wn.some rfl rfl); rfl; rfl; intro Bk)
      | (apply G.store (i := 0); (first | exact Wn.none | exact Wn.some rfl rfl); rfl; rfl; rfl; rfl; rfl; rfl; rfl; rfl)
      | (apply G.store (i := 1); (first | exact Wn.none | exact Wn.some rfl rfl); rfl; rfl; rfl; rfl; rfl; rfl; rfl; rfl)
      | (apply G.store (i := 2); (first | exact Wn.none | exact Wn.some rfl rfl); rfl; rfl; rfl; rfl; rfl; rfl; rfl; rfl)
      | (apply G.store (i := 3); (first | exact Wn.none | exact Wn.some rfl rfl); rfl; rfl; rfl; rfl; rfl; rfl; rfl; rfl)
      | (apply G.store (i := 4); (first | exact Wn.none | exact Wn.some rfl rfl); rfl; rfl; rfl; rfl; rfl; rfl; rfl; rfl)
      | (apply G.storeSame (i := 0); (first | exact Wn.none | exact Wn.some rfl rfl); rfl; rfl; rfl; rfl; rfl; rfl; rfl; rfl; rfl)
      | (apply G.storeSame (i := 1); (first | exact Wn.none | exact Wn.some rfl rfl); rfl; rfl; rfl; rfl; rfl; rfl; rfl; rfl; rfl)
      | (apply G.storeSame (i := 2); (first | exact Wn.none | exact Wn.some rfl rfl); rfl; rfl; rfl; rfl; rfl; rfl; rfl; rfl; rfl)
      | (apply J.regQ; exact Try.mixed; decide +kernel)
      | apply J.reg)
    have hz : settleS es (n + 2) l0 = (l, false) := by rw [← hr, show n + 2 - k = 0 by omega]; rfl
    refine leaveM (v := .bool false) (ds := ds) (M0 := .blk B5 91 [.func (.func 42) #[] #[]] 1 :: .blk B3 27 [.slice (some ⟨g, 0, none⟩) n c] 1 :: (K ++ (.blk g 3 (flat inV l) tot :: M1))) Try.func43 rfl rfl rfl rfl ?_ ?_ fun w' hw' => ⟨?_, ?_⟩
    · exact RunsTo.one Try.results43 (ResV.tmp rfl)
    · exact perm_cat [[.blk B5 91 [.func (.func 42) #[] #[]] 1], [.blk B3 27 [.slice (some ⟨g, 0, none⟩) n c] 1], K, [.blk g 3 (flat inV l) tot], Sl.mk ds, M1] [0, 1, 2, 3, 4, 5] [4, 0, 1, 2, 3, 5] rfl
    · rw [hz]
    · rw [hz]
      exact hw'.forget (.cons _ (.cons _ (List.Sublist.refl _)))
end Go.Proofs.Ytjfbdffcgapdlaa
