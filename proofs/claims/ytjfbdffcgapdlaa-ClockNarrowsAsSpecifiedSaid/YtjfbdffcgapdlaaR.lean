/-
  Contracts of the example, and of few.
-/
import Derived.Test.YtjfbdffcgapdlaaQ

namespace Go.Proofs.Ytjfbdffcgapdlaa
open Go.RowKit Go.Sl


instance : TElem Try.prog 23 69 (.agg #[.int .i64 0, .int .i64 0, .int .i64 0, .int .i64 0, .int .i64 0, .int .i64 0]) 6 48 := ⟨Try.underlying23, by kernel_rfl, rfl, by decide⟩
def exSk : List (Int × Int) := [(-5, 5), (-5, 5), (0, 0)]
def exEv : List Ev := [⟨0, 1, 100, 110, 4, 8⟩, ⟨1, 2, 200, 203, 0, 2⟩]
theorem evV_len (x : Ev) : (evV x).length = 6 := rfl
theorem evV_one (x : Ev) : (evV x).all (·.oneCell') = true := rfl

theorem c31 (w : World) :
    Calls Try.prog 31 #[] w fun e w' => ∃ A B, e = .returned (.agg #[.slice (some ⟨A, 0, none⟩) 3 3, .slice (some ⟨B, 0, none⟩) 2 2]) ∧ SlAt w' (some ⟨A, 0, none⟩) 2 (exSk.map skV) ∧ SlAt w' (some ⟨B, 0, none⟩) 6 (exEv.map evV) ∧ w.heap.size ≤ A ∧ w.heap.size ≤ B ∧ Below w.heap.size w w' := by
  refine enter [] Try.func31 rfl Try.ntmps31 (by simp) trivial ?_
  repeat' (first
    | (apply G.sliceL; (first | exact Wn.none | exact Wn.some rfl rfl); rfl; rfl; rfl; rfl; rfl; rfl; rfl; intro Bn)
    | (apply G.move; rfl; (first | exact Wn.none | exact Wn.some rfl rfl); rfl; rfl)
    | (apply G.assign; rfl; (first | exact Wn.none | exact Wn.some rfl rfl); rfl; rfl)
    | (apply G.fieldAddr; rfl; (first | exact Wn.none | exact Wn.some rfl rfl); rfl; rfl)
    | (apply G.load; rfl; (first | (apply LdV.one; (first | exact CellV.row0 (by assumption) rfl | exact CellV.rowS (by assumption) rfl | exact CellV.blk (.head _) rfl | exact CellV.blk (.tail _ (.head _)) rfl | exact CellV.blk (.tail _ (.tail _ (.head _))) rfl | exact CellV.blk (.tail _ (.tail _ (.tail _ (.head _)))) rfl | exact CellV.blk (.tail _ (.tail _ (.tail _ (.tail _ (.head _))))) rfl | exact CellV.blk (.tail _ (.tail _ (.tail _ (.tail _ (.tail _ (.head _)))))) rfl)) | (apply LdV.aggBlk; (first | exact .head _ | exact .tail _ (.head _) | exact .tail _ (.tail _ (.head _)) | exact .tail _ (.tail _ (.tail _ (.head _))) | exact .tail _ (.tail _ (.tail _ (.tail _ (.head _)))) | exact .tail _ (.tail _ (.tail _ (.tail _ (.tail _ (.head _)))))); rfl) | (apply LdV.aggRow; assumption; rfl)); (first | exact Wn.none | exact Wn.some rfl rfl); rfl; rfl)
    | (apply G.nil; rfl)
    | apply J.seq
    | (apply J.condT; rfl)
    | (apply J.condF; rfl)
    | apply J.skip
    | apply J.block
    | apply J.inBlock
    | (apply J.exit; rfl)
    | (apply G.skip; rfl; rfl; rfl; rfl; rfl)
    | (apply G.lenSlice; rfl; (first | exact Wn.none | exact Wn.some rfl rfl); rfl; rfl)
    | (apply G.indexAddr; rfl; rfl; rfl; omega; (first | exact Wn.none | exact Wn.some rfl rfl); rfl; rfl)
    | (apply G.notT; rfl; (first | exact Wn.none | exact Wn.some rfl rfl); rfl; rfl)
    | (apply G.notF; rfl; (first | exact Wn.none | exact Wn.some rfl rfl); rfl; rfl)
    | (apply G.pickT; rfl; rfl; (first | exact Wn.none | exact Wn.some rfl rfl); rfl; rfl)
    | (apply G.pickF; rfl; rfl; (first | exact Wn.none | exact Wn.some rfl rfl); rfl; rfl)
    | (apply G.lss; rfl; rfl; (first | exact Wn.none | exact Wn.some rfl rfl); rfl; rfl; all_goals intro h; all_goals try (exfalso; omega))
    | (apply G.leq; rfl; rfl; (first | exact Wn.none | exact Wn.some rfl rfl); rfl; rfl; all_goals intro h; all_goals try (exfalso; omega))
    | (apply G.gtr; rfl; rfl; (first | exact Wn.none | exact Wn.some rfl rfl); rfl; rfl; all_goals intro h; all_goals try (exfalso; omega))
    | (apply G.geq; rfl; rfl; (first | exact Wn.none | exact Wn.some rfl rfl); rfl; rfl; all_goals intro h; all_goals try (exfalso; omega))
    | (apply G.eql; rfl; rfl; (first | exact Wn.none | exact Wn.some rfl rfl); rfl; rfl; all_goals intro h; all_goals try (exfalso; omega))
    | (apply G.neq; rfl; rfl; (first | exact Wn.none | exact Wn.some rfl rfl); rfl; rfl; all_goals intro h; all_goals try (exfalso; omega))
    | (apply G.eql2; rfl; rfl; (first | exact Wn.none | exact Wn.some rfl rfl); rfl; rfl; all_goals intro h; all_goals try (exfalso; omega))
    | (apply G.neq2; rfl; rfl; (first | exact Wn.none | exact Wn.some rfl rfl); rfl; rfl; all_goals intro h; all_goals try (exfalso; omega))
    | (apply G.add; rfl; rfl; omega; omega; (first | exact Wn.none | exact Wn.some rfl rfl); rfl; rfl)
    | (apply G.sub; rfl; rfl; omega; omega; (first | exact Wn.none | exact Wn.some rfl rfl); rfl; rfl)
    | (apply G.addW; rfl; rfl; (first | exact Wn.none | exact Wn.some rfl rfl); rfl; rfl)
    | (apply G.subW; rfl; rfl; (first | exact Wn.none | exact Wn.some rfl rfl); rfl; rfl)
    | (apply G.extract; rfl; rfl; (first | exact Wn.none | exact Wn.some rfl rfl); rfl; rfl)
    | (apply G.build; rfl; rfl; (first | exact Wn.none | exact Wn.some rfl rfl); rfl; rfl)
    | (apply G.neg; rfl; omega; omega; (first | exact Wn.none | exact Wn.some rfl rfl); rfl; rfl)
    | (apply G.max2; rfl; rfl; (first | exact Wn.none | exact Wn.some rfl rfl); rfl; rfl)
    | (apply G.min2; rfl; rfl; (first | exact Wn.none | exact Wn.some rfl rfl); rfl; rfl)
    | (apply G.box; (first | exact Wn.none | exact Wn.some rfl rfl); rfl; rfl; rfl; rfl; intro Bk)
    | (apply G.alloc; (first | exact Wn.none | exact Wn.some rfl rfl); rfl; rfl; intro Bk)
    | (apply G.store (i := 0); (first | exact Wn.none | exact Wn.some rfl rfl); rfl; rfl; rfl; rfl; rfl; rfl; rfl; rfl)
    | (apply G.store (i := 1); (first | exact Wn.none | exact Wn.some rfl rfl); rfl; rfl; rfl; rfl; rfl; rfl; rfl; rfl)
    | (apply G.store (i := 2); (first | exact Wn.none | exact Wn.some rfl rfl); rfl; rfl; rfl; rfl; rfl; rfl; rfl; rfl)
    | (apply G.store (i := 3); (first | exact Wn.none | exact Wn.some rfl rfl); rfl; rfl; rfl; rfl; rfl; rfl; rfl; rfl)
    | (apply G.store (i := 4); (first | exact Wn.none | exact Wn.some rfl rfl); rfl; rfl; rfl; rfl; rfl; rfl; rfl; rfl)
    | (apply G.storeSame (i := 0); (first | exact Wn.none | exact Wn.some rfl rfl); rfl; rfl; rfl; rfl; rfl; rfl; rfl; rfl; rfl)
    | (apply G.storeSame (i := 1); (first | exact Wn.none | exact Wn.some rfl rfl); rfl; rfl; rfl; rfl; rfl; rfl; rfl; rfl; rfl)
    | (apply G.storeSame (i := 2); (first | exact Wn.none | exact Wn.some rfl rfl); rfl; rfl; rfl; rfl; rfl; rfl; rfl; rfl; rfl)
    | (apply J.regQ; exact Try.mixed; decide +kernel)
    | apply J.reg)
  (apply leave Try.func31; (apply RunsTo.one Try.results31; (apply ResV.cell; rfl; exact LdV.aggBlk (.tail _ (.tail _ (.head _))) rfl)); intro w' hw)
  rename_i A
  refine ⟨A, Bn, rfl, ?_, ?_, ?_, ?_, hw.below⟩
  · have := SlAt.ofBlk (l := exSk) skV_len hw (.tail _ (.head _)); exact this
  · have := SlAt.ofBlk (l := exEv) evV_len hw (.head _); exact this
  · exact ((hw.old _ (.tail _ (.head _))).2 A rfl).1
  · exact ((hw.old _ (.head _)).2 Bn rfl).1
def fewB (sk : List (Int × Int)) (ev : List Ev) (n : Int) : Bool := decide ((sk.length ≤ 8 ∨ 40 < sk.length ∧ sk.length ≤ 45) ∧ ((ev.length : Int) ≤ n ∨ 200 < ev.length ∧ ev.length ≤ 210))
theorem c9 (a : Option Addr) (sk : List (Int × Int)) (c : Nat) (b : Option Addr) (ev : List Ev) (d : Nat) (n : Int) (w : World) :
    Calls Try.prog 9 #[.agg #[.slice a sk.length c, .slice b ev.length d], .int .i64 n] w fun e w' => e = .returned (.bool (fewB sk ev n)) ∧ Below w.heap.size w w' := by
  refine enter [(0, .agg #[.slice a sk.length c, .slice b ev.length d]), (1, .int .i64 n)] Try.func9 rfl Try.ntmps9 (by simp) ⟨rfl, rfl, trivial⟩ ?_
  repeat' (first
    | (apply G.move; rfl; (first | exact Wn.none | exact Wn.some rfl rfl); rfl; rfl)
    | (apply G.assign; rfl; (first | exact Wn.none | exact Wn.some rfl rfl); rfl; rfl)
    | (apply G.fieldAddr; rfl; (first | exact Wn.none | exact Wn.some rfl rfl); rfl; rfl)
    | (apply G.load; rfl; (first | (apply LdV.one; (first | exact CellV.row0 (by assumption) rfl | exact CellV.rowS (by assumption) rfl | exact CellV.blk (.head _) rfl | exact CellV.blk (.tail _ (.head _)) rfl | exact CellV.blk (.tail _ (.tail _ (.head _))) rfl | exact CellV.blk (.tail _ (.tail _ (.tail _ (.head _)))) rfl | exact CellV.blk (.tail _ (.tail _ (.tail _ (.tail _ (.head _))))) rfl | exact CellV.blk (.tail _ (.tail _ (.tail _ (.tail _ (.tail _ (.head _)))))) rfl)) | (apply LdV.aggBlk; (first | exact .head _ | exact .tail _ (.head _) | exact .tail _ (.tail _ (.head _)) | exact .tail _ (.tail _ (.tail _ (.head _))) | exact .tail _ (.tail _ (.tail _ (.tail _ (.head _)))) | exact .tail _ (.tail _ (.tail _ (.tail _ (.tail _ (.head _)))))); rfl) | (apply LdV.aggRow; assumption; rfl)); (first | exact Wn.none | exact Wn.some rfl rfl); rfl; rfl)
    | (apply G.nil; rfl)
    | apply J.seq
    | (apply J.condT; rfl)
    | (apply J.condF; rfl)
    | apply J.skip
    | apply J.block
    | apply J.inBlock
    | (apply J.exit; rfl)
    | (apply G.skip; rfl; rfl; rfl; rfl; rfl)
    | (apply G.lenSlice; rfl; (first | exact Wn.none | exact Wn.some rfl rfl); rfl; rfl)
    | (apply G.indexAddr; rfl; rfl; rfl; omega; (first | exact Wn.none | exact Wn.some rfl rfl); rfl; rfl)
    | (apply G.notT; rfl; (first | exact Wn.none | exact Wn.some rfl rfl); rfl; rfl)
    | (apply G.notF; rfl; (first | exact Wn.none | exact Wn.some rfl rfl); rfl; rfl)
    | (apply G.pickT; rfl; rfl; (first | exact Wn.none | exact Wn.some rfl rfl); rfl; rfl)
    | (apply G.pickF; rfl; rfl; (first | exact Wn.none | exact Wn.some rfl rfl); rfl; rfl)
    | (apply G.lss; rfl; rfl; (first | exact Wn.none | exact Wn.some rfl rfl); rfl; rfl; all_goals intro h; all_goals try (exfalso; omega))
    | (apply G.leq; rfl; rfl; (first | exact Wn.none | exact Wn.some rfl rfl); rfl; rfl; all_goals intro h; all_goals try (exfalso; omega))
    | (apply G.gtr; rfl; rfl; (first | exact Wn.none | exact Wn.some rfl rfl); rfl; rfl; all_goals intro h; all_goals try (exfalso; omega))
    | (apply G.geq; rfl; rfl; (first | exact Wn.none | exact Wn.some rfl rfl); rfl; rfl; all_goals intro h; all_goals try (exfalso; omega))
    | (apply G.eql; rfl; rfl; (first | exact Wn.none | exact Wn.some rfl rfl); rfl; rfl; all_goals intro h; all_goals try (exfalso; omega))
    | (apply G.neq; rfl; rfl; (first | exact Wn.none | exact Wn.some rfl rfl); rfl; rfl; all_goals intro h; all_goals try (exfalso; omega))
    | (apply G.eql2; rfl; rfl; (first | exact Wn.none | exact Wn.some rfl rfl); rfl; rfl; all_goals intro h; all_goals try (exfalso; omega))
    | (apply G.neq2; rfl; rfl; (first | exact Wn.none | exact Wn.some rfl rfl); rfl; rfl; all_goals intro h; all_goals try (exfalso; omega))
    | (apply G.add; rfl; rfl; omega; omega; (first | exact Wn.none | exact Wn.some rfl rfl); rfl; rfl)
    | (apply G.sub; rfl; rfl; omega; omega; (first | exact Wn.none | exact Wn.some rfl rfl); rfl; rfl)
    | (apply G.addW; rfl; rfl; (first | exact Wn.none | exact Wn.some rfl rfl); rfl; rfl)
    | (apply G.subW; rfl; rfl; (first | exact Wn.none | exact Wn.some rfl rfl); rfl; rfl)
    | (apply G.extract; rfl; rfl; (first | exact Wn.none | exact Wn.some rfl rfl); rfl; rfl)
    | (apply G.build; rfl; rfl; (first | exact Wn.none | exact Wn.some rfl rfl); rfl; rfl)
    | (apply G.neg; rfl; omega; omega; (first | exact Wn.none | exact Wn.some rfl rfl); rfl; rfl)
    | (apply G.max2; rfl; rfl; (first | exact Wn.none | exact Wn.some rfl rfl); rfl; rfl)
    | (apply G.min2; rfl; rfl; (first | exact Wn.none | exact Wn.some rfl rfl); rfl; rfl)
    | (apply G.box; (first | exact Wn.none | exact Wn.some rfl rfl); rfl; rfl; rfl; rfl; intro Bk)
    | (apply G.alloc; (first | exact Wn.none | exact Wn.some rfl rfl); rfl; rfl; intro Bk)
    | (apply G.store (i := 0); (first | exact Wn.none | exact Wn.some rfl rfl); rfl; rfl; rfl; rfl; rfl; rfl; rfl; rfl)
    | (apply G.store (i := 1); (first | exact Wn.none | exact Wn.some rfl rfl); rfl; rfl; rfl; rfl; rfl; rfl; rfl; rfl)
    | (apply G.store (i := 2); (first | exact Wn.none | exact Wn.some rfl rfl); rfl; rfl; rfl; rfl; rfl; rfl; rfl; rfl)
    | (apply G.store (i := 3); (first | exact Wn.none | exact Wn.some rfl rfl); rfl; rfl; rfl; rfl; rfl; rfl; rfl; rfl)
    | (apply G.store (i := 4); (first | exact Wn.none | exact Wn.some rfl rfl); rfl; rfl; rfl; rfl; rfl; rfl; rfl; rfl)
    | (apply G.storeSame (i := 0); (first | exact Wn.none | exact Wn.some rfl rfl); rfl; rfl; rfl; rfl; rfl; rfl; rfl; rfl; rfl)
    | (apply G.storeSame (i := 1); (first | exact Wn.none | exact Wn.some rfl rfl); rfl; rfl; rfl; rfl; rfl; rfl; rfl; rfl; rfl)
    | (apply G.storeSame (i := 2); (first | exact Wn.none | exact Wn.some rfl rfl); rfl; rfl; rfl; rfl; rfl; rfl; rfl; rfl; rfl)
    | (apply J.regQ; exact Try.mixed; decide +kernel)
    | apply J.reg)
  all_goals (apply leave Try.func9; (apply RunsTo.one Try.results9; (first | (apply ResV.tmp; rfl) | (apply ResV.cell; rfl; (first | (apply LdV.one; (first | exact CellV.row0 (by assumption) rfl | exact CellV.rowS (by assumption) rfl | exact CellV.blk (.head _) rfl | exact CellV.blk (.tail _ (.head _)) rfl | exact CellV.blk (.tail _ (.tail _ (.head _))) rfl | exact CellV.blk (.tail _ (.tail _ (.tail _ (.head _)))) rfl | exact CellV.blk (.tail _ (.tail _ (.tail _ (.tail _ (.head _))))) rfl | exact CellV.blk (.tail _ (.tail _ (.tail _ (.tail _ (.tail _ (.head _)))))) rfl)) | (apply LdV.aggBlk; (first | exact .head _ | exact .tail _ (.head _) | exact .tail _ (.tail _ (.head _)) | exact .tail _ (.tail _ (.tail _ (.head _))) | exact .tail _ (.tail _ (.tail _ (.tail _ (.head _)))) | exact .tail _ (.tail _ (.tail _ (.tail _ (.tail _ (.head _)))))); rfl) | (apply LdV.aggRow; assumption; rfl))))); intro w' hw; refine ⟨?_, hw.below⟩; clear hw)
  all_goals exact ret_bool (by simp [fewB]; omega)
end Go.Proofs.Ytjfbdffcgapdlaa
