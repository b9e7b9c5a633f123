/-
  Contract of Sums of the clock layer.
-/
import Derived.Test.YtjfbdffcgapdlaaE

namespace Go.Proofs.Ytjfbdffcgapdlaa
open Go.RowKit Go.Sl


theorem c22 (a : Option Addr) (v : List Int) (c : Nat) (f t : Int) (s1 s2 : Int) (w : World) (hl : v.length ≤ 9223372036854775807) (hlc : v.length ≤ c) (hA : SlAt w a 1 (v.map inV)) :
    Calls Try.prog 22 #[.slice a v.length c, .int .i64 f, .int .i64 t, .agg #[.int .i64 s1, .int .i64 s2]] w fun e w' =>
      e = .returned (.tuple #[.agg #[.int .i64 (sumsS v f t (s1, s2)).1.1.1, .int .i64 (sumsS v f t (s1, s2)).1.1.2], .agg #[.int .i64 (sumsS v f t (s1, s2)).1.2.1, .int .i64 (sumsS v f t (s1, s2)).1.2.2], .int .i64 (sumsS v f t (s1, s2)).2]) ∧ Below w.heap.size w w' := by
  refine enter [(0, .slice a v.length c), (1, .int .i64 f), (2, .int .i64 t), (3, .agg #[.int .i64 s1, .int .i64 s2])] Try.func22 rfl Try.ntmps22 (by simp) ⟨rfl, rfl, rfl, rfl, trivial⟩ ?_
  repeat' (first
    | first | (apply J.regA (.q 0 <| .q 1 <| .e 2 <| .r 3 <| .q 4 <| .nil); exact Try.mixed; decide +kernel) | (apply G.callB (g := 34); rfl; (first | exact Wn.none | exact Wn.some rfl rfl); rfl; rfl; exact fun w _ => c34 _ _ w; all_goals intro h)
    | (apply G.move; rfl; (first | exact Wn.none | exact Wn.some rfl rfl); rfl; rfl)
    | (apply G.assign; rfl; (first | exact Wn.none | exact Wn.some rfl rfl); rfl; rfl)
    | (apply G.fieldAddr; rfl; (first | exact Wn.none | exact Wn.some rfl rfl); rfl; rfl)
    | (apply G.load; rfl; (first | (apply LdV.one; (first | exact CellV.row0 (by assumption) rfl | exact CellV.rowS (by assumption) rfl | exact CellV.blk (.head _) rfl | exact CellV.blk (.tail _ (.head _)) rfl | exact CellV.blk (.tail _ (.tail _ (.head _))) rfl | exact CellV.blk (.tail _ (.tail _ (.tail _ (.head _)))) rfl | exact CellV.blk (.tail _ (.tail _ (.tail _ (.tail _ (.head _))))) rfl | exact CellV.blk (.tail _ (.tail _ (.tail _ (.tail _ (.tail _ (.head _)))))) rfl)) | (apply LdV.aggBlk; (first | exact .head _ | exact .tail _ (.head _) | exact .tail _ (.tail _ (.head _)) | exact .tail _ (.tail _ (.tail _ (.head _))) | exact .tail _ (.tail _ (.tail _ (.tail _ (.head _)))) | exact .tail _ (.tail _ (.tail _ (.tail _ (.tail _ (.head _)))))); rfl) | (apply LdV.aggRow; assumption; rfl)); (first | exact Wn.none | exact Wn.some rfl rfl); rfl; rfl)
    | (apply G.nil; rfl)
    | apply J.seq
    | (apply J.condT; rfl)
    | (apply J.condF; rfl)
    | apply J.skip
    | apply J.block
    | apply J.inBlock
    | (apply J.exit; rfl)
    | (apply G.skip; rfl; rfl; rfl; rfl; rfl)
    | (apply G.lenSlice; rfl; (first | exact Wn.none | exact Wn.some rfl rfl); rfl; rfl)
    | (apply G.indexAddr; rfl; rfl; rfl; omega; (first | exact Wn.none | exact Wn.some rfl rfl); rfl; rfl)
    | (apply G.notT; rfl; (first | exact Wn.none | exact Wn.some rfl rfl); rfl; rfl)
    | (apply G.notF; rfl; (first | exact Wn.none | exact Wn.some rfl rfl); rfl; rfl)
    | (apply G.pickT; rfl; rfl; (first | exact Wn.none | exact Wn.some rfl rfl); rfl; rfl)
    | (apply G.pickF; rfl; rfl; (first | exact Wn.none | exact Wn.some rfl rfl); rfl; rfl)
    | (apply G.lss; rfl; rfl; (first | exact Wn.none | exact Wn.some rfl rfl); rfl; rfl; all_goals intro h; all_goals try (exfalso; omega))
    | (apply G.leq; rfl; rfl; (first | exact Wn.none | exact Wn.some rfl rfl); rfl; rfl; all_goals intro h; all_goals try (exfalso; omega))
    | (apply G.gtr; rfl; rfl; (first | exact Wn.none | exact Wn.some rfl rfl); rfl; rfl; all_goals intro h; all_goals try (exfalso; omega))
    | (apply G.geq; rfl; rfl; (first | exact Wn.none | exact Wn.some rfl rfl); rfl; rfl; all_goals intro h; all_goals try (exfalso; omega))
    | (apply G.eql; rfl; rfl; (first | exact Wn.none | exact Wn.some rfl rfl); rfl; rfl; all_goals intro h; all_goals try (exfalso; omega))
    | (apply G.neq; rfl; rfl; (first | exact Wn.none | exact Wn.some rfl rfl); rfl; rfl; all_goals intro h; all_goals try (exfalso; omega))
    | (apply G.eql2; rfl; rfl; (first | exact Wn.none | exact Wn.some rfl rfl); rfl; rfl; all_goals intro h; all_goals try (exfalso; omega))
    | (apply G.neq2; rfl; rfl; (first | exact Wn.none | exact Wn.some rfl rfl); rfl; rfl; all_goals intro h; all_goals try (exfalso; omega))
    | (apply G.add; rfl; rfl; omega; omega; (first | exact Wn.none | exact Wn.some rfl rfl); rfl; rfl)
    | (apply G.sub; rfl; rfl; omega; omega; (first | exact Wn.none | exact Wn.some rfl rfl); rfl; rfl)
    | (apply G.addW; rfl; rfl; (first | exact Wn.none | exact Wn.some rfl rfl); rfl; rfl)
    | (apply G.subW; rfl; rfl; (first | exact Wn.none | exact Wn.some rfl rfl); rfl; rfl)
    | (apply G.extract; rfl; rfl; (first | exact Wn.none | exact Wn.some rfl rfl); rfl; rfl)
    | (apply G.build; rfl; rfl; (first | exact Wn.none | exact Wn.some rfl rfl); rfl; rfl)
    | (apply G.neg; rfl; omega; omega; (first | exact Wn.none | exact Wn.some rfl rfl); rfl; rfl)
    | (apply G.max2; rfl; rfl; (first | exact Wn.none | exact Wn.some rfl rfl); rfl; rfl)
    | (apply G.min2; rfl; rfl; (first | exact Wn.none | exact Wn.some rfl rfl); rfl; rfl)
    | (apply G.box; (first | exact Wn.none | exact Wn.some rfl rfl); rfl; rfl; rfl; rfl; intro Bk)
    | (apply G.alloc; (first | exact Wn.none | exact Wn.some rfl rfl); rfl; rfl; intro Bk)
    | (apply G.store (i := 0); (first | exact Wn.none | exact Wn.some rfl rfl); rfl; rfl; rfl; rfl; rfl; rfl; rfl; rfl)
    | (apply G.store (i := 1); (first | exact Wn.none | exact Wn.some rfl rfl); rfl; rfl; rfl; rfl; rfl; rfl; rfl; rfl)
    | (apply G.store (i := 2); (first | exact Wn.none | exact Wn.some rfl rfl); rfl; rfl; rfl; rfl; rfl; rfl; rfl; rfl)
    | (apply G.store (i := 3); (first | exact Wn.none | exact Wn.some rfl rfl); rfl; rfl; rfl; rfl; rfl; rfl; rfl; rfl)
    | (apply G.store (i := 4); (first | exact Wn.none | exact Wn.some rfl rfl); rfl; rfl; rfl; rfl; rfl; rfl; rfl; rfl)
    | (apply G.storeSame (i := 0); (first | exact Wn.none | exact Wn.some rfl rfl); rfl; rfl; rfl; rfl; rfl; rfl; rfl; rfl; rfl)
    | (apply G.storeSame (i := 1); (first | exact Wn.none | exact Wn.some rfl rfl); rfl; rfl; rfl; rfl; rfl; rfl; rfl; rfl; rfl)
    | (apply G.storeSame (i := 2); (first | exact Wn.none | exact Wn.some rfl rfl); rfl; rfl; rfl; rfl; rfl; rfl; rfl; rfl; rfl)
    | (apply J.regQ; exact Try.mixed; decide +kernel)
    | apply J.reg)
  · skip
    all_goals (apply leave Try.func22; (apply RunsTo.three Try.results22; (first | (apply ResV.tmp; rfl) | (apply ResV.cell; rfl; (first | (apply LdV.one; (first | exact CellV.row0 (by assumption) rfl | exact CellV.rowS (by assumption) rfl | exact CellV.blk (.head _) rfl | exact CellV.blk (.tail _ (.head _)) rfl | exact CellV.blk (.tail _ (.tail _ (.head _))) rfl | exact CellV.blk (.tail _ (.tail _ (.tail _ (.head _)))) rfl | exact CellV.blk (.tail _ (.tail _ (.tail _ (.tail _ (.head _))))) rfl | exact CellV.blk (.tail _ (.tail _ (.tail _ (.tail _ (.tail _ (.head _)))))) rfl)) | (apply LdV.aggBlk; (first | exact .head _ | exact .tail _ (.head _) | exact .tail _ (.tail _ (.head _)) | exact .tail _ (.tail _ (.tail _ (.head _))) | exact .tail _ (.tail _ (.tail _ (.tail _ (.head _)))) | exact .tail _ (.tail _ (.tail _ (.tail _ (.tail _ (.head _)))))); rfl) | (apply LdV.aggRow; assumption; rfl)))); (first | (apply ResV.tmp; rfl) | (apply ResV.cell; rfl; (first | (apply LdV.one; (first | exact CellV.row0 (by assumption) rfl | exact CellV.rowS (by assumption) rfl | exact CellV.blk (.head _) rfl | exact CellV.blk (.tail _ (.head _)) rfl | exact CellV.blk (.tail _ (.tail _ (.head _))) rfl | exact CellV.blk (.tail _ (.tail _ (.tail _ (.head _)))) rfl | exact CellV.blk (.tail _ (.tail _ (.tail _ (.tail _ (.head _))))) rfl | exact CellV.blk (.tail _ (.tail _ (.tail _ (.tail _ (.tail _ (.head _)))))) rfl)) | (apply LdV.aggBlk; (first | exact .head _ | exact .tail _ (.head _) | exact .tail _ (.tail _ (.head _)) | exact .tail _ (.tail _ (.tail _ (.head _))) | exact .tail _ (.tail _ (.tail _ (.tail _ (.head _)))) | exact .tail _ (.tail _ (.tail _ (.tail _ (.tail _ (.head _)))))); rfl) | (apply LdV.aggRow; assumption; rfl)))); (first | (apply ResV.tmp; rfl) | (apply ResV.cell; rfl; (first | (apply LdV.one; (first | exact CellV.row0 (by assumption) rfl | exact CellV.rowS (by assumption) rfl | exact CellV.blk (.head _) rfl | exact CellV.blk (.tail _ (.head _)) rfl | exact CellV.blk (.tail _ (.tail _ (.head _))) rfl | exact CellV.blk (.tail _ (.tail _ (.tail _ (.head _)))) rfl | exact CellV.blk (.tail _ (.tail _ (.tail _ (.tail _ (.head _))))) rfl | exact CellV.blk (.tail _ (.tail _ (.tail _ (.tail _ (.tail _ (.head _)))))) rfl)) | (apply LdV.aggBlk; (first | exact .head _ | exact .tail _ (.head _) | exact .tail _ (.tail _ (.head _)) | exact .tail _ (.tail _ (.tail _ (.head _))) | exact .tail _ (.tail _ (.tail _ (.tail _ (.head _)))) | exact .tail _ (.tail _ (.tail _ (.tail _ (.tail _ (.head _)))))); rfl) | (apply LdV.aggRow; assumption; rfl))))); intro w' hw; refine ⟨?_, hw.below⟩; clear hw)
    exact ret_sumt (r := (((0, 0), (0, 0)), 3)) (by rw [sumsS, if_pos (by omega)])
  · skip
    all_goals (apply leave Try.func22; (apply RunsTo.three Try.results22; (first | (apply ResV.tmp; rfl) | (apply ResV.cell; rfl; (first | (apply LdV.one; (first | exact CellV.row0 (by assumption) rfl | exact CellV.rowS (by assumption) rfl | exact CellV.blk (.head _) rfl | exact CellV.blk (.tail _ (.head _)) rfl | exact CellV.blk (.tail _ (.tail _ (.head _))) rfl | exact CellV.blk (.tail _ (.tail _ (.tail _ (.head _)))) rfl | exact CellV.blk (.tail _ (.tail _ (.tail _ (.tail _ (.head _))))) rfl | exact CellV.blk (.tail _ (.tail _ (.tail _ (.tail _ (.tail _ (.head _)))))) rfl)) | (apply LdV.aggBlk; (first | exact .head _ | exact .tail _ (.head _) | exact .tail _ (.tail _ (.head _)) | exact .tail _ (.tail _ (.tail _ (.head _))) | exact .tail _ (.tail _ (.tail _ (.tail _ (.head _)))) | exact .tail _ (.tail _ (.tail _ (.tail _ (.tail _ (.head _)))))); rfl) | (apply LdV.aggRow; assumption; rfl)))); (first | (apply ResV.tmp; rfl) | (apply ResV.cell; rfl; (first | (apply LdV.one; (first | exact CellV.row0 (by assumption) rfl | exact CellV.rowS (by assumption) rfl | exact CellV.blk (.head _) rfl | exact CellV.blk (.tail _ (.head _)) rfl | exact CellV.blk (.tail _ (.tail _ (.head _))) rfl | exact CellV.blk (.tail _ (.tail _ (.tail _ (.head _)))) rfl | exact CellV.blk (.tail _ (.tail _ (.tail _ (.tail _ (.head _))))) rfl | exact CellV.blk (.tail _ (.tail _ (.tail _ (.tail _ (.tail _ (.head _)))))) rfl)) | (apply LdV.aggBlk; (first | exact .head _ | exact .tail _ (.head _) | exact .tail _ (.tail _ (.head _)) | exact .tail _ (.tail _ (.tail _ (.head _))) | exact .tail _ (.tail _ (.tail _ (.tail _ (.head _)))) | exact .tail _ (.tail _ (.tail _ (.tail _ (.tail _ (.head _)))))); rfl) | (apply LdV.aggRow; assumption; rfl)))); (first | (apply ResV.tmp; rfl) | (apply ResV.cell; rfl; (first | (apply LdV.one; (first | exact CellV.row0 (by assumption) rfl | exact CellV.rowS (by assumption) rfl | exact CellV.blk (.head _) rfl | exact CellV.blk (.tail _ (.head _)) rfl | exact CellV.blk (.tail _ (.tail _ (.head _))) rfl | exact CellV.blk (.tail _ (.tail _ (.tail _ (.head _)))) rfl | exact CellV.blk (.tail _ (.tail _ (.tail _ (.tail _ (.head _))))) rfl | exact CellV.blk (.tail _ (.tail _ (.tail _ (.tail _ (.tail _ (.head _)))))) rfl)) | (apply LdV.aggBlk; (first | exact .head _ | exact .tail _ (.head _) | exact .tail _ (.tail _ (.head _)) | exact .tail _ (.tail _ (.tail _ (.head _))) | exact .tail _ (.tail _ (.tail _ (.tail _ (.head _)))) | exact .tail _ (.tail _ (.tail _ (.tail _ (.tail _ (.head _)))))); rfl) | (apply LdV.aggRow; assumption; rfl))))); intro w' hw; refine ⟨?_, hw.below⟩; clear hw)
    exact ret_sumt (r := (((0, 0), (0, 0)), 3)) (by rw [sumsS, if_pos (by omega)])
  · skip
    all_goals (apply leave Try.func22; (apply RunsTo.three Try.results22; (first | (apply ResV.tmp; rfl) | (apply ResV.cell; rfl; (first | (apply LdV.one; (first | exact CellV.row0 (by assumption) rfl | exact CellV.rowS (by assumption) rfl | exact CellV.blk (.head _) rfl | exact CellV.blk (.tail _ (.head _)) rfl | exact CellV.blk (.tail _ (.tail _ (.head _))) rfl | exact CellV.blk (.tail _ (.tail _ (.tail _ (.head _)))) rfl | exact CellV.blk (.tail _ (.tail _ (.tail _ (.tail _ (.head _))))) rfl | exact CellV.blk (.tail _ (.tail _ (.tail _ (.tail _ (.tail _ (.head _)))))) rfl)) | (apply LdV.aggBlk; (first | exact .head _ | exact .tail _ (.head _) | exact .tail _ (.tail _ (.head _)) | exact .tail _ (.tail _ (.tail _ (.head _))) | exact .tail _ (.tail _ (.tail _ (.tail _ (.head _)))) | exact .tail _ (.tail _ (.tail _ (.tail _ (.tail _ (.head _)))))); rfl) | (apply LdV.aggRow; assumption; rfl)))); (first | (apply ResV.tmp; rfl) | (apply ResV.cell; rfl; (first | (apply LdV.one; (first | exact CellV.row0 (by assumption) rfl | exact CellV.rowS (by assumption) rfl | exact CellV.blk (.head _) rfl | exact CellV.blk (.tail _ (.head _)) rfl | exact CellV.blk (.tail _ (.tail _ (.head _))) rfl | exact CellV.blk (.tail _ (.tail _ (.tail _ (.head _)))) rfl | exact CellV.blk (.tail _ (.tail _ (.tail _ (.tail _ (.head _))))) rfl | exact CellV.blk (.tail _ (.tail _ (.tail _ (.tail _ (.tail _ (.head _)))))) rfl)) | (apply LdV.aggBlk; (first | exact .head _ | exact .tail _ (.head _) | exact .tail _ (.tail _ (.head _)) | exact .tail _ (.tail _ (.tail _ (.head _))) | exact .tail _ (.tail _ (.tail _ (.tail _ (.head _)))) | exact .tail _ (.tail _ (.tail _ (.tail _ (.tail _ (.head _)))))); rfl) | (apply LdV.aggRow; assumption; rfl)))); (first | (apply ResV.tmp; rfl) | (apply ResV.cell; rfl; (first | (apply LdV.one; (first | exact CellV.row0 (by assumption) rfl | exact CellV.rowS (by assumption) rfl | exact CellV.blk (.head _) rfl | exact CellV.blk (.tail _ (.head _)) rfl | exact CellV.blk (.tail _ (.tail _ (.head _))) rfl | exact CellV.blk (.tail _ (.tail _ (.tail _ (.head _)))) rfl | exact CellV.blk (.tail _ (.tail _ (.tail _ (.tail _ (.head _))))) rfl | exact CellV.blk (.tail _ (.tail _ (.tail _ (.tail _ (.tail _ (.head _)))))) rfl)) | (apply LdV.aggBlk; (first | exact .head _ | exact .tail _ (.head _) | exact .tail _ (.tail _ (.head _)) | exact .tail _ (.tail _ (.tail _ (.head _))) | exact .tail _ (.tail _ (.tail _ (.tail _ (.head _)))) | exact .tail _ (.tail _ (.tail _ (.tail _ (.tail _ (.head _)))))); rfl) | (apply LdV.aggRow; assumption; rfl))))); intro w' hw; refine ⟨?_, hw.below⟩; clear hw)
    exact ret_sumt (r := (((0, 0), (0, 0)), 3)) (by rw [sumsS, if_pos (by omega)])
  · skip
    all_goals (apply leave Try.func22; (apply RunsTo.three Try.results22; (first | (apply ResV.tmp; rfl) | (apply ResV.cell; rfl; (first | (apply LdV.one; (first | exact CellV.row0 (by assumption) rfl | exact CellV.rowS (by assumption) rfl | exact CellV.blk (.head _) rfl | exact CellV.blk (.tail _ (.head _)) rfl | exact CellV.blk (.tail _ (.tail _ (.head _))) rfl | exact CellV.blk (.tail _ (.tail _ (.tail _ (.head _)))) rfl | exact CellV.blk (.tail _ (.tail _ (.tail _ (.tail _ (.head _))))) rfl | exact CellV.blk (.tail _ (.tail _ (.tail _ (.tail _ (.tail _ (.head _)))))) rfl)) | (apply LdV.aggBlk; (first | exact .head _ | exact .tail _ (.head _) | exact .tail _ (.tail _ (.head _)) | exact .tail _ (.tail _ (.tail _ (.head _))) | exact .tail _ (.tail _ (.tail _ (.tail _ (.head _)))) | exact .tail _ (.tail _ (.tail _ (.tail _ (.tail _ (.head _)))))); rfl) | (apply LdV.aggRow; assumption; rfl)))); (first | (apply ResV.tmp; rfl) | (apply ResV.cell; rfl; (first | (apply LdV.one; (first | exact CellV.row0 (by assumption) rfl | exact CellV.rowS (by assumption) rfl | exact CellV.blk (.head _) rfl | exact CellV.blk (.tail _ (.head _)) rfl | exact CellV.blk (.tail _ (.tail _ (.head _))) rfl | exact CellV.blk (.tail _ (.tail _ (.tail _ (.head _)))) rfl | exact CellV.blk (.tail _ (.tail _ (.tail _ (.tail _ (.head _))))) rfl | exact CellV.blk (.tail _ (.tail _ (.tail _ (.tail _ (.tail _ (.head _)))))) rfl)) | (apply LdV.aggBlk; (first | exact .head _ | exact .tail _ (.head _) | exact .tail _ (.tail _ (.head _)) | exact .tail _ (.tail _ (.tail _ (.head _))) | exact .tail _ (.tail _ (.tail _ (.tail _ (.head _)))) | exact .tail _ (.tail _ (.tail _ (.tail _ (.tail _ (.head _)))))); rfl) | (apply LdV.aggRow; assumption; rfl)))); (first | (apply ResV.tmp; rfl) | (apply ResV.cell; rfl; (first | (apply LdV.one; (first | exact CellV.row0 (by assumption) rfl | exact CellV.rowS (by assumption) rfl | exact CellV.blk (.head _) rfl | exact CellV.blk (.tail _ (.head _)) rfl | exact CellV.blk (.tail _ (.tail _ (.head _))) rfl | exact CellV.blk (.tail _ (.tail _ (.tail _ (.head _)))) rfl | exact CellV.blk (.tail _ (.tail _ (.tail _ (.tail _ (.head _))))) rfl | exact CellV.blk (.tail _ (.tail _ (.tail _ (.tail _ (.tail _ (.head _)))))) rfl)) | (apply LdV.aggBlk; (first | exact .head _ | exact .tail _ (.head _) | exact .tail _ (.tail _ (.head _)) | exact .tail _ (.tail _ (.tail _ (.head _))) | exact .tail _ (.tail _ (.tail _ (.tail _ (.head _)))) | exact .tail _ (.tail _ (.tail _ (.tail _ (.tail _ (.head _)))))); rfl) | (apply LdV.aggRow; assumption; rfl))))); intro w' hw; refine ⟨?_, hw.below⟩; clear hw)
    exact ret_sumt (r := (((0, 0), (0, 0)), 2)) (by rw [sumsS, if_neg (by rintro (h | h | h | h) <;> first | omega | simp_all), if_pos (by omega)])
  rotate_left
  · skip
    all_goals (apply leave Try.func22; (apply RunsTo.three Try.results22; (first | (apply ResV.tmp; rfl) | (apply ResV.cell; rfl; (first | (apply LdV.one; (first | exact CellV.row0 (by assumption) rfl | exact CellV.rowS (by assumption) rfl | exact CellV.blk (.head _) rfl | exact CellV.blk (.tail _ (.head _)) rfl | exact CellV.blk (.tail _ (.tail _ (.head _))) rfl | exact CellV.blk (.tail _ (.tail _ (.tail _ (.head _)))) rfl | exact CellV.blk (.tail _ (.tail _ (.tail _ (.tail _ (.head _))))) rfl | exact CellV.blk (.tail _ (.tail _ (.tail _ (.tail _ (.tail _ (.head _)))))) rfl)) | (apply LdV.aggBlk; (first | exact .head _ | exact .tail _ (.head _) | exact .tail _ (.tail _ (.head _)) | exact .tail _ (.tail _ (.tail _ (.head _))) | exact .tail _ (.tail _ (.tail _ (.tail _ (.head _)))) | exact .tail _ (.tail _ (.tail _ (.tail _ (.tail _ (.head _)))))); rfl) | (apply LdV.aggRow; assumption; rfl)))); (first | (apply ResV.tmp; rfl) | (apply ResV.cell; rfl; (first | (apply LdV.one; (first | exact CellV.row0 (by assumption) rfl | exact CellV.rowS (by assumption) rfl | exact CellV.blk (.head _) rfl | exact CellV.blk (.tail _ (.head _)) rfl | exact CellV.blk (.tail _ (.tail _ (.head _))) rfl | exact CellV.blk (.tail _ (.tail _ (.tail _ (.head _)))) rfl | exact CellV.blk (.tail _ (.tail _ (.tail _ (.tail _ (.head _))))) rfl | exact CellV.blk (.tail _ (.tail _ (.tail _ (.tail _ (.tail _ (.head _)))))) rfl)) | (apply LdV.aggBlk; (first | exact .head _ | exact .tail _ (.head _) | exact .tail _ (.tail _ (.head _)) | exact .tail _ (.tail _ (.tail _ (.head _))) | exact .tail _ (.tail _ (.tail _ (.tail _ (.head _)))) | exact .tail _ (.tail _ (.tail _ (.tail _ (.tail _ (.head _)))))); rfl) | (apply LdV.aggRow; assumption; rfl)))); (first | (apply ResV.tmp; rfl) | (apply ResV.cell; rfl; (first | (apply LdV.one; (first | exact CellV.row0 (by assumption) rfl | exact CellV.rowS (by assumption) rfl | exact CellV.blk (.head _) rfl | exact CellV.blk (.tail _ (.head _)) rfl | exact CellV.blk (.tail _ (.tail _ (.head _))) rfl | exact CellV.blk (.tail _ (.tail _ (.tail _ (.head _)))) rfl | exact CellV.blk (.tail _ (.tail _ (.tail _ (.tail _ (.head _))))) rfl | exact CellV.blk (.tail _ (.tail _ (.tail _ (.tail _ (.tail _ (.head _)))))) rfl)) | (apply LdV.aggBlk; (first | exact .head _ | exact .tail _ (.head _) | exact .tail _ (.tail _ (.head _)) | exact .tail _ (.tail _ (.tail _ (.head _))) | exact .tail _ (.tail _ (.tail _ (.tail _ (.head _)))) | exact .tail _ (.tail _ (.tail _ (.tail _ (.tail _ (.head _)))))); rfl) | (apply LdV.aggRow; assumption; rfl))))); intro w' hw; refine ⟨?_, hw.below⟩; clear hw)
    exact ret_sumt (r := (((0, 0), (0, 0)), 3)) (by rw [sumsS, if_pos (by exact .inl ‹_›)])
  rename_i B7 B8 hval h0 h1 h2
  rename Nat => B9
  have hin : sumsS v f t (s1, s2) = if v.any bigB then (((0, 0), (0, 0)), 2) else if f - s2 < 0 ∨ (v.length : Int) < t - s1 then (((0, 0), (0, 0)), 1) else (bestS (sumOf v f t) s1 (s2 - s1).toNat, 0) := by
    rw [sumsS, if_neg (by rintro (h | h | h | h) <;> first | omega | simp_all), if_neg (by omega)]
  have hvb := validB_iff.1 hval
  dsimp only at hvb
  refine J.loop (c := _) (0 : Nat) (fun k => v.length - k) (fun k : Nat => [(0, .slice a v.length c), (1, .int .i64 f), (2, .int .i64 t), (7, .pointer (some ⟨B7, 0, none⟩)), (8, .pointer (some ⟨B8, 0, none⟩)), (9, .pointer (some ⟨B9, 0, none⟩)), (40, .slice a v.length c), (41, .int .i64 v.length), (42, .int .i64 k)]) (fun _ => [.blk B9 51 [.int .i64 0, .int .i64 0] 2, .blk B8 51 [.int .i64 0, .int .i64 0] 2, .blk B7 47 [.int .i64 s1, .int .i64 s2] 2]) (fun k => k ≤ v.length ∧ (v.drop k).any bigB = v.any bigB) ⟨Nat.zero_le _, ?_⟩ (by (repeat' (first | exact trivial | refine ⟨rfl, ?_⟩))) (by (repeat' (first | exact List.Sublist.refl _ | apply List.Sublist.cons_cons | apply List.Sublist.cons))) ?_
  · simp
  intro k hI ih
  obtain ⟨hk, hr⟩ := hI
  by_cases hlt : k < v.length
  · obtain ⟨ba, offa, rfl, hrow⟩ := hA.at k hlt
    have hb : bigB v[k] = decide (v[k] < -1000 ∨ 1000 < v[k]) := rfl
    repeat' (first
      | (apply J.regA (.q 0 <| .q 1 <| .e 2 <| .r 3 <| .q 4 <| .nil); exact Try.mixed; decide +kernel)
      | (apply G.move; rfl; (first | exact Wn.none | exact Wn.some rfl rfl); rfl; rfl)
      | (apply G.assign; rfl; (first | exact Wn.none | exact Wn.some rfl rfl); rfl; rfl)
      | (apply G.fieldAddr; rfl; (first | exact Wn.none | exact Wn.some rfl rfl); rfl; rfl)
      | (apply G.load; rfl; (first | (apply LdV.one; (first | exact CellV.row0 (by assumption) rfl | exact CellV.rowS (by assumption) rfl | exact CellV.blk (.head _) rfl | exact CellV.blk (.tail _ (.head _)) rfl | exact CellV.blk (.tail _ (.tail _ (.head _))) rfl | exact CellV.blk (.tail _ (.tail _ (.tail _ (.head _)))) rfl | exact CellV.blk (.tail _ (.tail _ (.tail _ (.tail _ (.head _))))) rfl | exact CellV.blk (.tail _ (.tail _ (.tail _ (.tail _ (.tail _ (.head _)))))) rfl)) | (apply LdV.aggBlk; (first | exact .head _ | exact .tail _ (.head _) | exact .tail _ (.tail _ (.head _)) | exact .tail _ (.tail _ (.tail _ (.head _))) | exact .tail _ (.tail _ (.tail _ (.tail _ (.head _)))) | exact .tail _ (.tail _ (.tail _ (.tail _ (.tail _ (.head _)))))); rfl) | (apply LdV.aggRow; assumption; rfl)); (first | exact Wn.none | exact Wn.some rfl rfl); rfl; rfl)
      | (apply G.nil; rfl)
      | apply J.seq
      | (apply J.condT; rfl)
      | (apply J.condF; rfl)
      | apply J.skip
      | apply J.block
      | apply J.inBlock
      | (apply J.exit; rfl)
      | (apply G.skip; rfl; rfl; rfl; rfl; rfl)
      | (apply G.lenSlice; rfl; (first | exact Wn.none | exact Wn.some rfl rfl); rfl; rfl)
      | (apply G.indexAddr; rfl; rfl; rfl; omega; (first | exact Wn.none | exact Wn.some rfl rfl); rfl; rfl)
      | (apply G.notT; rfl; (first | exact Wn.none | exact Wn.some rfl rfl); rfl; rfl)
      | (apply G.notF; rfl; (first | exact Wn.none | exact Wn.some rfl rfl); rfl; rfl)
      | (apply G.pickT; rfl; rfl; (first | exact Wn.none | exact Wn.some rfl rfl); rfl; rfl)
      | (apply G.pickF; rfl; rfl; (first | exact Wn.none | exact Wn.some rfl rfl); rfl; rfl)
      | (apply G.lss; rfl; rfl; (first | exact Wn.none | exact Wn.some rfl rfl); rfl; rfl; all_goals intro h; all_goals try (exfalso; omega))
      | (apply G.leq; rfl; rfl; (first | exact Wn.none | exact Wn.some rfl rfl); rfl; rfl; all_goals intro h; all_goals try (exfalso; omega))
      | (apply G.gtr; rfl; rfl; (first | exact Wn.none | exact Wn.some rfl rfl); rfl; rfl; all_goals intro h; all_goals try (exfalso; omega))
      | (apply G.geq; rfl; rfl; (first | exact Wn.none | exact Wn.some rfl rfl); rfl; rfl; all_goals intro h; all_goals try (exfalso; omega))
      | (apply G.eql; rfl; rfl; (first | exact Wn.none | exact Wn.some rfl rfl); rfl; rfl; all_goals intro h; all_goals try (exfalso; omega))
      | (apply G.neq; rfl; rfl; (first | exact Wn.none | exact Wn.some rfl rfl); rfl; rfl; all_goals intro h; all_goals try (exfalso; omega))
      | (apply G.eql2; rfl; rfl; (first | exact Wn.none | exact Wn.some rfl rfl); rfl; rfl; all_goals intro h; all_goals try (exfalso; omega))
      | (apply G.neq2; rfl; rfl; (first | exact Wn.none | exact Wn.some rfl rfl); rfl; rfl; all_goals intro h; all_goals try (exfalso; omega))
      | (apply G.add; rfl; rfl; omega; omega; (first | exact Wn.none | exact Wn.some rfl rfl); rfl; rfl)
      | (apply G.sub; rfl; rfl; omega; omega; (first | exact Wn.none | exact Wn.some rfl rfl); rfl; rfl)
      | (apply G.addW; rfl; rfl; (first | exact Wn.none | exact Wn.some rfl rfl); rfl; rfl)
      | (apply G.subW; rfl; rfl; (first | exact Wn.none | exact Wn.some rfl rfl); rfl; rfl)
      | (apply G.extract; rfl; rfl; (first | exact Wn.none | exact Wn.some rfl rfl); rfl; rfl)
      | (apply G.build; rfl; rfl; (first | exact Wn.none | exact Wn.some rfl rfl); rfl; rfl)
      | (apply G.neg; rfl; omega; omega; (first | exact Wn.none | exact Wn.some rfl rfl); rfl; rfl)
      | (apply G.max2; rfl; rfl; (first | exact Wn.none | exact Wn.some rfl rfl); rfl; rfl)
      | (apply G.min2; rfl; rfl; (first | exact Wn.none | exact Wn.some rfl rfl); rfl; rfl)
      | (apply G.box; (first | exact Wn.none | exact Wn.some rfl rfl); rfl; rfl; rfl; rfl; intro Bk)
      | (apply G.alloc; (first | exact Wn.none | exact Wn.some rfl rfl); rfl; rfl; intro Bk)
      | (apply G.store (i := 0); (first | exact Wn.none | exact Wn.some rfl rfl); rfl; rfl; rfl; rfl; rfl; rfl; rfl; rfl)
      | (apply G.store (i := 1); (first | exact Wn.none | exact Wn.some rfl rfl); rfl; rfl; rfl; rfl; rfl; rfl; rfl; rfl)
      | (apply G.store (i := 2); (first | exact Wn.none | exact Wn.some rfl rfl); rfl; rfl; rfl; rfl; rfl; rfl; rfl; rfl)
      | (apply G.store (i := 3); (first | exact Wn.none | exact Wn.some rfl rfl); rfl; rfl; rfl; rfl; rfl; rfl; rfl; rfl)
      | (apply G.store (i := 4); (first | exact Wn.none | exact Wn.some rfl rfl); rfl; rfl; rfl; rfl; rfl; rfl; rfl; rfl)
      | (apply G.storeSame (i := 0); (first | exact Wn.none | exact Wn.some rfl rfl); rfl; rfl; rfl; rfl; rfl; rfl; rfl; rfl; rfl)
      | (apply G.storeSame (i := 1); (first | exact Wn.none | exact Wn.some rfl rfl); rfl; rfl; rfl; rfl; rfl; rfl; rfl; rfl; rfl)
      | (apply G.storeSame (i := 2); (first | exact Wn.none | exact Wn.some rfl rfl); rfl; rfl; rfl; rfl; rfl; rfl; rfl; rfl; rfl)
      | (apply J.regQ; exact Try.mixed; decide +kernel)
      | apply J.reg)
    · skip
      all_goals (apply leave Try.func22; (apply RunsTo.three Try.results22; (first | (apply ResV.tmp; rfl) | (apply ResV.cell; rfl; (first | (apply LdV.one; (first | exact CellV.row0 (by assumption) rfl | exact CellV.rowS (by assumption) rfl | exact CellV.blk (.head _) rfl | exact CellV.blk (.tail _ (.head _)) rfl | exact CellV.blk (.tail _ (.tail _ (.head _))) rfl | exact CellV.blk (.tail _ (.tail _ (.tail _ (.head _)))) rfl | exact CellV.blk (.tail _ (.tail _ (.tail _ (.tail _ (.head _))))) rfl | exact CellV.blk (.tail _ (.tail _ (.tail _ (.tail _ (.tail _ (.head _)))))) rfl)) | (apply LdV.aggBlk; (first | exact .head _ | exact .tail _ (.head _) | exact .tail _ (.tail _ (.head _)) | exact .tail _ (.tail _ (.tail _ (.head _))) | exact .tail _ (.tail _ (.tail _ (.tail _ (.head _)))) | exact .tail _ (.tail _ (.tail _ (.tail _ (.tail _ (.head _)))))); rfl) | (apply LdV.aggRow; assumption; rfl)))); (first | (apply ResV.tmp; rfl) | (apply ResV.cell; rfl; (first | (apply LdV.one; (first | exact CellV.row0 (by assumption) rfl | exact CellV.rowS (by assumption) rfl | exact CellV.blk (.head _) rfl | exact CellV.blk (.tail _ (.head _)) rfl | exact CellV.blk (.tail _ (.tail _ (.head _))) rfl | exact CellV.blk (.tail _ (.tail _ (.tail _ (.head _)))) rfl | exact CellV.blk (.tail _ (.tail _ (.tail _ (.tail _ (.head _))))) rfl | exact CellV.blk (.tail _ (.tail _ (.tail _ (.tail _ (.tail _ (.head _)))))) rfl)) | (apply LdV.aggBlk; (first | exact .head _ | exact .tail _ (.head _) | exact .tail _ (.tail _ (.head _)) | exact .tail _ (.tail _ (.tail _ (.head _))) | exact .tail _ (.tail _ (.tail _ (.tail _ (.head _)))) | exact .tail _ (.tail _ (.tail _ (.tail _ (.tail _ (.head _)))))); rfl) | (apply LdV.aggRow; assumption; rfl)))); (first | (apply ResV.tmp; rfl) | (apply ResV.cell; rfl; (first | (apply LdV.one; (first | exact CellV.row0 (by assumption) rfl | exact CellV.rowS (by assumption) rfl | exact CellV.blk (.head _) rfl | exact CellV.blk (.tail _ (.head _)) rfl | exact CellV.blk (.tail _ (.tail _ (.head _))) rfl | exact CellV.blk (.tail _ (.tail _ (.tail _ (.head _)))) rfl | exact CellV.blk (.tail _ (.tail _ (.tail _ (.tail _ (.head _))))) rfl | exact CellV.blk (.tail _ (.tail _ (.tail _ (.tail _ (.tail _ (.head _)))))) rfl)) | (apply LdV.aggBlk; (first | exact .head _ | exact .tail _ (.head _) | exact .tail _ (.tail _ (.head _)) | exact .tail _ (.tail _ (.tail _ (.head _))) | exact .tail _ (.tail _ (.tail _ (.tail _ (.head _)))) | exact .tail _ (.tail _ (.tail _ (.tail _ (.tail _ (.head _)))))); rfl) | (apply LdV.aggRow; assumption; rfl))))); intro w' hw; refine ⟨?_, hw.below⟩; clear hw)
      exact ret_sumt (r := (((0, 0), (0, 0)), 2)) (by rw [hin, ← hr, any_drop_true hlt (by rw [hb]; exact decide_eq_true (by omega)), if_pos rfl])
    · skip
      all_goals (apply leave Try.func22; (apply RunsTo.three Try.results22; (first | (apply ResV.tmp; rfl) | (apply ResV.cell; rfl; (first | (apply LdV.one; (first | exact CellV.row0 (by assumption) rfl | exact CellV.rowS (by assumption) rfl | exact CellV.blk (.head _) rfl | exact CellV.blk (.tail _ (.head _)) rfl | exact CellV.blk (.tail _ (.tail _ (.head _))) rfl | exact CellV.blk (.tail _ (.tail _ (.tail _ (.head _)))) rfl | exact CellV.blk (.tail _ (.tail _ (.tail _ (.tail _ (.head _))))) rfl | exact CellV.blk (.tail _ (.tail _ (.tail _ (.tail _ (.tail _ (.head _)))))) rfl)) | (apply LdV.aggBlk; (first | exact .head _ | exact .tail _ (.head _) | exact .tail _ (.tail _ (.head _)) | exact .tail _ (.tail _ (.tail _ (.head _))) | exact .tail _ (.tail _ (.tail _ (.tail _ (.head _)))) | exact .tail _ (.tail _ (.tail _ (.tail _ (.tail _ (.head _)))))); rfl) | (apply LdV.aggRow; assumption; rfl)))); (first | (apply ResV.tmp; rfl) | (apply ResV.cell; rfl; (first | (apply LdV.one; (first | exact CellV.row0 (by assumption) rfl | exact CellV.rowS (by assumption) rfl | exact CellV.blk (.head _) rfl | exact CellV.blk (.tail _ (.head _)) rfl | exact CellV.blk (.tail _ (.tail _ (.head _))) rfl | exact CellV.blk (.tail _ (.tail _ (.tail _ (.head _)))) rfl | exact CellV.blk (.tail _ (.tail _ (.tail _ (.tail _ (.head _))))) rfl | exact CellV.blk (.tail _ (.tail _ (.tail _ (.tail _ (.tail _ (.head _)))))) rfl)) | (apply LdV.aggBlk; (first | exact .head _ | exact .tail _ (.head _) | exact .tail _ (.tail _ (.head _)) | exact .tail _ (.tail _ (.tail _ (.head _))) | exact .tail _ (.tail _ (.tail _ (.tail _ (.head _)))) | exact .tail _ (.tail _ (.tail _ (.tail _ (.tail _ (.head _)))))); rfl) | (apply LdV.aggRow; assumption; rfl)))); (first | (apply ResV.tmp; rfl) | (apply ResV.cell; rfl; (first | (apply LdV.one; (first | exact CellV.row0 (by assumption) rfl | exact CellV.rowS (by assumption) rfl | exact CellV.blk (.head _) rfl | exact CellV.blk (.tail _ (.head _)) rfl | exact CellV.blk (.tail _ (.tail _ (.head _))) rfl | exact CellV.blk (.tail _ (.tail _ (.tail _ (.head _)))) rfl | exact CellV.blk (.tail _ (.tail _ (.tail _ (.tail _ (.head _))))) rfl | exact CellV.blk (.tail _ (.tail _ (.tail _ (.tail _ (.tail _ (.head _)))))) rfl)) | (apply LdV.aggBlk; (first | exact .head _ | exact .tail _ (.head _) | exact .tail _ (.tail _ (.head _)) | exact .tail _ (.tail _ (.tail _ (.head _))) | exact .tail _ (.tail _ (.tail _ (.tail _ (.head _)))) | exact .tail _ (.tail _ (.tail _ (.tail _ (.tail _ (.head _)))))); rfl) | (apply LdV.aggRow; assumption; rfl))))); intro w' hw; refine ⟨?_, hw.below⟩; clear hw)
      exact ret_sumt (r := (((0, 0), (0, 0)), 2)) (by rw [hin, ← hr, any_drop_true hlt (by rw [hb]; exact decide_eq_true (by omega)), if_pos rfl])
    · skip
      (refine J.forget (by (repeat' (first | exact List.Sublist.refl _ | apply List.Sublist.cons_cons | apply List.Sublist.cons))) (J.sub (by (repeat' (first | exact trivial | refine ⟨rfl, ?_⟩))) (ih (k + 1) ⟨by omega, ?_⟩ (by omega))))
      rw [any_drop hlt (by rw [hb]; exact decide_eq_false (by omega))]; exact hr
  rw [any_drop_end hlt] at hr
  have hv := any_big hr.symm
  rw [← hr, if_neg (by decide)] at hin
  by_cases hok : 0 ≤ f - s2 ∧ t - s1 ≤ v.length
  · obtain ⟨i, hi⟩ := Int.eq_ofNat_of_zero_le (show 0 ≤ f - s1 by omega)
    obtain ⟨n, hn⟩ := Int.eq_ofNat_of_zero_le (show 0 ≤ t - f by omega)
    obtain ⟨m, hm⟩ := Int.eq_ofNat_of_zero_le (show 0 ≤ s2 - s1 by omega)
    have hfin : sumsS v f t (s1, s2) = (bestS (sumOf v f t) s1 m, 0) := by rw [hin, if_neg (by omega)]; congr 2; omega
    have hS : ∀ s (j : Nat), f - s = j → sumS v j n = sumOf v f t s := fun s j hj => by rw [sumOf]; congr 1 <;> omega
    have hB : ∀ s, -1402560000 ≤ sumOf v f t s ∧ sumOf v f t s ≤ 1402560000 := bestS_bound hv (by omega) (by omega) (by omega)
    repeat' (first
      | (apply G.slice (l := i) (h := i + n); rfl; rfl; rfl; omega; omega; omega; omega; (first | exact Wn.none | exact Wn.some rfl rfl); rfl; rfl)
      | (apply G.move; rfl; (first | exact Wn.none | exact Wn.some rfl rfl); rfl; rfl)
      | (apply G.assign; rfl; (first | exact Wn.none | exact Wn.some rfl rfl); rfl; rfl)
      | (apply G.fieldAddr; rfl; (first | exact Wn.none | exact Wn.some rfl rfl); rfl; rfl)
      | (apply G.load; rfl; (first | (apply LdV.one; (first | exact CellV.row0 (by assumption) rfl | exact CellV.rowS (by assumption) rfl | exact CellV.blk (.head _) rfl | exact CellV.blk (.tail _ (.head _)) rfl | exact CellV.blk (.tail _ (.tail _ (.head _))) rfl | exact CellV.blk (.tail _ (.tail _ (.tail _ (.head _)))) rfl | exact CellV.blk (.tail _ (.tail _ (.tail _ (.tail _ (.head _))))) rfl | exact CellV.blk (.tail _ (.tail _ (.tail _ (.tail _ (.tail _ (.head _)))))) rfl)) | (apply LdV.aggBlk; (first | exact .head _ | exact .tail _ (.head _) | exact .tail _ (.tail _ (.head _)) | exact .tail _ (.tail _ (.tail _ (.head _))) | exact .tail _ (.tail _ (.tail _ (.tail _ (.head _)))) | exact .tail _ (.tail _ (.tail _ (.tail _ (.tail _ (.head _)))))); rfl) | (apply LdV.aggRow; assumption; rfl)); (first | exact Wn.none | exact Wn.some rfl rfl); rfl; rfl)
      | (apply G.nil; rfl)
      | apply J.seq
      | (apply J.condT; rfl)
      | (apply J.condF; rfl)
      | apply J.skip
      | apply J.block
      | apply J.inBlock
      | (apply J.exit; rfl)
      | (apply G.skip; rfl; rfl; rfl; rfl; rfl)
      | (apply G.lenSlice; rfl; (first | exact Wn.none | exact Wn.some rfl rfl); rfl; rfl)
      | (apply G.indexAddr; rfl; rfl; rfl; omega; (first | exact Wn.none | exact Wn.some rfl rfl); rfl; rfl)
      | (apply G.notT; rfl; (first | exact Wn.none | exact Wn.some rfl rfl); rfl; rfl)
      | (apply G.notF; rfl; (first | exact Wn.none | exact Wn.some rfl rfl); rfl; rfl)
      | (apply G.pickT; rfl; rfl; (first | exact Wn.none | exact Wn.some rfl rfl); rfl; rfl)
      | (apply G.pickF; rfl; rfl; (first | exact Wn.none | exact Wn.some rfl rfl); rfl; rfl)
      | (apply G.lss; rfl; rfl; (first | exact Wn.none | exact Wn.some rfl rfl); rfl; rfl; all_goals intro h; all_goals try (exfalso; omega))
      | (apply G.leq; rfl; rfl; (first | exact Wn.none | exact Wn.some rfl rfl); rfl; rfl; all_goals intro h; all_goals try (exfalso; omega))
      | (apply G.gtr; rfl; rfl; (first | exact Wn.none | exact Wn.some rfl rfl); rfl; rfl; all_goals intro h; all_goals try (exfalso; omega))
      | (apply G.geq; rfl; rfl; (first | exact Wn.none | exact Wn.some rfl rfl); rfl; rfl; all_goals intro h; all_goals try (exfalso; omega))
      | (apply G.eql; rfl; rfl; (first | exact Wn.none | exact Wn.some rfl rfl); rfl; rfl; all_goals intro h; all_goals try (exfalso; omega))
      | (apply G.neq; rfl; rfl; (first | exact Wn.none | exact Wn.some rfl rfl); rfl; rfl; all_goals intro h; all_goals try (exfalso; omega))
      | (apply G.eql2; rfl; rfl; (first | exact Wn.none | exact Wn.some rfl rfl); rfl; rfl; all_goals intro h; all_goals try (exfalso; omega))
      | (apply G.neq2; rfl; rfl; (first | exact Wn.none | exact Wn.some rfl rfl); rfl; rfl; all_goals intro h; all_goals try (exfalso; omega))
      | (apply G.add; rfl; rfl; omega; omega; (first | exact Wn.none | exact Wn.some rfl rfl); rfl; rfl)
      | (apply G.sub; rfl; rfl; omega; omega; (first | exact Wn.none | exact Wn.some rfl rfl); rfl; rfl)
      | (apply G.addW; rfl; rfl; (first | exact Wn.none | exact Wn.some rfl rfl); rfl; rfl)
      | (apply G.subW; rfl; rfl; (first | exact Wn.none | exact Wn.some rfl rfl); rfl; rfl)
      | (apply G.extract; rfl; rfl; (first | exact Wn.none | exact Wn.some rfl rfl); rfl; rfl)
      | (apply G.build; rfl; rfl; (first | exact Wn.none | exact Wn.some rfl rfl); rfl; rfl)
      | (apply G.neg; rfl; omega; omega; (first | exact Wn.none | exact Wn.some rfl rfl); rfl; rfl)
      | (apply G.max2; rfl; rfl; (first | exact Wn.none | exact Wn.some rfl rfl); rfl; rfl)
      | (apply G.min2; rfl; rfl; (first | exact Wn.none | exact Wn.some rfl rfl); rfl; rfl)
      | (apply G.box; (first | exact Wn.none | exact Wn.some rfl rfl); rfl; rfl; rfl; rfl; intro Bk)
      | (apply G.alloc; (first | exact Wn.none | exact Wn.some rfl rfl); rfl; rfl; intro Bk)
      | (apply G.store (i := 0); (first | exact Wn.none | exact Wn.some rfl rfl); rfl; rfl; rfl; rfl; rfl; rfl; rfl; rfl)
      | (apply G.store (i := 1); (first | exact Wn.none | exact Wn.some rfl rfl); rfl; rfl; rfl; rfl; rfl; rfl; rfl; rfl)
      | (apply G.store (i := 2); (first | exact Wn.none | exact Wn.some rfl rfl); rfl; rfl; rfl; rfl; rfl; rfl; rfl; rfl)
      | (apply G.store (i := 3); (first | exact Wn.none | exact Wn.some rfl rfl); rfl; rfl; rfl; rfl; rfl; rfl; rfl; rfl)
      | (apply G.store (i := 4); (first | exact Wn.none | exact Wn.some rfl rfl); rfl; rfl; rfl; rfl; rfl; rfl; rfl; rfl)
      | (apply G.storeSame (i := 0); (first | exact Wn.none | exact Wn.some rfl rfl); rfl; rfl; rfl; rfl; rfl; rfl; rfl; rfl; rfl)
      | (apply G.storeSame (i := 1); (first | exact Wn.none | exact Wn.some rfl rfl); rfl; rfl; rfl; rfl; rfl; rfl; rfl; rfl; rfl)
      | (apply G.storeSame (i := 2); (first | exact Wn.none | exact Wn.some rfl rfl); rfl; rfl; rfl; rfl; rfl; rfl; rfl; rfl; rfl)
      | (apply J.regQ; exact Try.mixed; decide +kernel)
      | apply J.reg)
    have hA2 := subA_at (lo := i) (hi := i + n) hA (by omega) (by omega) hlc
    generalize subA a c i 1 = q at hA2 ⊢
    clear hin ih
    refine J.loop (c := _) ((0, 0) : Nat × Int) (fun x => n - x.1) (fun x => [(0, .slice a v.length c), (1, .int .i64 f), (2, .int .i64 t), (7, .pointer (some ⟨B7, 0, none⟩)), (8, .pointer (some ⟨B8, 0, none⟩)), (9, .pointer (some ⟨B9, 0, none⟩)), (13, .int .i64 x.2), (80, .slice q (i + n - i) (c - i)), (81, .int .i64 ((i + n - i : Nat) : Int)), (82, .int .i64 x.1)]) (fun x => [.blk B9 51 [.int .i64 0, .int .i64 0] 2, .blk B8 51 [.int .i64 0, .int .i64 0] 2, .blk B7 47 [.int .i64 s1, .int .i64 s2] 2]) (fun x => x.1 ≤ n ∧ x.2 = sumS v i x.1) ?_ (by (repeat' (first | exact trivial | refine ⟨rfl, ?_⟩))) (by (repeat' (first | exact List.Sublist.refl _ | apply List.Sublist.cons_cons | apply List.Sublist.cons))) ?_
    · exact ⟨Nat.zero_le _, rfl⟩
    intro ⟨j, y⟩ hI ih
    obtain ⟨hj, hy⟩ := hI
    dsimp only at hj hy ⊢
    have hb := sumS_bound hv i j
    by_cases hlt : j < n
    · obtain ⟨bq, oq, rfl, hrow⟩ := hA2.at j (by simp; omega)
      simp only [List.getElem_take, List.getElem_drop] at hrow
      have hx := hv _ (List.getElem_mem (l := v) (n := i + j) (by omega))
      have hstep := sumS_step (v := v) (i := i) (n := j) (by omega)
      generalize v[i + j] = e at *
      repeat' (first
        | (apply G.move; rfl; (first | exact Wn.none | exact Wn.some rfl rfl); rfl; rfl)
        | (apply G.assign; rfl; (first | exact Wn.none | exact Wn.some rfl rfl); rfl; rfl)
        | (apply G.fieldAddr; rfl; (first | exact Wn.none | exact Wn.some rfl rfl); rfl; rfl)
        | (apply G.load; rfl; (first | (apply LdV.one; (first | exact CellV.row0 (by assumption) rfl | exact CellV.rowS (by assumption) rfl | exact CellV.blk (.head _) rfl | exact CellV.blk (.tail _ (.head _)) rfl | exact CellV.blk (.tail _ (.tail _ (.head _))) rfl | exact CellV.blk (.tail _ (.tail _ (.tail _ (.head _)))) rfl | exact CellV.blk (.tail _ (.tail _ (.tail _ (.tail _ (.head _))))) rfl | exact CellV.blk (.tail _ (.tail _ (.tail _ (.tail _ (.tail _ (.head _)))))) rfl)) | (apply LdV.aggBlk; (first | exact .head _ | exact .tail _ (.head _) | exact .tail _ (.tail _ (.head _)) | exact .tail _ (.tail _ (.tail _ (.head _))) | exact .tail _ (.tail _ (.tail _ (.tail _ (.head _)))) | exact .tail _ (.tail _ (.tail _ (.tail _ (.tail _ (.head _)))))); rfl) | (apply LdV.aggRow; assumption; rfl)); (first | exact Wn.none | exact Wn.some rfl rfl); rfl; rfl)
        | (apply G.nil; rfl)
        | apply J.seq
        | (apply J.condT; rfl)
        | (apply J.condF; rfl)
        | apply J.skip
        | apply J.block
        | apply J.inBlock
        | (apply J.exit; rfl)
        | (apply G.skip; rfl; rfl; rfl; rfl; rfl)
        | (apply G.lenSlice; rfl; (first | exact Wn.none | exact Wn.some rfl rfl); rfl; rfl)
        | (apply G.indexAddr; rfl; rfl; rfl; omega; (first | exact Wn.none | exact Wn.some rfl rfl); rfl; rfl)
        | (apply G.notT; rfl; (first | exact Wn.none | exact Wn.some rfl rfl); rfl; rfl)
        | (apply G.notF; rfl; (first | exact Wn.none | exact Wn.some rfl rfl); rfl; rfl)
        | (apply G.pickT; rfl; rfl; (first | exact Wn.none | exact Wn.some rfl rfl); rfl; rfl)
        | (apply G.pickF; rfl; rfl; (first | exact Wn.none | exact Wn.some rfl rfl); rfl; rfl)
        | (apply G.lss; rfl; rfl; (first | exact Wn.none | exact Wn.some rfl rfl); rfl; rfl; all_goals intro h; all_goals try (exfalso; omega))
        | (apply G.leq; rfl; rfl; (first | exact Wn.none | exact Wn.some rfl rfl); rfl; rfl; all_goals intro h; all_goals try (exfalso; omega))
        | (apply G.gtr; rfl; rfl; (first | exact Wn.none | exact Wn.some rfl rfl); rfl; rfl; all_goals intro h; all_goals try (exfalso; omega))
        | (apply G.geq; rfl; rfl; (first | exact Wn.none | exact Wn.some rfl rfl); rfl; rfl; all_goals intro h; all_goals try (exfalso; omega))
        | (apply G.eql; rfl; rfl; (first | exact Wn.none | exact Wn.some rfl rfl); rfl; rfl; all_goals intro h; all_goals try (exfalso; omega))
        | (apply G.neq; rfl; rfl; (first | exact Wn.none | exact Wn.some rfl rfl); rfl; rfl; all_goals intro h; all_goals try (exfalso; omega))
        | (apply G.eql2; rfl; rfl; (first | exact Wn.none | exact Wn.some rfl rfl); rfl; rfl; all_goals intro h; all_goals try (exfalso; omega))
        | (apply G.neq2; rfl; rfl; (first | exact Wn.none | exact Wn.some rfl rfl); rfl; rfl; all_goals intro h; all_goals try (exfalso; omega))
        | (apply G.add; rfl; rfl; omega; omega; (first | exact Wn.none | exact Wn.some rfl rfl); rfl; rfl)
        | (apply G.sub; rfl; rfl; omega; omega; (first | exact Wn.none | exact Wn.some rfl rfl); rfl; rfl)
        | (apply G.addW; rfl; rfl; (first | exact Wn.none | exact Wn.some rfl rfl); rfl; rfl)
        | (apply G.subW; rfl; rfl; (first | exact Wn.none | exact Wn.some rfl rfl); rfl; rfl)
        | (apply G.extract; rfl; rfl; (first | exact Wn.none | exact Wn.some rfl rfl); rfl; rfl)
        | (apply G.build; rfl; rfl; (first | exact Wn.none | exact Wn.some rfl rfl); rfl; rfl)
        | (apply G.neg; rfl; omega; omega; (first | exact Wn.none | exact Wn.some rfl rfl); rfl; rfl)
        | (apply G.max2; rfl; rfl; (first | exact Wn.none | exact Wn.some rfl rfl); rfl; rfl)
        | (apply G.min2; rfl; rfl; (first | exact Wn.none | exact Wn.some rfl rfl); rfl; rfl)
        | (apply G.box; (first | exact Wn.none | exact Wn.some rfl rfl); rfl; rfl; rfl; rfl; intro Bk)
        | (apply G.alloc; (first | exact Wn.none | exact Wn.some rfl rfl); rfl; rfl; intro Bk)
        | (apply G.store (i := 0); (first | exact Wn.none | exact Wn.some rfl rfl); rfl; rfl; rfl; rfl; rfl; rfl; rfl; rfl)
        | (apply G.store (i := 1); (first | exact Wn.none | exact Wn.some rfl rfl); rfl; rfl; rfl; rfl; rfl; rfl; rfl; rfl)
        | (apply G.store (i := 2); (first | exact Wn.none | exact Wn.some rfl rfl); rfl; rfl; rfl; rfl; rfl; rfl; rfl; rfl)
        | (apply G.store (i := 3); (first | exact Wn.none | exact Wn.some rfl rfl); rfl; rfl; rfl; rfl; rfl; rfl; rfl; rfl)
        | (apply G.store (i := 4); (first | exact Wn.none | exact Wn.some rfl rfl); rfl; rfl; rfl; rfl; rfl; rfl; rfl; rfl)
        | (apply G.storeSame (i := 0); (first | exact Wn.none | exact Wn.some rfl rfl); rfl; rfl; rfl; rfl; rfl; rfl; rfl; rfl; rfl)
        | (apply G.storeSame (i := 1); (first | exact Wn.none | exact Wn.some rfl rfl); rfl; rfl; rfl; rfl; rfl; rfl; rfl; rfl; rfl)
        | (apply G.storeSame (i := 2); (first | exact Wn.none | exact Wn.some rfl rfl); rfl; rfl; rfl; rfl; rfl; rfl; rfl; rfl; rfl)
        | (apply J.regQ; exact Try.mixed; decide +kernel)
        | apply J.reg)
      (refine J.forget (by (repeat' (first | exact List.Sublist.refl _ | apply List.Sublist.cons_cons | apply List.Sublist.cons))) (J.sub (by (repeat' (first | exact trivial | refine ⟨rfl, ?_⟩))) (ih (j + 1, y + e) ?_ (show n - (j + 1) < n - j by omega))))
      exact ⟨by omega, by dsimp only; omega⟩
    · have hy : y = sumOf v f t s1 := by rw [hy, ← hS s1 i hi]; congr 1; omega
      subst hy
      repeat' (first
        | first | (apply J.regW 1 (.q 0 <| .q 1 <| .q 2 <| .q 3 <| .q 4 <| .q 5 <| .q 6 <| .q 7 <| .e 8 <| .r 9 <| .nil); exact Try.mixed; decide +kernel) | (apply G.storeW (i := 1); (first | exact Wn.none | exact Wn.some rfl rfl); rfl; rfl; rfl; rfl; rfl; rfl; exact Nat.le_of_ble_eq_true rfl; rfl)
        | (apply G.move; rfl; (first | exact Wn.none | exact Wn.some rfl rfl); rfl; rfl)
        | (apply G.assign; rfl; (first | exact Wn.none | exact Wn.some rfl rfl); rfl; rfl)
        | (apply G.fieldAddr; rfl; (first | exact Wn.none | exact Wn.some rfl rfl); rfl; rfl)
        | (apply G.load; rfl; (first | (apply LdV.one; (first | exact CellV.row0 (by assumption) rfl | exact CellV.rowS (by assumption) rfl | exact CellV.blk (.head _) rfl | exact CellV.blk (.tail _ (.head _)) rfl | exact CellV.blk (.tail _ (.tail _ (.head _))) rfl | exact CellV.blk (.tail _ (.tail _ (.tail _ (.head _)))) rfl | exact CellV.blk (.tail _ (.tail _ (.tail _ (.tail _ (.head _))))) rfl | exact CellV.blk (.tail _ (.tail _ (.tail _ (.tail _ (.tail _ (.head _)))))) rfl)) | (apply LdV.aggBlk; (first | exact .head _ | exact .tail _ (.head _) | exact .tail _ (.tail _ (.head _)) | exact .tail _ (.tail _ (.tail _ (.head _))) | exact .tail _ (.tail _ (.tail _ (.tail _ (.head _)))) | exact .tail _ (.tail _ (.tail _ (.tail _ (.tail _ (.head _)))))); rfl) | (apply LdV.aggRow; assumption; rfl)); (first | exact Wn.none | exact Wn.some rfl rfl); rfl; rfl)
        | (apply G.nil; rfl)
        | apply J.seq
        | (apply J.condT; rfl)
        | (apply J.condF; rfl)
        | apply J.skip
        | apply J.block
        | apply J.inBlock
        | (apply J.exit; rfl)
        | (apply G.skip; rfl; rfl; rfl; rfl; rfl)
        | (apply G.lenSlice; rfl; (first | exact Wn.none | exact Wn.some rfl rfl); rfl; rfl)
        | (apply G.indexAddr; rfl; rfl; rfl; omega; (first | exact Wn.none | exact Wn.some rfl rfl); rfl; rfl)
        | (apply G.notT; rfl; (first | exact Wn.none | exact Wn.some rfl rfl); rfl; rfl)
        | (apply G.notF; rfl; (first | exact Wn.none | exact Wn.some rfl rfl); rfl; rfl)
        | (apply G.pickT; rfl; rfl; (first | exact Wn.none | exact Wn.some rfl rfl); rfl; rfl)
        | (apply G.pickF; rfl; rfl; (first | exact Wn.none | exact Wn.some rfl rfl); rfl; rfl)
        | (apply G.lss; rfl; rfl; (first | exact Wn.none | exact Wn.some rfl rfl); rfl; rfl; all_goals intro h; all_goals try (exfalso; omega))
        | (apply G.leq; rfl; rfl; (first | exact Wn.none | exact Wn.some rfl rfl); rfl; rfl; all_goals intro h; all_goals try (exfalso; omega))
        | (apply G.gtr; rfl; rfl; (first | exact Wn.none | exact Wn.some rfl rfl); rfl; rfl; all_goals intro h; all_goals try (exfalso; omega))
        | (apply G.geq; rfl; rfl; (first | exact Wn.none | exact Wn.some rfl rfl); rfl; rfl; all_goals intro h; all_goals try (exfalso; omega))
        | (apply G.eql; rfl; rfl; (first | exact Wn.none | exact Wn.some rfl rfl); rfl; rfl; all_goals intro h; all_goals try (exfalso; omega))
        | (apply G.neq; rfl; rfl; (first | exact Wn.none | exact Wn.some rfl rfl); rfl; rfl; all_goals intro h; all_goals try (exfalso; omega))
        | (apply G.eql2; rfl; rfl; (first | exact Wn.none | exact Wn.some rfl rfl); rfl; rfl; all_goals intro h; all_goals try (exfalso; omega))
        | (apply G.neq2; rfl; rfl; (first | exact Wn.none | exact Wn.some rfl rfl); rfl; rfl; all_goals intro h; all_goals try (exfalso; omega))
        | (apply G.add; rfl; rfl; omega; omega; (first | exact Wn.none | exact Wn.some rfl rfl); rfl; rfl)
        | (apply G.sub; rfl; rfl; omega; omega; (first | exact Wn.none | exact Wn.some rfl rfl); rfl; rfl)
        | (apply G.addW; rfl; rfl; (first | exact Wn.none | exact Wn.some rfl rfl); rfl; rfl)
        | (apply G.subW; rfl; rfl; (first | exact Wn.none | exact Wn.some rfl rfl); rfl; rfl)
        | (apply G.extract; rfl; rfl; (first | exact Wn.none | exact Wn.some rfl rfl); rfl; rfl)
        | (apply G.build; rfl; rfl; (first | exact Wn.none | exact Wn.some rfl rfl); rfl; rfl)
        | (apply G.neg; rfl; omega; omega; (first | exact Wn.none | exact Wn.some rfl rfl); rfl; rfl)
        | (apply G.max2; rfl; rfl; (first | exact Wn.none | exact Wn.some rfl rfl); rfl; rfl)
        | (apply G.min2; rfl; rfl; (first | exact Wn.none | exact Wn.some rfl rfl); rfl; rfl)
        | (apply G.box; (first | exact Wn.none | exact Wn.some rfl rfl); rfl; rfl; rfl; rfl; intro Bk)
        | (apply G.alloc; (first | exact Wn.none | exact Wn.some rfl rfl); rfl; rfl; intro Bk)
        | (apply G.store (i := 0); (first | exact Wn.none | exact Wn.some rfl rfl); rfl; rfl; rfl; rfl; rfl; rfl; rfl; rfl)
        | (apply G.store (i := 1); (first | exact Wn.none | exact Wn.some rfl rfl); rfl; rfl; rfl; rfl; rfl; rfl; rfl; rfl)
        | (apply G.store (i := 2); (first | exact Wn.none | exact Wn.some rfl rfl); rfl; rfl; rfl; rfl; rfl; rfl; rfl; rfl)
        | (apply G.store (i := 3); (first | exact Wn.none | exact Wn.some rfl rfl); rfl; rfl; rfl; rfl; rfl; rfl; rfl; rfl)
        | (apply G.store (i := 4); (first | exact Wn.none | exact Wn.some rfl rfl); rfl; rfl; rfl; rfl; rfl; rfl; rfl; rfl)
        | (apply G.storeSame (i := 0); (first | exact Wn.none | exact Wn.some rfl rfl); rfl; rfl; rfl; rfl; rfl; rfl; rfl; rfl; rfl)
        | (apply G.storeSame (i := 1); (first | exact Wn.none | exact Wn.some rfl rfl); rfl; rfl; rfl; rfl; rfl; rfl; rfl; rfl; rfl)
        | (apply G.storeSame (i := 2); (first | exact Wn.none | exact Wn.some rfl rfl); rfl; rfl; rfl; rfl; rfl; rfl; rfl; rfl; rfl)
        | (apply J.regQ; exact Try.mixed; decide +kernel)
        | apply J.reg)
      clear ih
      refine J.loop (c := _) ((0, s1 + 1, sumOf v f t s1, (sumOf v f t s1, s1), (sumOf v f t s1, s1)) : Nat × Int × Int × (Int × Int) × (Int × Int)) (fun x => m - x.1) (fun x => [(0, .slice a v.length c), (1, .int .i64 f), (2, .int .i64 t), (7, .pointer (some ⟨B7, 0, none⟩)), (8, .pointer (some ⟨B8, 0, none⟩)), (9, .pointer (some ⟨B9, 0, none⟩)), (13, .int .i64 x.2.2.1), (16, .int .i64 x.2.1)]) (fun x => [.blk B9 51 [.int .i64 x.2.2.2.2.1, .int .i64 x.2.2.2.2.2] 2, .blk B8 51 [.int .i64 x.2.2.2.1.1, .int .i64 x.2.2.2.1.2] 2, .blk B7 47 [.int .i64 s1, .int .i64 s2] 2]) (fun x => x.1 ≤ m ∧ x.2.1 = s1 + 1 + x.1 ∧ x.2.2.1 = sumOf v f t (x.2.1 - 1) ∧ x.2.2.2 = bestS (sumOf v f t) s1 x.1) ?_ (by (repeat' (first | exact trivial | refine ⟨rfl, ?_⟩))) (by (repeat' (first | exact List.Sublist.refl _ | apply List.Sublist.cons_cons | apply List.Sublist.cons))) ?_
      · exact ⟨Nat.zero_le _, by simp, by dsimp only; congr 1; omega, rfl⟩
      intro ⟨j, z, y, ⟨l1, l2⟩, u1, u2⟩ hI ih
      obtain ⟨hj, hz, hy, hbest⟩ := hI
      dsimp only at hj hz hy hbest ⊢
      have hnext : bestS (sumOf v f t) s1 (j + 1) = (if sumOf v f t z < l1 then (sumOf v f t z, z) else (l1, l2), if u1 < sumOf v f t z then (sumOf v f t z, z) else (u1, u2)) := by
        rw [bestS, ← hbest, show s1 + (j : Int) + 1 = z by omega]
      by_cases hlt : j < m
      · obtain ⟨i2, hi2⟩ := Int.eq_ofNat_of_zero_le (show 0 ≤ f - z by omega)
        obtain ⟨bv, ov, rfl, hr1⟩ := hA.at i2 (by omega)
        obtain ⟨bv2, ov2, hh, hr2⟩ := hA.at (i2 + n) (by omega)
        cases hh
        have hx1 := hv _ (List.getElem_mem (l := v) (n := i2) (by omega))
        have hx2 := hv _ (List.getElem_mem (l := v) (n := i2 + n) (by omega))
        have hmv := sumS_move (v := v) (i := i2) (n := n) (by omega)
        rw [hS z i2 hi2, hS (z - 1) (i2 + 1) (by omega), ← hy] at hmv
        have hb1 := hB z
        have hb0 := hB (z - 1)
        rw [← hy] at hb0
        have hz0 : n = 0 → y = sumOf v f t z := fun h0 => by rw [hmv]; subst h0; simp
        generalize hy2 : sumOf v f t z = y2 at hb1 hnext hmv hz0
        generalize v[i2] = e1 at *
        generalize v[i2 + n] = e2 at *
        have hz2 : sumOf v f t (z + 1 - 1) = y2 := by rw [show z + 1 - 1 = z by omega]; exact hy2
        clear hy2
        have hzc : z + 1 = s1 + 1 + ((j + 1 : Nat) : Int) := by omega
        by_cases hft : f < t
        · subst hmv
          repeat' (first
            | first | (apply G.indexAddr (i := i2); rfl; rfl; omega; omega; (first | exact Wn.none | exact Wn.some rfl rfl); rfl; rfl) | (apply G.indexAddr (i := i2 + n); rfl; rfl; omega; omega; (first | exact Wn.none | exact Wn.some rfl rfl); rfl; rfl)
            | (apply G.move; rfl; (first | exact Wn.none | exact Wn.some rfl rfl); rfl; rfl)
            | (apply G.assign; rfl; (first | exact Wn.none | exact Wn.some rfl rfl); rfl; rfl)
            | (apply G.fieldAddr; rfl; (first | exact Wn.none | exact Wn.some rfl rfl); rfl; rfl)
            | (apply G.load; rfl; (first | (apply LdV.one; (first | exact CellV.row0 (by assumption) rfl | exact CellV.rowS (by assumption) rfl | exact CellV.blk (.head _) rfl | exact CellV.blk (.tail _ (.head _)) rfl | exact CellV.blk (.tail _ (.tail _ (.head _))) rfl | exact CellV.blk (.tail _ (.tail _ (.tail _ (.head _)))) rfl | exact CellV.blk (.tail _ (.tail _ (.tail _ (.tail _ (.head _))))) rfl | exact CellV.blk (.tail _ (.tail _ (.tail _ (.tail _ (.tail _ (.head _)))))) rfl)) | (apply LdV.aggBlk; (first | exact .head _ | exact .tail _ (.head _) | exact .tail _ (.tail _ (.head _)) | exact .tail _ (.tail _ (.tail _ (.head _))) | exact .tail _ (.tail _ (.tail _ (.tail _ (.head _)))) | exact .tail _ (.tail _ (.tail _ (.tail _ (.tail _ (.head _)))))); rfl) | (apply LdV.aggRow; assumption; rfl)); (first | exact Wn.none | exact Wn.some rfl rfl); rfl; rfl)
            | (apply G.nil; rfl)
            | apply J.seq
            | (apply J.condT; rfl)
            | (apply J.condF; rfl)
            | apply J.skip
            | apply J.block
            | apply J.inBlock
            | (apply J.exit; rfl)
            | (apply G.skip; rfl; rfl; rfl; rfl; rfl)
            | (apply G.lenSlice; rfl; (first | exact Wn.none | exact Wn.some rfl rfl); rfl; rfl)
            | (apply G.indexAddr; rfl; rfl; rfl; omega; (first | exact Wn.none | exact Wn.some rfl rfl); rfl; rfl)
            | (apply G.notT; rfl; (first | exact Wn.none | exact Wn.some rfl rfl); rfl; rfl)
            | (apply G.notF; rfl; (first | exact Wn.none | exact Wn.some rfl rfl); rfl; rfl)
            | (apply G.pickT; rfl; rfl; (first | exact Wn.none | exact Wn.some rfl rfl); rfl; rfl)
            | (apply G.pickF; rfl; rfl; (first | exact Wn.none | exact Wn.some rfl rfl); rfl; rfl)
            | (apply G.lss; rfl; rfl; (first | exact Wn.none | exact Wn.some rfl rfl); rfl; rfl; all_goals intro h; all_goals try (exfalso; omega))
            | (apply G.leq; rfl; rfl; (first | exact Wn.none | exact Wn.some rfl rfl); rfl; rfl; all_goals intro h; all_goals try (exfalso; omega))
            | (apply G.gtr; rfl; rfl; (first | exact Wn.none | exact Wn.some rfl rfl); rfl; rfl; all_goals intro h; all_goals try (exfalso; omega))
            | (apply G.geq; rfl; rfl; (first | exact Wn.none | exact Wn.some rfl rfl); rfl; rfl; all_goals intro h; all_goals try (exfalso; omega))
            | (apply G.eql; rfl; rfl; (first | exact Wn.none | exact Wn.some rfl rfl); rfl; rfl; all_goals intro h; all_goals try (exfalso; omega))
            | (apply G.neq; rfl; rfl; (first | exact Wn.none | exact Wn.some rfl rfl); rfl; rfl; all_goals intro h; all_goals try (exfalso; omega))
            | (apply G.eql2; rfl; rfl; (first | exact Wn.none | exact Wn.some rfl rfl); rfl; rfl; all_goals intro h; all_goals try (exfalso; omega))
            | (apply G.neq2; rfl; rfl; (first | exact Wn.none | exact Wn.some rfl rfl); rfl; rfl; all_goals intro h; all_goals try (exfalso; omega))
            | (apply G.add; rfl; rfl; omega; omega; (first | exact Wn.none | exact Wn.some rfl rfl); rfl; rfl)
            | (apply G.sub; rfl; rfl; omega; omega; (first | exact Wn.none | exact Wn.some rfl rfl); rfl; rfl)
            | (apply G.addW; rfl; rfl; (first | exact Wn.none | exact Wn.some rfl rfl); rfl; rfl)
            | (apply G.subW; rfl; rfl; (first | exact Wn.none | exact Wn.some rfl rfl); rfl; rfl)
            | (apply G.extract; rfl; rfl; (first | exact Wn.none | exact Wn.some rfl rfl); rfl; rfl)
            | (apply G.build; rfl; rfl; (first | exact Wn.none | exact Wn.some rfl rfl); rfl; rfl)
            | (apply G.neg; rfl; omega; omega; (first | exact Wn.none | exact Wn.some rfl rfl); rfl; rfl)
            | (apply G.max2; rfl; rfl; (first | exact Wn.none | exact Wn.some rfl rfl); rfl; rfl)
            | (apply G.min2; rfl; rfl; (first | exact Wn.none | exact Wn.some rfl rfl); rfl; rfl)
            | (apply G.box; (first | exact Wn.none | exact Wn.some rfl rfl); rfl; rfl; rfl; rfl; intro Bk)
            | (apply G.alloc; (first | exact Wn.none | exact Wn.some rfl rfl); rfl; rfl; intro Bk)
            | (apply G.store (i := 0); (first | exact Wn.none | exact Wn.some rfl rfl); rfl; rfl; rfl; rfl; rfl; rfl; rfl; rfl)
            | (apply G.store (i := 1); (first | exact Wn.none | exact Wn.some rfl rfl); rfl; rfl; rfl; rfl; rfl; rfl; rfl; rfl)
            | (apply G.store (i := 2); (first | exact Wn.none | exact Wn.some rfl rfl); rfl; rfl; rfl; rfl; rfl; rfl; rfl; rfl)
            | (apply G.store (i := 3); (first | exact Wn.none | exact Wn.some rfl rfl); rfl; rfl; rfl; rfl; rfl; rfl; rfl; rfl)
            | (apply G.store (i := 4); (first | exact Wn.none | exact Wn.some rfl rfl); rfl; rfl; rfl; rfl; rfl; rfl; rfl; rfl)
            | (apply G.storeSame (i := 0); (first | exact Wn.none | exact Wn.some rfl rfl); rfl; rfl; rfl; rfl; rfl; rfl; rfl; rfl; rfl)
            | (apply G.storeSame (i := 1); (first | exact Wn.none | exact Wn.some rfl rfl); rfl; rfl; rfl; rfl; rfl; rfl; rfl; rfl; rfl)
            | (apply G.storeSame (i := 2); (first | exact Wn.none | exact Wn.some rfl rfl); rfl; rfl; rfl; rfl; rfl; rfl; rfl; rfl; rfl)
            | (apply J.regQ; exact Try.mixed; decide +kernel)
            | apply J.reg)
          all_goals first
            | ((refine J.forget (by (repeat' (first | exact List.Sublist.refl _ | apply List.Sublist.cons_cons | apply List.Sublist.cons))) (J.sub (by (repeat' (first | exact trivial | refine ⟨rfl, ?_⟩))) (ih (j + 1, z + 1, y + (e1 - e2), (y + (e1 - e2), z), (y + (e1 - e2), z)) ?_ (show m - (j + 1) < m - j by omega)))); exact ⟨by omega, hzc, hz2.symm, by dsimp only; rw [hnext, if_pos (by assumption), if_pos (by assumption)]⟩)
            | ((refine J.forget (by (repeat' (first | exact List.Sublist.refl _ | apply List.Sublist.cons_cons | apply List.Sublist.cons))) (J.sub (by (repeat' (first | exact trivial | refine ⟨rfl, ?_⟩))) (ih (j + 1, z + 1, y + (e1 - e2), (y + (e1 - e2), z), (u1, u2)) ?_ (show m - (j + 1) < m - j by omega)))); exact ⟨by omega, hzc, hz2.symm, by dsimp only; rw [hnext, if_pos (by assumption), if_neg (by assumption)]⟩)
            | ((refine J.forget (by (repeat' (first | exact List.Sublist.refl _ | apply List.Sublist.cons_cons | apply List.Sublist.cons))) (J.sub (by (repeat' (first | exact trivial | refine ⟨rfl, ?_⟩))) (ih (j + 1, z + 1, y + (e1 - e2), (l1, l2), (y + (e1 - e2), z)) ?_ (show m - (j + 1) < m - j by omega)))); exact ⟨by omega, hzc, hz2.symm, by dsimp only; rw [hnext, if_neg (by assumption), if_pos (by assumption)]⟩)
            | ((refine J.forget (by (repeat' (first | exact List.Sublist.refl _ | apply List.Sublist.cons_cons | apply List.Sublist.cons))) (J.sub (by (repeat' (first | exact trivial | refine ⟨rfl, ?_⟩))) (ih (j + 1, z + 1, y + (e1 - e2), (l1, l2), (u1, u2)) ?_ (show m - (j + 1) < m - j by omega)))); exact ⟨by omega, hzc, hz2.symm, by dsimp only; rw [hnext, if_neg (by assumption), if_neg (by assumption)]⟩)
        · have hy2 := hz0 (by omega)
          clear hmv
          subst hy2
          repeat' (first
            | (apply G.move; rfl; (first | exact Wn.none | exact Wn.some rfl rfl); rfl; rfl)
            | (apply G.assign; rfl; (first | exact Wn.none | exact Wn.some rfl rfl); rfl; rfl)
            | (apply G.fieldAddr; rfl; (first | exact Wn.none | exact Wn.some rfl rfl); rfl; rfl)
            | (apply G.load; rfl; (first | (apply LdV.one; (first | exact CellV.row0 (by assumption) rfl | exact CellV.rowS (by assumption) rfl | exact CellV.blk (.head _) rfl | exact CellV.blk (.tail _ (.head _)) rfl | exact CellV.blk (.tail _ (.tail _ (.head _))) rfl | exact CellV.blk (.tail _ (.tail _ (.tail _ (.head _)))) rfl | exact CellV.blk (.tail _ (.tail _ (.tail _ (.tail _ (.head _))))) rfl | exact CellV.blk (.tail _ (.tail _ (.tail _ (.tail _ (.tail _ (.head _)))))) rfl)) | (apply LdV.aggBlk; (first | exact .head _ | exact .tail _ (.head _) | exact .tail _ (.tail _ (.head _)) | exact .tail _ (.tail _ (.tail _ (.head _))) | exact .tail _ (.tail _ (.tail _ (.tail _ (.head _)))) | exact .tail _ (.tail _ (.tail _ (.tail _ (.tail _ (.head _)))))); rfl) | (apply LdV.aggRow; assumption; rfl)); (first | exact Wn.none | exact Wn.some rfl rfl); rfl; rfl)
            | (apply G.nil; rfl)
            | apply J.seq
            | (apply J.condT; rfl)
            | (apply J.condF; rfl)
            | apply J.skip
            | apply J.block
            | apply J.inBlock
            | (apply J.exit; rfl)
            | (apply G.skip; rfl; rfl; rfl; rfl; rfl)
            | (apply G.lenSlice; rfl; (first | exact Wn.none | exact Wn.some rfl rfl); rfl; rfl)
            | (apply G.indexAddr; rfl; rfl; rfl; omega; (first | exact Wn.none | exact Wn.some rfl rfl); rfl; rfl)
            | (apply G.notT; rfl; (first | exact Wn.none | exact Wn.some rfl rfl); rfl; rfl)
            | (apply G.notF; rfl; (first | exact Wn.none | exact Wn.some rfl rfl); rfl; rfl)
            | (apply G.pickT; rfl; rfl; (first | exact Wn.none | exact Wn.some rfl rfl); rfl; rfl)
            | (apply G.pickF; rfl; rfl; (first | exact Wn.none | exact Wn.some rfl rfl); rfl; rfl)
            | (apply G.lss; rfl; rfl; (first | exact Wn.none | exact Wn.some rfl rfl); rfl; rfl; all_goals intro h; all_goals try (exfalso; omega))
            | (apply G.leq; rfl; rfl; (first | exact Wn.none | exact Wn.some rfl rfl); rfl; rfl; all_goals intro h; all_goals try (exfalso; omega))
            | (apply G.gtr; rfl; rfl; (first | exact Wn.none | exact Wn.some rfl rfl); rfl; rfl; all_goals intro h; all_goals try (exfalso; omega))
            | (apply G.geq; rfl; rfl; (first | exact Wn.none | exact Wn.some rfl rfl); rfl; rfl; all_goals intro h; all_goals try (exfalso; omega))
            | (apply G.eql; rfl; rfl; (first | exact Wn.none | exact Wn.some rfl rfl); rfl; rfl; all_goals intro h; all_goals try (exfalso; omega))
            | (apply G.neq; rfl; rfl; (first | exact Wn.none | exact Wn.some rfl rfl); rfl; rfl; all_goals intro h; all_goals try (exfalso; omega))
            | (apply G.eql2; rfl; rfl; (first | exact Wn.none | exact Wn.some rfl rfl); rfl; rfl; all_goals intro h; all_goals try (exfalso; omega))
            | (apply G.neq2; rfl; rfl; (first | exact Wn.none | exact Wn.some rfl rfl); rfl; rfl; all_goals intro h; all_goals try (exfalso; omega))
            | (apply G.add; rfl; rfl; omega; omega; (first | exact Wn.none | exact Wn.some rfl rfl); rfl; rfl)
            | (apply G.sub; rfl; rfl; omega; omega; (first | exact Wn.none | exact Wn.some rfl rfl); rfl; rfl)
            | (apply G.addW; rfl; rfl; (first | exact Wn.none | exact Wn.some rfl rfl); rfl; rfl)
            | (apply G.subW; rfl; rfl; (first | exact Wn.none | exact Wn.some rfl rfl); rfl; rfl)
            | (apply G.extract; rfl; rfl; (first | exact Wn.none | exact Wn.some rfl rfl); rfl; rfl)
            | (apply G.build; rfl; rfl; (first | exact Wn.none | exact Wn.some rfl rfl); rfl; rfl)
            | (apply G.neg; rfl; omega; omega; (first | exact Wn.none | exact Wn.some rfl rfl); rfl; rfl)
            | (apply G.max2; rfl; rfl; (first | exact Wn.none | exact Wn.some rfl rfl); rfl; rfl)
            | (apply G.min2; rfl; rfl; (first | exact Wn.none | exact Wn.some rfl rfl); rfl; rfl)
            | (apply G.box; (first | exact Wn.none | exact Wn.some rfl rfl); rfl; rfl; rfl; rfl; intro Bk)
            | (apply G.alloc; (first | exact Wn.none | exact Wn.some rfl rfl); rfl; rfl; intro Bk)
            | (apply G.store (i := 0); (first | exact Wn.none | exact Wn.some rfl rfl); rfl; rfl; rfl; rfl; rfl; rfl; rfl; rfl)
            | (apply G.store (i := 1); (first | exact Wn.none | exact Wn.some rfl rfl); rfl; rfl; rfl; rfl; rfl; rfl; rfl; rfl)
            | (apply G.store (i := 2); (first | exact Wn.none | exact Wn.some rfl rfl); rfl; rfl; rfl; rfl; rfl; rfl; rfl; rfl)
            | (apply G.store (i := 3); (first | exact Wn.none | exact Wn.some rfl rfl); rfl; rfl; rfl; rfl; rfl; rfl; rfl; rfl)
            | (apply G.store (i := 4); (first | exact Wn.none | exact Wn.some rfl rfl); rfl; rfl; rfl; rfl; rfl; rfl; rfl; rfl)
            | (apply G.storeSame (i := 0); (first | exact Wn.none | exact Wn.some rfl rfl); rfl; rfl; rfl; rfl; rfl; rfl; rfl; rfl; rfl)
            | (apply G.storeSame (i := 1); (first | exact Wn.none | exact Wn.some rfl rfl); rfl; rfl; rfl; rfl; rfl; rfl; rfl; rfl; rfl)
            | (apply G.storeSame (i := 2); (first | exact Wn.none | exact Wn.some rfl rfl); rfl; rfl; rfl; rfl; rfl; rfl; rfl; rfl; rfl)
            | (apply J.regQ; exact Try.mixed; decide +kernel)
            | apply J.reg)
          all_goals first
            | ((refine J.forget (by (repeat' (first | exact List.Sublist.refl _ | apply List.Sublist.cons_cons | apply List.Sublist.cons))) (J.sub (by (repeat' (first | exact trivial | refine ⟨rfl, ?_⟩))) (ih (j + 1, z + 1, y, (y, z), (y, z)) ?_ (show m - (j + 1) < m - j by omega)))); exact ⟨by omega, hzc, hz2.symm, by dsimp only; rw [hnext, if_pos (by assumption), if_pos (by assumption)]⟩)
            | ((refine J.forget (by (repeat' (first | exact List.Sublist.refl _ | apply List.Sublist.cons_cons | apply List.Sublist.cons))) (J.sub (by (repeat' (first | exact trivial | refine ⟨rfl, ?_⟩))) (ih (j + 1, z + 1, y, (y, z), (u1, u2)) ?_ (show m - (j + 1) < m - j by omega)))); exact ⟨by omega, hzc, hz2.symm, by dsimp only; rw [hnext, if_pos (by assumption), if_neg (by assumption)]⟩)
            | ((refine J.forget (by (repeat' (first | exact List.Sublist.refl _ | apply List.Sublist.cons_cons | apply List.Sublist.cons))) (J.sub (by (repeat' (first | exact trivial | refine ⟨rfl, ?_⟩))) (ih (j + 1, z + 1, y, (l1, l2), (y, z)) ?_ (show m - (j + 1) < m - j by omega)))); exact ⟨by omega, hzc, hz2.symm, by dsimp only; rw [hnext, if_neg (by assumption), if_pos (by assumption)]⟩)
            | ((refine J.forget (by (repeat' (first | exact List.Sublist.refl _ | apply List.Sublist.cons_cons | apply List.Sublist.cons))) (J.sub (by (repeat' (first | exact trivial | refine ⟨rfl, ?_⟩))) (ih (j + 1, z + 1, y, (l1, l2), (u1, u2)) ?_ (show m - (j + 1) < m - j by omega)))); exact ⟨by omega, hzc, hz2.symm, by dsimp only; rw [hnext, if_neg (by assumption), if_neg (by assumption)]⟩)
      · skip
        repeat' (first
          | (apply J.regA (.q 0 <| .q 1 <| .e 2 <| .r 3 <| .q 4 <| .nil); exact Try.mixed; decide +kernel)
          | (apply G.move; rfl; (first | exact Wn.none | exact Wn.some rfl rfl); rfl; rfl)
          | (apply G.assign; rfl; (first | exact Wn.none | exact Wn.some rfl rfl); rfl; rfl)
          | (apply G.fieldAddr; rfl; (first | exact Wn.none | exact Wn.some rfl rfl); rfl; rfl)
          | (apply G.load; rfl; (first | (apply LdV.one; (first | exact CellV.row0 (by assumption) rfl | exact CellV.rowS (by assumption) rfl | exact CellV.blk (.head _) rfl | exact CellV.blk (.tail _ (.head _)) rfl | exact CellV.blk (.tail _ (.tail _ (.head _))) rfl | exact CellV.blk (.tail _ (.tail _ (.tail _ (.head _)))) rfl | exact CellV.blk (.tail _ (.tail _ (.tail _ (.tail _ (.head _))))) rfl | exact CellV.blk (.tail _ (.tail _ (.tail _ (.tail _ (.tail _ (.head _)))))) rfl)) | (apply LdV.aggBlk; (first | exact .head _ | exact .tail _ (.head _) | exact .tail _ (.tail _ (.head _)) | exact .tail _ (.tail _ (.tail _ (.head _))) | exact .tail _ (.tail _ (.tail _ (.tail _ (.head _)))) | exact .tail _ (.tail _ (.tail _ (.tail _ (.tail _ (.head _)))))); rfl) | (apply LdV.aggRow; assumption; rfl)); (first | exact Wn.none | exact Wn.some rfl rfl); rfl; rfl)
          | (apply G.nil; rfl)
          | apply J.seq
          | (apply J.condT; rfl)
          | (apply J.condF; rfl)
          | apply J.skip
          | apply J.block
          | apply J.inBlock
          | (apply J.exit; rfl)
          | (apply G.skip; rfl; rfl; rfl; rfl; rfl)
          | (apply G.lenSlice; rfl; (first | exact Wn.none | exact Wn.some rfl rfl); rfl; rfl)
          | (apply G.indexAddr; rfl; rfl; rfl; omega; (first | exact Wn.none | exact Wn.some rfl rfl); rfl; rfl)
          | (apply G.notT; rfl; (first | exact Wn.none | exact Wn.some rfl rfl); rfl; rfl)
          | (apply G.notF; rfl; (first | exact Wn.none | exact Wn.some rfl rfl); rfl; rfl)
          | (apply G.pickT; rfl; rfl; (first | exact Wn.none | exact Wn.some rfl rfl); rfl; rfl)
          | (apply G.pickF; rfl; rfl; (first | exact Wn.none | exact Wn.some rfl rfl); rfl; rfl)
          | (apply G.lss; rfl; rfl; (first | exact Wn.none | exact Wn.some rfl rfl); rfl; rfl; all_goals intro h; all_goals try (exfalso; omega))
          | (apply G.leq; rfl; rfl; (first | exact Wn.none | exact Wn.some rfl rfl); rfl; rfl; all_goals intro h; all_goals try (exfalso; omega))
          | (apply G.gtr; rfl; rfl; (first | exact Wn.none | exact Wn.some rfl rfl); rfl; rfl; all_goals intro h; all_goals try (exfalso; omega))
          | (apply G.geq; rfl; rfl; (first | exact Wn.none | exact Wn.some rfl rfl); rfl; rfl; all_goals intro h; all_goals try (exfalso; omega))
          | (apply G.eql; rfl; rfl; (first | exact Wn.none | exact Wn.some rfl rfl); rfl; rfl; all_goals intro h; all_goals try (exfalso; omega))
          | (apply G.neq; rfl; rfl; (first | exact Wn.none | exact Wn.some rfl rfl); rfl; rfl; all_goals intro h; all_goals try (exfalso; omega))
          | (apply G.eql2; rfl; rfl; (first | exact Wn.none | exact Wn.some rfl rfl); rfl; rfl; all_goals intro h; all_goals try (exfalso; omega))
          | (apply G.neq2; rfl; rfl; (first | exact Wn.none | exact Wn.some rfl rfl); rfl; rfl; all_goals intro h; all_goals try (exfalso; omega))
          | (apply G.add; rfl; rfl; omega; omega; (first | exact Wn.none | exact Wn.some rfl rfl); rfl; rfl)
          | (apply G.sub; rfl; rfl; omega; omega; (first | exact Wn.none | exact Wn.some rfl rfl); rfl; rfl)
          | (apply G.addW; rfl; rfl; (first | exact Wn.none | exact Wn.some rfl rfl); rfl; rfl)
          | (apply G.subW; rfl; rfl; (first | exact Wn.none | exact Wn.some rfl rfl); rfl; rfl)
          | (apply G.extract; rfl; rfl; (first | exact Wn.none | exact Wn.some rfl rfl); rfl; rfl)
          | (apply G.build; rfl; rfl; (first | exact Wn.none | exact Wn.some rfl rfl); rfl; rfl)
          | (apply G.neg; rfl; omega; omega; (first | exact Wn.none | exact Wn.some rfl rfl); rfl; rfl)
          | (apply G.max2; rfl; rfl; (first | exact Wn.none | exact Wn.some rfl rfl); rfl; rfl)
          | (apply G.min2; rfl; rfl; (first | exact Wn.none | exact Wn.some rfl rfl); rfl; rfl)
          | (apply G.box; (first | exact Wn.none | exact Wn.some rfl rfl); rfl; rfl; rfl; rfl; intro Bk)
          | (apply G.alloc; (first | exact Wn.none | exact Wn.some rfl rfl); rfl; rfl; intro Bk)
          | (apply G.store (i := 0); (first | exact Wn.none | exact Wn.some rfl rfl); rfl; rfl; rfl; rfl; rfl; rfl; rfl; rfl)
          | (apply G.store (i := 1); (first | exact Wn.none | exact Wn.some rfl rfl); rfl; rfl; rfl; rfl; rfl; rfl; rfl; rfl)
          | (apply G.store (i := 2); (first | exact Wn.none | exact Wn.some rfl rfl); rfl; rfl; rfl; rfl; rfl; rfl; rfl; rfl)
          | (apply G.store (i := 3); (first | exact Wn.none | exact Wn.some rfl rfl); rfl; rfl; rfl; rfl; rfl; rfl; rfl; rfl)
          | (apply G.store (i := 4); (first | exact Wn.none | exact Wn.some rfl rfl); rfl; rfl; rfl; rfl; rfl; rfl; rfl; rfl)
          | (apply G.storeSame (i := 0); (first | exact Wn.none | exact Wn.some rfl rfl); rfl; rfl; rfl; rfl; rfl; rfl; rfl; rfl; rfl)
          | (apply G.storeSame (i := 1); (first | exact Wn.none | exact Wn.some rfl rfl); rfl; rfl; rfl; rfl; rfl; rfl; rfl; rfl; rfl)
          | (apply G.storeSame (i := 2); (first | exact Wn.none | exact Wn.some rfl rfl); rfl; rfl; rfl; rfl; rfl; rfl; rfl; rfl; rfl)
          | (apply J.regQ; exact Try.mixed; decide +kernel)
          | apply J.reg)
        all_goals (apply leave Try.func22; (apply RunsTo.three Try.results22; (first | (apply ResV.tmp; rfl) | (apply ResV.cell; rfl; (first | (apply LdV.one; (first | exact CellV.row0 (by assumption) rfl | exact CellV.rowS (by assumption) rfl | exact CellV.blk (.head _) rfl | exact CellV.blk (.tail _ (.head _)) rfl | exact CellV.blk (.tail _ (.tail _ (.head _))) rfl | exact CellV.blk (.tail _ (.tail _ (.tail _ (.head _)))) rfl | exact CellV.blk (.tail _ (.tail _ (.tail _ (.tail _ (.head _))))) rfl | exact CellV.blk (.tail _ (.tail _ (.tail _ (.tail _ (.tail _ (.head _)))))) rfl)) | (apply LdV.aggBlk; (first | exact .head _ | exact .tail _ (.head _) | exact .tail _ (.tail _ (.head _)) | exact .tail _ (.tail _ (.tail _ (.head _))) | exact .tail _ (.tail _ (.tail _ (.tail _ (.head _)))) | exact .tail _ (.tail _ (.tail _ (.tail _ (.tail _ (.head _)))))); rfl) | (apply LdV.aggRow; assumption; rfl)))); (first | (apply ResV.tmp; rfl) | (apply ResV.cell; rfl; (first | (apply LdV.one; (first | exact CellV.row0 (by assumption) rfl | exact CellV.rowS (by assumption) rfl | exact CellV.blk (.head _) rfl | exact CellV.blk (.tail _ (.head _)) rfl | exact CellV.blk (.tail _ (.tail _ (.head _))) rfl | exact CellV.blk (.tail _ (.tail _ (.tail _ (.head _)))) rfl | exact CellV.blk (.tail _ (.tail _ (.tail _ (.tail _ (.head _))))) rfl | exact CellV.blk (.tail _ (.tail _ (.tail _ (.tail _ (.tail _ (.head _)))))) rfl)) | (apply LdV.aggBlk; (first | exact .head _ | exact .tail _ (.head _) | exact .tail _ (.tail _ (.head _)) | exact .tail _ (.tail _ (.tail _ (.head _))) | exact .tail _ (.tail _ (.tail _ (.tail _ (.head _)))) | exact .tail _ (.tail _ (.tail _ (.tail _ (.tail _ (.head _)))))); rfl) | (apply LdV.aggRow; assumption; rfl)))); (first | (apply ResV.tmp; rfl) | (apply ResV.cell; rfl; (first | (apply LdV.one; (first | exact CellV.row0 (by assumption) rfl | exact CellV.rowS (by assumption) rfl | exact CellV.blk (.head _) rfl | exact CellV.blk (.tail _ (.head _)) rfl | exact CellV.blk (.tail _ (.tail _ (.head _))) rfl | exact CellV.blk (.tail _ (.tail _ (.tail _ (.head _)))) rfl | exact CellV.blk (.tail _ (.tail _ (.tail _ (.tail _ (.head _))))) rfl | exact CellV.blk (.tail _ (.tail _ (.tail _ (.tail _ (.tail _ (.head _)))))) rfl)) | (apply LdV.aggBlk; (first | exact .head _ | exact .tail _ (.head _) | exact .tail _ (.tail _ (.head _)) | exact .tail _ (.tail _ (.tail _ (.head _))) | exact .tail _ (.tail _ (.tail _ (.tail _ (.head _)))) | exact .tail _ (.tail _ (.tail _ (.tail _ (.tail _ (.head _)))))); rfl) | (apply LdV.aggRow; assumption; rfl))))); intro w' hw; refine ⟨?_, hw.below⟩; clear hw)
        have : j = m := by omega
        exact ret_sumt (r := (((l1, l2), (u1, u2)), 0)) (by rw [hfin, ← this, hbest])
  · skip
    repeat' (first
      | (apply J.regA (.q 0 <| .q 1 <| .e 2 <| .r 3 <| .q 4 <| .nil); exact Try.mixed; decide +kernel)
      | (apply G.move; rfl; (first | exact Wn.none | exact Wn.some rfl rfl); rfl; rfl)
      | (apply G.assign; rfl; (first | exact Wn.none | exact Wn.some rfl rfl); rfl; rfl)
      | (apply G.fieldAddr; rfl; (first | exact Wn.none | exact Wn.some rfl rfl); rfl; rfl)
      | (apply G.load; rfl; (first | (apply LdV.one; (first | exact CellV.row0 (by assumption) rfl | exact CellV.rowS (by assumption) rfl | exact CellV.blk (.head _) rfl | exact CellV.blk (.tail _ (.head _)) rfl | exact CellV.blk (.tail _ (.tail _ (.head _))) rfl | exact CellV.blk (.tail _ (.tail _ (.tail _ (.head _)))) rfl | exact CellV.blk (.tail _ (.tail _ (.tail _ (.tail _ (.head _))))) rfl | exact CellV.blk (.tail _ (.tail _ (.tail _ (.tail _ (.tail _ (.head _)))))) rfl)) | (apply LdV.aggBlk; (first | exact .head _ | exact .tail _ (.head _) | exact .tail _ (.tail _ (.head _)) | exact .tail _ (.tail _ (.tail _ (.head _))) | exact .tail _ (.tail _ (.tail _ (.tail _ (.head _)))) | exact .tail _ (.tail _ (.tail _ (.tail _ (.tail _ (.head _)))))); rfl) | (apply LdV.aggRow; assumption; rfl)); (first | exact Wn.none | exact Wn.some rfl rfl); rfl; rfl)
      | (apply G.nil; rfl)
      | apply J.seq
      | (apply J.condT; rfl)
      | (apply J.condF; rfl)
      | apply J.skip
      | apply J.block
      | apply J.inBlock
      | (apply J.exit; rfl)
      | (apply G.skip; rfl; rfl; rfl; rfl; rfl)
      | (apply G.lenSlice; rfl; (first | exact Wn.none | exact Wn.some rfl rfl); rfl; rfl)
      | (apply G.indexAddr; rfl; rfl; rfl; omega; (first | exact Wn.none | exact Wn.some rfl rfl); rfl; rfl)
      | (apply G.notT; rfl; (first | exact Wn.none | exact Wn.some rfl rfl); rfl; rfl)
      | (apply G.notF; rfl; (first | exact Wn.none | exact Wn.some rfl rfl); rfl; rfl)
      | (apply G.pickT; rfl; rfl; (first | exact Wn.none | exact Wn.some rfl rfl); rfl; rfl)
      | (apply G.pickF; rfl; rfl; (first | exact Wn.none | exact Wn.some rfl rfl); rfl; rfl)
      | (apply G.lss; rfl; rfl; (first | exact Wn.none | exact Wn.some rfl rfl); rfl; rfl; all_goals intro h; all_goals try (exfalso; omega))
      | (apply G.leq; rfl; rfl; (first | exact Wn.none | exact Wn.some rfl rfl); rfl; rfl; all_goals intro h; all_goals try (exfalso; omega))
      | (apply G.gtr; rfl; rfl; (first | exact Wn.none | exact Wn.some rfl rfl); rfl; rfl; all_goals intro h; all_goals try (exfalso; omega))
      | (apply G.geq; rfl; rfl; (first | exact Wn.none | exact Wn.some rfl rfl); rfl; rfl; all_goals intro h; all_goals try (exfalso; omega))
      | (apply G.eql; rfl; rfl; (first | exact Wn.none | exact Wn.some rfl rfl); rfl; rfl; all_goals intro h; all_goals try (exfalso; omega))
      | (apply G.neq; rfl; rfl; (first | exact Wn.none | exact Wn.some rfl rfl); rfl; rfl; all_goals intro h; all_goals try (exfalso; omega))
      | (apply G.eql2; rfl; rfl; (first | exact Wn.none | exact Wn.some rfl rfl); rfl; rfl; all_goals intro h; all_goals try (exfalso; omega))
      | (apply G.neq2; rfl; rfl; (first | exact Wn.none | exact Wn.some rfl rfl); rfl; rfl; all_goals intro h; all_goals try (exfalso; omega))
      | (apply G.add; rfl; rfl; omega; omega; (first | exact Wn.none | exact Wn.some rfl rfl); rfl; rfl)
      | (apply G.sub; rfl; rfl; omega; omega; (first | exact Wn.none | exact Wn.some rfl rfl); rfl; rfl)
      | (apply G.addW; rfl; rfl; (first | exact Wn.none | exact Wn.some rfl rfl); rfl; rfl)
      | (apply G.subW; rfl; rfl; (first | exact Wn.none | exact Wn.some rfl rfl); rfl; rfl)
      | (apply G.extract; rfl; rfl; (first | exact Wn.none | exact Wn.some rfl rfl); rfl; rfl)
      | (apply G.build; rfl; rfl; (first | exact Wn.none | exact Wn.some rfl rfl); rfl; rfl)
      | (apply G.neg; rfl; omega; omega; (first | exact Wn.none | exact Wn.some rfl rfl); rfl; rfl)
      | (apply G.max2; rfl; rfl; (first | exact Wn.none | exact Wn.some rfl rfl); rfl; rfl)
      | (apply G.min2; rfl; rfl; (first | exact Wn.none | exact Wn.some rfl rfl); rfl; rfl)
      | (apply G.box; (first | exact Wn.none | exact Wn.some rfl rfl); rfl; rfl; rfl; rfl; intro Bk)
      | (apply G.alloc; (first | exact Wn.none | exact Wn.some rfl rfl); rfl; rfl; intro Bk)
      | (apply G.store (i := 0); (first | exact Wn.none | exact Wn.some rfl rfl); rfl; rfl; rfl; rfl; rfl; rfl; rfl; rfl)
      | (apply G.store (i := 1); (first | exact Wn.none | exact Wn.some rfl rfl); rfl; rfl; rfl; rfl; rfl; rfl; rfl; rfl)
      | (apply G.store (i := 2); (first | exact Wn.none | exact Wn.some rfl rfl); rfl; rfl; rfl; rfl; rfl; rfl; rfl; rfl)
      | (apply G.store (i := 3); (first | exact Wn.none | exact Wn.some rfl rfl); rfl; rfl; rfl; rfl; rfl; rfl; rfl; rfl)
      | (apply G.store (i := 4); (first | exact Wn.none | exact Wn.some rfl rfl); rfl; rfl; rfl; rfl; rfl; rfl; rfl; rfl)
      | (apply G.storeSame (i := 0); (first | exact Wn.none | exact Wn.some rfl rfl); rfl; rfl; rfl; rfl; rfl; rfl; rfl; rfl; rfl)
      | (apply G.storeSame (i := 1); (first | exact Wn.none | exact Wn.some rfl rfl); rfl; rfl; rfl; rfl; rfl; rfl; rfl; rfl; rfl)
      | (apply G.storeSame (i := 2); (first | exact Wn.none | exact Wn.some rfl rfl); rfl; rfl; rfl; rfl; rfl; rfl; rfl; rfl; rfl)
      | (apply J.regQ; exact Try.mixed; decide +kernel)
      | apply J.reg)
    · skip
      all_goals (apply leave Try.func22; (apply RunsTo.three Try.results22; (first | (apply ResV.tmp; rfl) | (apply ResV.cell; rfl; (first | (apply LdV.one; (first | exact CellV.row0 (by assumption) rfl | exact CellV.rowS (by assumption) rfl | exact CellV.blk (.head _) rfl | exact CellV.blk (.tail _ (.head _)) rfl | exact CellV.blk (.tail _ (.tail _ (.head _))) rfl | exact CellV.blk (.tail _ (.tail _ (.tail _ (.head _)))) rfl | exact CellV.blk (.tail _ (.tail _ (.tail _ (.tail _ (.head _))))) rfl | exact CellV.blk (.tail _ (.tail _ (.tail _ (.tail _ (.tail _ (.head _)))))) rfl)) | (apply LdV.aggBlk; (first | exact .head _ | exact .tail _ (.head _) | exact .tail _ (.tail _ (.head _)) | exact .tail _ (.tail _ (.tail _ (.head _))) | exact .tail _ (.tail _ (.tail _ (.tail _ (.head _)))) | exact .tail _ (.tail _ (.tail _ (.tail _ (.tail _ (.head _)))))); rfl) | (apply LdV.aggRow; assumption; rfl)))); (first | (apply ResV.tmp; rfl) | (apply ResV.cell; rfl; (first | (apply LdV.one; (first | exact CellV.row0 (by assumption) rfl | exact CellV.rowS (by assumption) rfl | exact CellV.blk (.head _) rfl | exact CellV.blk (.tail _ (.head _)) rfl | exact CellV.blk (.tail _ (.tail _ (.head _))) rfl | exact CellV.blk (.tail _ (.tail _ (.tail _ (.head _)))) rfl | exact CellV.blk (.tail _ (.tail _ (.tail _ (.tail _ (.head _))))) rfl | exact CellV.blk (.tail _ (.tail _ (.tail _ (.tail _ (.tail _ (.head _)))))) rfl)) | (apply LdV.aggBlk; (first | exact .head _ | exact .tail _ (.head _) | exact .tail _ (.tail _ (.head _)) | exact .tail _ (.tail _ (.tail _ (.head _))) | exact .tail _ (.tail _ (.tail _ (.tail _ (.head _)))) | exact .tail _ (.tail _ (.tail _ (.tail _ (.tail _ (.head _)))))); rfl) | (apply LdV.aggRow; assumption; rfl)))); (first | (apply ResV.tmp; rfl) | (apply ResV.cell; rfl; (first | (apply LdV.one; (first | exact CellV.row0 (by assumption) rfl | exact CellV.rowS (by assumption) rfl | exact CellV.blk (.head _) rfl | exact CellV.blk (.tail _ (.head _)) rfl | exact CellV.blk (.tail _ (.tail _ (.head _))) rfl | exact CellV.blk (.tail _ (.tail _ (.tail _ (.head _)))) rfl | exact CellV.blk (.tail _ (.tail _ (.tail _ (.tail _ (.head _))))) rfl | exact CellV.blk (.tail _ (.tail _ (.tail _ (.tail _ (.tail _ (.head _)))))) rfl)) | (apply LdV.aggBlk; (first | exact .head _ | exact .tail _ (.head _) | exact .tail _ (.tail _ (.head _)) | exact .tail _ (.tail _ (.tail _ (.head _))) | exact .tail _ (.tail _ (.tail _ (.tail _ (.head _)))) | exact .tail _ (.tail _ (.tail _ (.tail _ (.tail _ (.head _)))))); rfl) | (apply LdV.aggRow; assumption; rfl))))); intro w' hw; refine ⟨?_, hw.below⟩; clear hw)
      exact ret_sumt (r := (((0, 0), (0, 0)), 1)) (by rw [hin, if_pos (by omega)])
    · skip
      all_goals (apply leave Try.func22; (apply RunsTo.three Try.results22; (first | (apply ResV.tmp; rfl) | (apply ResV.cell; rfl; (first | (apply LdV.one; (first | exact CellV.row0 (by assumption) rfl | exact CellV.rowS (by assumption) rfl | exact CellV.blk (.head _) rfl | exact CellV.blk (.tail _ (.head _)) rfl | exact CellV.blk (.tail _ (.tail _ (.head _))) rfl | exact CellV.blk (.tail _ (.tail _ (.tail _ (.head _)))) rfl | exact CellV.blk (.tail _ (.tail _ (.tail _ (.tail _ (.head _))))) rfl | exact CellV.blk (.tail _ (.tail _ (.tail _ (.tail _ (.tail _ (.head _)))))) rfl)) | (apply LdV.aggBlk; (first | exact .head _ | exact .tail _ (.head _) | exact .tail _ (.tail _ (.head _)) | exact .tail _ (.tail _ (.tail _ (.head _))) | exact .tail _ (.tail _ (.tail _ (.tail _ (.head _)))) | exact .tail _ (.tail _ (.tail _ (.tail _ (.tail _ (.head _)))))); rfl) | (apply LdV.aggRow; assumption; rfl)))); (first | (apply ResV.tmp; rfl) | (apply ResV.cell; rfl; (first | (apply LdV.one; (first | exact CellV.row0 (by assumption) rfl | exact CellV.rowS (by assumption) rfl | exact CellV.blk (.head _) rfl | exact CellV.blk (.tail _ (.head _)) rfl | exact CellV.blk (.tail _ (.tail _ (.head _))) rfl | exact CellV.blk (.tail _ (.tail _ (.tail _ (.head _)))) rfl | exact CellV.blk (.tail _ (.tail _ (.tail _ (.tail _ (.head _))))) rfl | exact CellV.blk (.tail _ (.tail _ (.tail _ (.tail _ (.tail _ (.head _)))))) rfl)) | (apply LdV.aggBlk; (first | exact .head _ | exact .tail _ (.head _) | exact .tail _ (.tail _ (.head _)) | exact .tail _ (.tail _ (.tail _ (.head _))) | exact .tail _ (.tail _ (.tail _ (.tail _ (.head _)))) | exact .tail _ (.tail _ (.tail _ (.tail _ (.tail _ (.head _)))))); rfl) | (apply LdV.aggRow; assumption; rfl)))); (first | (apply ResV.tmp; rfl) | (apply ResV.cell; rfl; (first | (apply LdV.one; (first | exact CellV.row0 (by assumption) rfl | exact CellV.rowS (by assumption) rfl | exact CellV.blk (.head _) rfl | exact CellV.blk (.tail _ (.head _)) rfl | exact CellV.blk (.tail _ (.tail _ (.head _))) rfl | exact CellV.blk (.tail _ (.tail _ (.tail _ (.head _)))) rfl | exact CellV.blk (.tail _ (.tail _ (.tail _ (.tail _ (.head _))))) rfl | exact CellV.blk (.tail _ (.tail _ (.tail _ (.tail _ (.tail _ (.head _)))))) rfl)) | (apply LdV.aggBlk; (first | exact .head _ | exact .tail _ (.head _) | exact .tail _ (.tail _ (.head _)) | exact .tail _ (.tail _ (.tail _ (.head _))) | exact .tail _ (.tail _ (.tail _ (.tail _ (.head _)))) | exact .tail _ (.tail _ (.tail _ (.tail _ (.tail _ (.head _)))))); rfl) | (apply LdV.aggRow; assumption; rfl))))); intro w' hw; refine ⟨?_, hw.below⟩; clear hw)
      exact ret_sumt (r := (((0, 0), (0, 0)), 1)) (by rw [hin, if_pos (by omega)])
    all_goals (exfalso; omega)
end Go.Proofs.Ytjfbdffcgapdlaa
