/-
  Contracts of the functions of the clock layer that compute with numbers alone.
-/
import Derived.Test.YtjfbdffcgapdlaaTypes
import Derived.Test.YtjfbdffcgapdlaaCo

namespace Go.Proofs.Ytjfbdffcgapdlaa
open Go.RowKit Go.Sl

def validB (s : Int × Int) : Bool := decide (-2000 ≤ s.1 ∧ s.1 ≤ s.2 ∧ s.2 ≤ 2000)
def tickB (n : Int) : Bool := decide (0 ≤ n ∧ n < 1402560)
theorem bcell {W w1 : World} (hb : Below W.heap.size W w1) : (∀ b o, b < W.heap.size → w1.cell? ⟨b, o, none⟩ = W.cell? ⟨b, o, none⟩) ∧ (∀ b o, b < W.heap.size → w1.frozen? ⟨b, o, none⟩ = W.frozen? ⟨b, o, none⟩) :=
  ⟨fun b o h => hb.cell (p := ⟨b, o, none⟩) h, fun b o h => hb.frozen (p := ⟨b, o, none⟩) h⟩
structure Ev where
  A : Int
  B : Int
  At : Int
  Bt : Int
  Lo : Int
  Hi : Int
  deriving DecidableEq, Inhabited
def evV (x : Ev) : List Value := [.int .i64 x.A, .int .i64 x.B, .int .i64 x.At, .int .i64 x.Bt, .int .i64 x.Lo, .int .i64 x.Hi]
def evErr (x : Ev) (n : Int) : Int :=
  if x.A < 0 ∨ n ≤ x.A ∨ x.B < 0 ∨ n ≤ x.B then 8
  else if tickB x.At = false ∨ tickB x.Bt = false ∨ x.Lo < 0 ∨ x.Hi < x.Lo ∨ 1402560 < x.Hi then 3 else 0
def clipS (a b : Int) : Int × Int := if max a 0 ≥ min b 1402560 then (0, 0) else (max a 0, min b 1402560)

theorem ret_bool {a b : Bool} (h : a = b) : Ending.returned (.bool a) = .returned (.bool b) := by rw [h]
theorem ret_int {k : IntKind} {a b : Int} (h : a = b) : Ending.returned (.int k a) = .returned (.int k b) := by rw [h]



theorem c34 (lo hi : Int) (w : World) :
    Calls Try.prog 34 #[.agg #[.int .i64 lo, .int .i64 hi]] w fun e w' => e = .returned (.bool (validB (lo, hi))) ∧ Below w.heap.size w w' := by
  refine enter [(0, .agg #[.int .i64 lo, .int .i64 hi])] Try.func34 rfl Try.ntmps34 (by simp) ⟨rfl, trivial⟩ ?_
  repeat' (first
    | (apply G.move; rfl; (first | exact Wn.none | exact Wn.some rfl rfl); rfl; rfl)
    | (apply G.assign; rfl; (first | exact Wn.none | exact Wn.some rfl rfl); rfl; rfl)
    | (apply G.fieldAddr; rfl; (first | exact Wn.none | exact Wn.some rfl rfl); rfl; rfl)
    | (apply G.load; rfl; (first | (apply LdV.one; (first | exact CellV.row0 (by assumption) rfl | exact CellV.rowS (by assumption) rfl | exact CellV.blk (.head _) rfl | exact CellV.blk (.tail _ (.head _)) rfl | exact CellV.blk (.tail _ (.tail _ (.head _))) rfl | exact CellV.blk (.tail _ (.tail _ (.tail _ (.head _)))) rfl | exact CellV.blk (.tail _ (.tail _ (.tail _ (.tail _ (.head _))))) rfl | exact CellV.blk (.tail _ (.tail _ (.tail _ (.tail _ (.tail _ (.head _)))))) rfl)) | (apply LdV.aggBlk; (first | exact .head _ | exact .tail _ (.head _) | exact .tail _ (.tail _ (.head _)) | exact .tail _ (.tail _ (.tail _ (.head _))) | exact .tail _ (.tail _ (.tail _ (.tail _ (.head _)))) | exact .tail _ (.tail _ (.tail _ (.tail _ (.tail _ (.head _)))))); rfl) | (apply LdV.aggRow; assumption; rfl)); (first | exact Wn.none | exact Wn.some rfl rfl); rfl; rfl)
    | (apply G.nil; rfl)
    | apply J.seq
    | (apply J.condT; rfl)
    | (apply J.condF; rfl)
    | apply J.skip
    | apply J.block
    | apply J.inBlock
    | (apply J.exit; rfl)
    | (apply G.skip; rfl; rfl; rfl; rfl; rfl)
    | (apply G.lenSlice; rfl; (first | exact Wn.none | exact Wn.some rfl rfl); rfl; rfl)
    | (apply G.indexAddr; rfl; rfl; rfl; omega; (first | exact Wn.none | exact Wn.some rfl rfl); rfl; rfl)
    | (apply G.notT; rfl; (first | exact Wn.none | exact Wn.some rfl rfl); rfl; rfl)
    | (apply G.notF; rfl; (first | exact Wn.none | exact Wn.some rfl rfl); rfl; rfl)
    | (apply G.pickT; rfl; rfl; (first | exact Wn.none | exact Wn.some rfl rfl); rfl; rfl)
    | (apply G.pickF; rfl; rfl; (first | exact Wn.none | exact Wn.some rfl rfl); rfl; rfl)
    | (apply G.lss; rfl; rfl; (first | exact Wn.none | exact Wn.some rfl rfl); rfl; rfl; all_goals intro h; all_goals try (exfalso; omega))
    | (apply G.leq; rfl; rfl; (first | exact Wn.none | exact Wn.some rfl rfl); rfl; rfl; all_goals intro h; all_goals try (exfalso; omega))
    | (apply G.gtr; rfl; rfl; (first | exact Wn.none | exact Wn.some rfl rfl); rfl; rfl; all_goals intro h; all_goals try (exfalso; omega))
    | (apply G.geq; rfl; rfl; (first | exact Wn.none | exact Wn.some rfl rfl); rfl; rfl; all_goals intro h; all_goals try (exfalso; omega))
    | (apply G.eql; rfl; rfl; (first | exact Wn.none | exact Wn.some rfl rfl); rfl; rfl; all_goals intro h; all_goals try (exfalso; omega))
    | (apply G.neq; rfl; rfl; (first | exact Wn.none | exact Wn.some rfl rfl); rfl; rfl; all_goals intro h; all_goals try (exfalso; omega))
    | (apply G.eql2; rfl; rfl; (first | exact Wn.none | exact Wn.some rfl rfl); rfl; rfl; all_goals intro h; all_goals try (exfalso; omega))
    | (apply G.neq2; rfl; rfl; (first | exact Wn.none | exact Wn.some rfl rfl); rfl; rfl; all_goals intro h; all_goals try (exfalso; omega))
    | (apply G.add; rfl; rfl; omega; omega; (first | exact Wn.none | exact Wn.some rfl rfl); rfl; rfl)
    | (apply G.sub; rfl; rfl; omega; omega; (first | exact Wn.none | exact Wn.some rfl rfl); rfl; rfl)
    | (apply G.addW; rfl; rfl; (first | exact Wn.none | exact Wn.some rfl rfl); rfl; rfl)
    | (apply G.subW; rfl; rfl; (first | exact Wn.none | exact Wn.some rfl rfl); rfl; rfl)
    | (apply G.extract; rfl; rfl; (first | exact Wn.none | exact Wn.some rfl rfl); rfl; rfl)
    | (apply G.build; rfl; rfl; (first | exact Wn.none | exact Wn.some rfl rfl); rfl; rfl)
    | (apply G.neg; rfl; omega; omega; (first | exact Wn.none | exact Wn.some rfl rfl); rfl; rfl)
    | (apply G.max2; rfl; rfl; (first | exact Wn.none | exact Wn.some rfl rfl); rfl; rfl)
    | (apply G.min2; rfl; rfl; (first | exact Wn.none | exact Wn.some rfl rfl); rfl; rfl)
    | (apply G.box; (first | exact Wn.none | exact Wn.some rfl rfl); rfl; rfl; rfl; rfl; intro Bk)
    | (apply G.alloc; (first | exact Wn.none | exact Wn.some rfl rfl); rfl; rfl; intro Bk)
    | (apply G.store (i := 0); (first | exact Wn.none | exact Wn.some rfl rfl); rfl; rfl; rfl; rfl; rfl; rfl; rfl; rfl)
    | (apply G.store (i := 1); (first | exact Wn.none | exact Wn.some rfl rfl); rfl; rfl; rfl; rfl; rfl; rfl; rfl; rfl)
    | (apply G.store (i := 2); (first | exact Wn.none | exact Wn.some rfl rfl); rfl; rfl; rfl; rfl; rfl; rfl; rfl; rfl)
    | (apply G.store (i := 3); (first | exact Wn.none | exact Wn.some rfl rfl); rfl; rfl; rfl; rfl; rfl; rfl; rfl; rfl)
    | (apply G.store (i := 4); (first | exact Wn.none | exact Wn.some rfl rfl); rfl; rfl; rfl; rfl; rfl; rfl; rfl; rfl)
    | (apply G.storeSame (i := 0); (first | exact Wn.none | exact Wn.some rfl rfl); rfl; rfl; rfl; rfl; rfl; rfl; rfl; rfl; rfl)
    | (apply G.storeSame (i := 1); (first | exact Wn.none | exact Wn.some rfl rfl); rfl; rfl; rfl; rfl; rfl; rfl; rfl; rfl; rfl)
    | (apply G.storeSame (i := 2); (first | exact Wn.none | exact Wn.some rfl rfl); rfl; rfl; rfl; rfl; rfl; rfl; rfl; rfl; rfl)
    | (apply J.regQ; exact Try.mixed; decide +kernel)
    | apply J.reg)
  all_goals (apply leave Try.func34; (apply RunsTo.one Try.results34; (first | (apply ResV.tmp; rfl) | (apply ResV.cell; rfl; (first | (apply LdV.one; (first | exact CellV.row0 (by assumption) rfl | exact CellV.rowS (by assumption) rfl | exact CellV.blk (.head _) rfl | exact CellV.blk (.tail _ (.head _)) rfl | exact CellV.blk (.tail _ (.tail _ (.head _))) rfl | exact CellV.blk (.tail _ (.tail _ (.tail _ (.head _)))) rfl | exact CellV.blk (.tail _ (.tail _ (.tail _ (.tail _ (.head _))))) rfl | exact CellV.blk (.tail _ (.tail _ (.tail _ (.tail _ (.tail _ (.head _)))))) rfl)) | (apply LdV.aggBlk; (first | exact .head _ | exact .tail _ (.head _) | exact .tail _ (.tail _ (.head _)) | exact .tail _ (.tail _ (.tail _ (.head _))) | exact .tail _ (.tail _ (.tail _ (.tail _ (.head _)))) | exact .tail _ (.tail _ (.tail _ (.tail _ (.tail _ (.head _)))))); rfl) | (apply LdV.aggRow; assumption; rfl))))); intro w' hw; refine ⟨?_, hw.below⟩; clear hw)
  all_goals exact ret_bool (by simp [validB]; omega)
theorem c21 (lo hi : Int) (w : World) :
    Calls Try.prog 21 #[.agg #[.int .i64 lo, .int .i64 hi]] w fun e w' => e = .returned (.bool (validB (lo, hi))) ∧ Below w.heap.size w w' := by
  refine enter [(0, .agg #[.int .i64 lo, .int .i64 hi])] Try.func21 rfl Try.ntmps21 (by simp) ⟨rfl, trivial⟩ ?_
  repeat' (first
    | (apply G.move; rfl; (first | exact Wn.none | exact Wn.some rfl rfl); rfl; rfl)
    | (apply G.assign; rfl; (first | exact Wn.none | exact Wn.some rfl rfl); rfl; rfl)
    | (apply G.fieldAddr; rfl; (first | exact Wn.none | exact Wn.some rfl rfl); rfl; rfl)
    | (apply G.load; rfl; (first | (apply LdV.one; (first | exact CellV.row0 (by assumption) rfl | exact CellV.rowS (by assumption) rfl | exact CellV.blk (.head _) rfl | exact CellV.blk (.tail _ (.head _)) rfl | exact CellV.blk (.tail _ (.tail _ (.head _))) rfl | exact CellV.blk (.tail _ (.tail _ (.tail _ (.head _)))) rfl | exact CellV.blk (.tail _ (.tail _ (.tail _ (.tail _ (.head _))))) rfl | exact CellV.blk (.tail _ (.tail _ (.tail _ (.tail _ (.tail _ (.head _)))))) rfl)) | (apply LdV.aggBlk; (first | exact .head _ | exact .tail _ (.head _) | exact .tail _ (.tail _ (.head _)) | exact .tail _ (.tail _ (.tail _ (.head _))) | exact .tail _ (.tail _ (.tail _ (.tail _ (.head _)))) | exact .tail _ (.tail _ (.tail _ (.tail _ (.tail _ (.head _)))))); rfl) | (apply LdV.aggRow; assumption; rfl)); (first | exact Wn.none | exact Wn.some rfl rfl); rfl; rfl)
    | (apply G.nil; rfl)
    | apply J.seq
    | (apply J.condT; rfl)
    | (apply J.condF; rfl)
    | apply J.skip
    | apply J.block
    | apply J.inBlock
    | (apply J.exit; rfl)
    | (apply G.skip; rfl; rfl; rfl; rfl; rfl)
    | (apply G.lenSlice; rfl; (first | exact Wn.none | exact Wn.some rfl rfl); rfl; rfl)
    | (apply G.indexAddr; rfl; rfl; rfl; omega; (first | exact Wn.none | exact Wn.some rfl rfl); rfl; rfl)
    | (apply G.notT; rfl; (first | exact Wn.none | exact Wn.some rfl rfl); rfl; rfl)
    | (apply G.notF; rfl; (first | exact Wn.none | exact Wn.some rfl rfl); rfl; rfl)
    | (apply G.pickT; rfl; rfl; (first | exact Wn.none | exact Wn.some rfl rfl); rfl; rfl)
    | (apply G.pickF; rfl; rfl; (first | exact Wn.none | exact Wn.some rfl rfl); rfl; rfl)
    | (apply G.lss; rfl; rfl; (first | exact Wn.none | exact Wn.some rfl rfl); rfl; rfl; all_goals intro h; all_goals try (exfalso; omega))
    | (apply G.leq; rfl; rfl; (first | exact Wn.none | exact Wn.some rfl rfl); rfl; rfl; all_goals intro h; all_goals try (exfalso; omega))
    | (apply G.gtr; rfl; rfl; (first | exact Wn.none | exact Wn.some rfl rfl); rfl; rfl; all_goals intro h; all_goals try (exfalso; omega))
    | (apply G.geq; rfl; rfl; (first | exact Wn.none | exact Wn.some rfl rfl); rfl; rfl; all_goals intro h; all_goals try (exfalso; omega))
    | (apply G.eql; rfl; rfl; (first | exact Wn.none | exact Wn.some rfl rfl); rfl; rfl; all_goals intro h; all_goals try (exfalso; omega))
    | (apply G.neq; rfl; rfl; (first | exact Wn.none | exact Wn.some rfl rfl); rfl; rfl; all_goals intro h; all_goals try (exfalso; omega))
    | (apply G.eql2; rfl; rfl; (first | exact Wn.none | exact Wn.some rfl rfl); rfl; rfl; all_goals intro h; all_goals try (exfalso; omega))
    | (apply G.neq2; rfl; rfl; (first | exact Wn.none | exact Wn.some rfl rfl); rfl; rfl; all_goals intro h; all_goals try (exfalso; omega))
    | (apply G.add; rfl; rfl; omega; omega; (first | exact Wn.none | exact Wn.some rfl rfl); rfl; rfl)
    | (apply G.sub; rfl; rfl; omega; omega; (first | exact Wn.none | exact Wn.some rfl rfl); rfl; rfl)
    | (apply G.addW; rfl; rfl; (first | exact Wn.none | exact Wn.some rfl rfl); rfl; rfl)
    | (apply G.subW; rfl; rfl; (first | exact Wn.none | exact Wn.some rfl rfl); rfl; rfl)
    | (apply G.extract; rfl; rfl; (first | exact Wn.none | exact Wn.some rfl rfl); rfl; rfl)
    | (apply G.build; rfl; rfl; (first | exact Wn.none | exact Wn.some rfl rfl); rfl; rfl)
    | (apply G.neg; rfl; omega; omega; (first | exact Wn.none | exact Wn.some rfl rfl); rfl; rfl)
    | (apply G.max2; rfl; rfl; (first | exact Wn.none | exact Wn.some rfl rfl); rfl; rfl)
    | (apply G.min2; rfl; rfl; (first | exact Wn.none | exact Wn.some rfl rfl); rfl; rfl)
    | (apply G.box; (first | exact Wn.none | exact Wn.some rfl rfl); rfl; rfl; rfl; rfl; intro Bk)
    | (apply G.alloc; (first | exact Wn.none | exact Wn.some rfl rfl); rfl; rfl; intro Bk)
    | (apply G.store (i := 0); (first | exact Wn.none | exact Wn.some rfl rfl); rfl; rfl; rfl; rfl; rfl; rfl; rfl; rfl)
    | (apply G.store (i := 1); (first | exact Wn.none | exact Wn.some rfl rfl); rfl; rfl; rfl; rfl; rfl; rfl; rfl; rfl)
    | (apply G.store (i := 2); (first | exact Wn.none | exact Wn.some rfl rfl); rfl; rfl; rfl; rfl; rfl; rfl; rfl; rfl)
    | (apply G.store (i := 3); (first | exact Wn.none | exact Wn.some rfl rfl); rfl; rfl; rfl; rfl; rfl; rfl; rfl; rfl)
    | (apply G.store (i := 4); (first | exact Wn.none | exact Wn.some rfl rfl); rfl; rfl; rfl; rfl; rfl; rfl; rfl; rfl)
    | (apply G.storeSame (i := 0); (first | exact Wn.none | exact Wn.some rfl rfl); rfl; rfl; rfl; rfl; rfl; rfl; rfl; rfl; rfl)
    | (apply G.storeSame (i := 1); (first | exact Wn.none | exact Wn.some rfl rfl); rfl; rfl; rfl; rfl; rfl; rfl; rfl; rfl; rfl)
    | (apply G.storeSame (i := 2); (first | exact Wn.none | exact Wn.some rfl rfl); rfl; rfl; rfl; rfl; rfl; rfl; rfl; rfl; rfl)
    | (apply J.regQ; exact Try.mixed; decide +kernel)
    | apply J.reg)
  all_goals (apply leave Try.func21; (apply RunsTo.one Try.results21; (first | (apply ResV.tmp; rfl) | (apply ResV.cell; rfl; (first | (apply LdV.one; (first | exact CellV.row0 (by assumption) rfl | exact CellV.rowS (by assumption) rfl | exact CellV.blk (.head _) rfl | exact CellV.blk (.tail _ (.head _)) rfl | exact CellV.blk (.tail _ (.tail _ (.head _))) rfl | exact CellV.blk (.tail _ (.tail _ (.tail _ (.head _)))) rfl | exact CellV.blk (.tail _ (.tail _ (.tail _ (.tail _ (.head _))))) rfl | exact CellV.blk (.tail _ (.tail _ (.tail _ (.tail _ (.tail _ (.head _)))))) rfl)) | (apply LdV.aggBlk; (first | exact .head _ | exact .tail _ (.head _) | exact .tail _ (.tail _ (.head _)) | exact .tail _ (.tail _ (.tail _ (.head _))) | exact .tail _ (.tail _ (.tail _ (.tail _ (.head _)))) | exact .tail _ (.tail _ (.tail _ (.tail _ (.tail _ (.head _)))))); rfl) | (apply LdV.aggRow; assumption; rfl))))); intro w' hw; refine ⟨?_, hw.below⟩; clear hw)
  all_goals exact ret_bool (by simp [validB]; omega)
theorem c46 (n : Int) (w : World) :
    Calls Try.prog 46 #[.int .i64 n] w fun e w' => e = .returned (.bool (tickB n)) ∧ Below w.heap.size w w' := by
  refine enter [(0, .int .i64 n)] Try.func46 rfl Try.ntmps46 (by simp) ⟨rfl, trivial⟩ ?_
  repeat' (first
    | (apply G.move; rfl; (first | exact Wn.none | exact Wn.some rfl rfl); rfl; rfl)
    | (apply G.assign; rfl; (first | exact Wn.none | exact Wn.some rfl rfl); rfl; rfl)
    | (apply G.fieldAddr; rfl; (first | exact Wn.none | exact Wn.some rfl rfl); rfl; rfl)
    | (apply G.load; rfl; (first | (apply LdV.one; (first | exact CellV.row0 (by assumption) rfl | exact CellV.rowS (by assumption) rfl | exact CellV.blk (.head _) rfl | exact CellV.blk (.tail _ (.head _)) rfl | exact CellV.blk (.tail _ (.tail _ (.head _))) rfl | exact CellV.blk (.tail _ (.tail _ (.tail _ (.head _)))) rfl | exact CellV.blk (.tail _ (.tail _ (.tail _ (.tail _ (.head _))))) rfl | exact CellV.blk (.tail _ (.tail _ (.tail _ (.tail _ (.tail _ (.head _)))))) rfl)) | (apply LdV.aggBlk; (first | exact .head _ | exact .tail _ (.head _) | exact .tail _ (.tail _ (.head _)) | exact .tail _ (.tail _ (.tail _ (.head _))) | exact .tail _ (.tail _ (.tail _ (.tail _ (.head _)))) | exact .tail _ (.tail _ (.tail _ (.tail _ (.tail _ (.head _)))))); rfl) | (apply LdV.aggRow; assumption; rfl)); (first | exact Wn.none | exact Wn.some rfl rfl); rfl; rfl)
    | (apply G.nil; rfl)
    | apply J.seq
    | (apply J.condT; rfl)
    | (apply J.condF; rfl)
    | apply J.skip
    | apply J.block
    | apply J.inBlock
    | (apply J.exit; rfl)
    | (apply G.skip; rfl; rfl; rfl; rfl; rfl)
    | (apply G.lenSlice; rfl; (first | exact Wn.none | exact Wn.some rfl rfl); rfl; rfl)
    | (apply G.indexAddr; rfl; rfl; rfl; omega; (first | exact Wn.none | exact Wn.some rfl rfl); rfl; rfl)
    | (apply G.notT; rfl; (first | exact Wn.none | exact Wn.some rfl rfl); rfl; rfl)
    | (apply G.notF; rfl; (first | exact Wn.none | exact Wn.some rfl rfl); rfl; rfl)
    | (apply G.pickT; rfl; rfl; (first | exact Wn.none | exact Wn.some rfl rfl); rfl; rfl)
    | (apply G.pickF; rfl; rfl; (first | exact Wn.none | exact Wn.some rfl rfl); rfl; rfl)
    | (apply G.lss; rfl; rfl; (first | exact Wn.none | exact Wn.some rfl rfl); rfl; rfl; all_goals intro h; all_goals try (exfalso; omega))
    | (apply G.leq; rfl; rfl; (first | exact Wn.none | exact Wn.some rfl rfl); rfl; rfl; all_goals intro h; all_goals try (exfalso; omega))
    | (apply G.gtr; rfl; rfl; (first | exact Wn.none | exact Wn.some rfl rfl); rfl; rfl; all_goals intro h; all_goals try (exfalso; omega))
    | (apply G.geq; rfl; rfl; (first | exact Wn.none | exact Wn.some rfl rfl); rfl; rfl; all_goals intro h; all_goals try (exfalso; omega))
    | (apply G.eql; rfl; rfl; (first | exact Wn.none | exact Wn.some rfl rfl); rfl; rfl; all_goals intro h; all_goals try (exfalso; omega))
    | (apply G.neq; rfl; rfl; (first | exact Wn.none | exact Wn.some rfl rfl); rfl; rfl; all_goals intro h; all_goals try (exfalso; omega))
    | (apply G.eql2; rfl; rfl; (first | exact Wn.none | exact Wn.some rfl rfl); rfl; rfl; all_goals intro h; all_goals try (exfalso; omega))
    | (apply G.neq2; rfl; rfl; (first | exact Wn.none | exact Wn.some rfl rfl); rfl; rfl; all_goals intro h; all_goals try (exfalso; omega))
    | (apply G.add; rfl; rfl; omega; omega; (first | exact Wn.none | exact Wn.some rfl rfl); rfl; rfl)
    | (apply G.sub; rfl; rfl; omega; omega; (first | exact Wn.none | exact Wn.some rfl rfl); rfl; rfl)
    | (apply G.addW; rfl; rfl; (first | exact Wn.none | exact Wn.some rfl rfl); rfl; rfl)
    | (apply G.subW; rfl; rfl; (first | exact Wn.none | exact Wn.some rfl rfl); rfl; rfl)
    | (apply G.extract; rfl; rfl; (first | exact Wn.none | exact Wn.some rfl rfl); rfl; rfl)
    | (apply G.build; rfl; rfl; (first | exact Wn.none | exact Wn.some rfl rfl); rfl; rfl)
    | (apply G.neg; rfl; omega; omega; (first | exact Wn.none | exact Wn.some rfl rfl); rfl; rfl)
    | (apply G.max2; rfl; rfl; (first | exact Wn.none | exact Wn.some rfl rfl); rfl; rfl)
    | (apply G.min2; rfl; rfl; (first | exact Wn.none | exact Wn.some rfl rfl); rfl; rfl)
    | (apply G.box; (first | exact Wn.none | exact Wn.some rfl rfl); rfl; rfl; rfl; rfl; intro Bk)
    | (apply G.alloc; (first | exact Wn.none | exact Wn.some rfl rfl); rfl; rfl; intro Bk)
    | (apply G.store (i := 0); (first | exact Wn.none | exact Wn.some rfl rfl); rfl; rfl; rfl; rfl; rfl; rfl; rfl; rfl)
    | (apply G.store (i := 1); (first | exact Wn.none | exact Wn.some rfl rfl); rfl; rfl; rfl; rfl; rfl; rfl; rfl; rfl)
    | (apply G.store (i := 2); (first | exact Wn.none | exact Wn.some rfl rfl); rfl; rfl; rfl; rfl; rfl; rfl; rfl; rfl)
    | (apply G.store (i := 3); (first | exact Wn.none | exact Wn.some rfl rfl); rfl; rfl; rfl; rfl; rfl; rfl; rfl; rfl)
    | (apply G.store (i := 4); (first | exact Wn.none | exact Wn.some rfl rfl); rfl; rfl; rfl; rfl; rfl; rfl; rfl; rfl)
    | (apply G.storeSame (i := 0); (first | exact Wn.none | exact Wn.some rfl rfl); rfl; rfl; rfl; rfl; rfl; rfl; rfl; rfl; rfl)
    | (apply G.storeSame (i := 1); (first | exact Wn.none | exact Wn.some rfl rfl); rfl; rfl; rfl; rfl; rfl; rfl; rfl; rfl; rfl)
    | (apply G.storeSame (i := 2); (first | exact Wn.none | exact Wn.some rfl rfl); rfl; rfl; rfl; rfl; rfl; rfl; rfl; rfl; rfl)
    | (apply J.regQ; exact Try.mixed; decide +kernel)
    | apply J.reg)
  all_goals (apply leave Try.func46; (apply RunsTo.one Try.results46; (first | (apply ResV.tmp; rfl) | (apply ResV.cell; rfl; (first | (apply LdV.one; (first | exact CellV.row0 (by assumption) rfl | exact CellV.rowS (by assumption) rfl | exact CellV.blk (.head _) rfl | exact CellV.blk (.tail _ (.head _)) rfl | exact CellV.blk (.tail _ (.tail _ (.head _))) rfl | exact CellV.blk (.tail _ (.tail _ (.tail _ (.head _)))) rfl | exact CellV.blk (.tail _ (.tail _ (.tail _ (.tail _ (.head _))))) rfl | exact CellV.blk (.tail _ (.tail _ (.tail _ (.tail _ (.tail _ (.head _)))))) rfl)) | (apply LdV.aggBlk; (first | exact .head _ | exact .tail _ (.head _) | exact .tail _ (.tail _ (.head _)) | exact .tail _ (.tail _ (.tail _ (.head _))) | exact .tail _ (.tail _ (.tail _ (.tail _ (.head _)))) | exact .tail _ (.tail _ (.tail _ (.tail _ (.tail _ (.head _)))))); rfl) | (apply LdV.aggRow; assumption; rfl))))); intro w' hw; refine ⟨?_, hw.below⟩; clear hw)
  all_goals exact ret_bool (by simp [tickB]; omega)
theorem c35 (n : Int) (w : World) :
    Calls Try.prog 35 #[.int .i64 n] w fun e w' => e = .returned (.bool (tickB n)) ∧ Below w.heap.size w w' := by
  refine enter [(0, .int .i64 n)] Try.func35 rfl Try.ntmps35 (by simp) ⟨rfl, trivial⟩ ?_
  repeat' (first
    | (apply G.move; rfl; (first | exact Wn.none | exact Wn.some rfl rfl); rfl; rfl)
    | (apply G.assign; rfl; (first | exact Wn.none | exact Wn.some rfl rfl); rfl; rfl)
    | (apply G.fieldAddr; rfl; (first | exact Wn.none | exact Wn.some rfl rfl); rfl; rfl)
    | (apply G.load; rfl; (first | (apply LdV.one; (first | exact CellV.row0 (by assumption) rfl | exact CellV.rowS (by assumption) rfl | exact CellV.blk (.head _) rfl | exact CellV.blk (.tail _ (.head _)) rfl | exact CellV.blk (.tail _ (.tail _ (.head _))) rfl | exact CellV.blk (.tail _ (.tail _ (.tail _ (.head _)))) rfl | exact CellV.blk (.tail _ (.tail _ (.tail _ (.tail _ (.head _))))) rfl | exact CellV.blk (.tail _ (.tail _ (.tail _ (.tail _ (.tail _ (.head _)))))) rfl)) | (apply LdV.aggBlk; (first | exact .head _ | exact .tail _ (.head _) | exact .tail _ (.tail _ (.head _)) | exact .tail _ (.tail _ (.tail _ (.head _))) | exact .tail _ (.tail _ (.tail _ (.tail _ (.head _)))) | exact .tail _ (.tail _ (.tail _ (.tail _ (.tail _ (.head _)))))); rfl) | (apply LdV.aggRow; assumption; rfl)); (first | exact Wn.none | exact Wn.some rfl rfl); rfl; rfl)
    | (apply G.nil; rfl)
    | apply J.seq
    | (apply J.condT; rfl)
    | (apply J.condF; rfl)
    | apply J.skip
    | apply J.block
    | apply J.inBlock
    | (apply J.exit; rfl)
    | (apply G.skip; rfl; rfl; rfl; rfl; rfl)
    | (apply G.lenSlice; rfl; (first | exact Wn.none | exact Wn.some rfl rfl); rfl; rfl)
    | (apply G.indexAddr; rfl; rfl; rfl; omega; (first | exact Wn.none | exact Wn.some rfl rfl); rfl; rfl)
    | (apply G.notT; rfl; (first | exact Wn.none | exact Wn.some rfl rfl); rfl; rfl)
    | (apply G.notF; rfl; (first | exact Wn.none | exact Wn.some rfl rfl); rfl; rfl)
    | (apply G.pickT; rfl; rfl; (first | exact Wn.none | exact Wn.some rfl rfl); rfl; rfl)
    | (apply G.pickF; rfl; rfl; (first | exact Wn.none | exact Wn.some rfl rfl); rfl; rfl)
    | (apply G.lss; rfl; rfl; (first | exact Wn.none | exact Wn.some rfl rfl); rfl; rfl; all_goals intro h; all_goals try (exfalso; omega))
    | (apply G.leq; rfl; rfl; (first | exact Wn.none | exact Wn.some rfl rfl); rfl; rfl; all_goals intro h; all_goals try (exfalso; omega))
    | (apply G.gtr; rfl; rfl; (first | exact Wn.none | exact Wn.some rfl rfl); rfl; rfl; all_goals intro h; all_goals try (exfalso; omega))
    | (apply G.geq; rfl; rfl; (first | exact Wn.none | exact Wn.some rfl rfl); rfl; rfl; all_goals intro h; all_goals try (exfalso; omega))
    | (apply G.eql; rfl; rfl; (first | exact Wn.none | exact Wn.some rfl rfl); rfl; rfl; all_goals intro h; all_goals try (exfalso; omega))
    | (apply G.neq; rfl; rfl; (first | exact Wn.none | exact Wn.some rfl rfl); rfl; rfl; all_goals intro h; all_goals try (exfalso; omega))
    | (apply G.eql2; rfl; rfl; (first | exact Wn.none | exact Wn.some rfl rfl); rfl; rfl; all_goals intro h; all_goals try (exfalso; omega))
    | (apply G.neq2; rfl; rfl; (first | exact Wn.none | exact Wn.some rfl rfl); rfl; rfl; all_goals intro h; all_goals try (exfalso; omega))
    | (apply G.add; rfl; rfl; omega; omega; (first | exact Wn.none | exact Wn.some rfl rfl); rfl; rfl)
    | (apply G.sub; rfl; rfl; omega; omega; (first | exact Wn.none | exact Wn.some rfl rfl); rfl; rfl)
    | (apply G.addW; rfl; rfl; (first | exact Wn.none | exact Wn.some rfl rfl); rfl; rfl)
    | (apply G.subW; rfl; rfl; (first | exact Wn.none | exact Wn.some rfl rfl); rfl; rfl)
    | (apply G.extract; rfl; rfl; (first | exact Wn.none | exact Wn.some rfl rfl); rfl; rfl)
    | (apply G.build; rfl; rfl; (first | exact Wn.none | exact Wn.some rfl rfl); rfl; rfl)
    | (apply G.neg; rfl; omega; omega; (first | exact Wn.none | exact Wn.some rfl rfl); rfl; rfl)
    | (apply G.max2; rfl; rfl; (first | exact Wn.none | exact Wn.some rfl rfl); rfl; rfl)
    | (apply G.min2; rfl; rfl; (first | exact Wn.none | exact Wn.some rfl rfl); rfl; rfl)
    | (apply G.box; (first | exact Wn.none | exact Wn.some rfl rfl); rfl; rfl; rfl; rfl; intro Bk)
    | (apply G.alloc; (first | exact Wn.none | exact Wn.some rfl rfl); rfl; rfl; intro Bk)
    | (apply G.store (i := 0); (first | exact Wn.none | exact Wn.some rfl rfl); rfl; rfl; rfl; rfl; rfl; rfl; rfl; rfl)
    | (apply G.store (i := 1); (first | exact Wn.none | exact Wn.some rfl rfl); rfl; rfl; rfl; rfl; rfl; rfl; rfl; rfl)
    | (apply G.store (i := 2); (first | exact Wn.none | exact Wn.some rfl rfl); rfl; rfl; rfl; rfl; rfl; rfl; rfl; rfl)
    | (apply G.store (i := 3); (first | exact Wn.none | exact Wn.some rfl rfl); rfl; rfl; rfl; rfl; rfl; rfl; rfl; rfl)
    | (apply G.store (i := 4); (first | exact Wn.none | exact Wn.some rfl rfl); rfl; rfl; rfl; rfl; rfl; rfl; rfl; rfl)
    | (apply G.storeSame (i := 0); (first | exact Wn.none | exact Wn.some rfl rfl); rfl; rfl; rfl; rfl; rfl; rfl; rfl; rfl; rfl)
    | (apply G.storeSame (i := 1); (first | exact Wn.none | exact Wn.some rfl rfl); rfl; rfl; rfl; rfl; rfl; rfl; rfl; rfl; rfl)
    | (apply G.storeSame (i := 2); (first | exact Wn.none | exact Wn.some rfl rfl); rfl; rfl; rfl; rfl; rfl; rfl; rfl; rfl; rfl)
    | (apply J.regQ; exact Try.mixed; decide +kernel)
    | apply J.reg)
  all_goals (apply leave Try.func35; (apply RunsTo.one Try.results35; (first | (apply ResV.tmp; rfl) | (apply ResV.cell; rfl; (first | (apply LdV.one; (first | exact CellV.row0 (by assumption) rfl | exact CellV.rowS (by assumption) rfl | exact CellV.blk (.head _) rfl | exact CellV.blk (.tail _ (.head _)) rfl | exact CellV.blk (.tail _ (.tail _ (.head _))) rfl | exact CellV.blk (.tail _ (.tail _ (.tail _ (.head _)))) rfl | exact CellV.blk (.tail _ (.tail _ (.tail _ (.tail _ (.head _))))) rfl | exact CellV.blk (.tail _ (.tail _ (.tail _ (.tail _ (.tail _ (.head _)))))) rfl)) | (apply LdV.aggBlk; (first | exact .head _ | exact .tail _ (.head _) | exact .tail _ (.tail _ (.head _)) | exact .tail _ (.tail _ (.tail _ (.head _))) | exact .tail _ (.tail _ (.tail _ (.tail _ (.head _)))) | exact .tail _ (.tail _ (.tail _ (.tail _ (.tail _ (.head _)))))); rfl) | (apply LdV.aggRow; assumption; rfl))))); intro w' hw; refine ⟨?_, hw.below⟩; clear hw)
  all_goals exact ret_bool (by simp [tickB]; omega)
theorem c36 (x : Ev) (n : Int) (w : World) :
    Calls Try.prog 36 #[.agg (evV x).toArray, .int .i64 n] w fun e w' => e = .returned (.int .i64 (evErr x n)) ∧ Below w.heap.size w w' := by
  obtain ⟨A, B, At, Bt, Lo, Hi⟩ := x
  refine enter [(0, .agg #[.int .i64 A, .int .i64 B, .int .i64 At, .int .i64 Bt, .int .i64 Lo, .int .i64 Hi]), (1, .int .i64 n)] Try.func36 rfl Try.ntmps36 (by simp) ⟨rfl, rfl, trivial⟩ ?_
  repeat' (first
    | (apply G.callB (g := 46); rfl; (first | exact Wn.none | exact Wn.some rfl rfl); rfl; rfl; exact fun w _ => c46 _ w; all_goals intro h)
    | (apply G.move; rfl; (first | exact Wn.none | exact Wn.some rfl rfl); rfl; rfl)
    | (apply G.assign; rfl; (first | exact Wn.none | exact Wn.some rfl rfl); rfl; rfl)
    | (apply G.fieldAddr; rfl; (first | exact Wn.none | exact Wn.some rfl rfl); rfl; rfl)
    | (apply G.load; rfl; (first | (apply LdV.one; (first | exact CellV.row0 (by assumption) rfl | exact CellV.rowS (by assumption) rfl | exact CellV.blk (.head _) rfl | exact CellV.blk (.tail _ (.head _)) rfl | exact CellV.blk (.tail _ (.tail _ (.head _))) rfl | exact CellV.blk (.tail _ (.tail _ (.tail _ (.head _)))) rfl | exact CellV.blk (.tail _ (.tail _ (.tail _ (.tail _ (.head _))))) rfl | exact CellV.blk (.tail _ (.tail _ (.tail _ (.tail _ (.tail _ (.head _)))))) rfl)) | (apply LdV.aggBlk; (first | exact .head _ | exact .tail _ (.head _) | exact .tail _ (.tail _ (.head _)) | exact .tail _ (.tail _ (.tail _ (.head _))) | exact .tail _ (.tail _ (.tail _ (.tail _ (.head _)))) | exact .tail _ (.tail _ (.tail _ (.tail _ (.tail _ (.head _)))))); rfl) | (apply LdV.aggRow; assumption; rfl)); (first | exact Wn.none | exact Wn.some rfl rfl); rfl; rfl)
    | (apply G.nil; rfl)
    | apply J.seq
    | (apply J.condT; rfl)
    | (apply J.condF; rfl)
    | apply J.skip
    | apply J.block
    | apply J.inBlock
    | (apply J.exit; rfl)
    | (apply G.skip; rfl; rfl; rfl; rfl; rfl)
    | (apply G.lenSlice; rfl; (first | exact Wn.none | exact Wn.some rfl rfl); rfl; rfl)
    | (apply G.indexAddr; rfl; rfl; rfl; omega; (first | exact Wn.none | exact Wn.some rfl rfl); rfl; rfl)
    | (apply G.notT; rfl; (first | exact Wn.none | exact Wn.some rfl rfl); rfl; rfl)
    | (apply G.notF; rfl; (first | exact Wn.none | exact Wn.some rfl rfl); rfl; rfl)
    | (apply G.pickT; rfl; rfl; (first | exact Wn.none | exact Wn.some rfl rfl); rfl; rfl)
    | (apply G.pickF; rfl; rfl; (first | exact Wn.none | exact Wn.some rfl rfl); rfl; rfl)
    | (apply G.lss; rfl; rfl; (first | exact Wn.none | exact Wn.some rfl rfl); rfl; rfl; all_goals intro h; all_goals try (exfalso; omega))
    | (apply G.leq; rfl; rfl; (first | exact Wn.none | exact Wn.some rfl rfl); rfl; rfl; all_goals intro h; all_goals try (exfalso; omega))
    | (apply G.gtr; rfl; rfl; (first | exact Wn.none | exact Wn.some rfl rfl); rfl; rfl; all_goals intro h; all_goals try (exfalso; omega))
    | (apply G.geq; rfl; rfl; (first | exact Wn.none | exact Wn.some rfl rfl); rfl; rfl; all_goals intro h; all_goals try (exfalso; omega))
    | (apply G.eql; rfl; rfl; (first | exact Wn.none | exact Wn.some rfl rfl); rfl; rfl; all_goals intro h; all_goals try (exfalso; omega))
    | (apply G.neq; rfl; rfl; (first | exact Wn.none | exact Wn.some rfl rfl); rfl; rfl; all_goals intro h; all_goals try (exfalso; omega))
    | (apply G.eql2; rfl; rfl; (first | exact Wn.none | exact Wn.some rfl rfl); rfl; rfl; all_goals intro h; all_goals try (exfalso; omega))
    | (apply G.neq2; rfl; rfl; (first | exact Wn.none | exact Wn.some rfl rfl); rfl; rfl; all_goals intro h; all_goals try (exfalso; omega))
    | (apply G.add; rfl; rfl; omega; omega; (first | exact Wn.none | exact Wn.some rfl rfl); rfl; rfl)
    | (apply G.sub; rfl; rfl; omega; omega; (first | exact Wn.none | exact Wn.some rfl rfl); rfl; rfl)
    | (apply G.addW; rfl; rfl; (first | exact Wn.none | exact Wn.some rfl rfl); rfl; rfl)
    | (apply G.subW; rfl; rfl; (first | exact Wn.none | exact Wn.some rfl rfl); rfl; rfl)
    | (apply G.extract; rfl; rfl; (first | exact Wn.none | exact Wn.some rfl rfl); rfl; rfl)
    | (apply G.build; rfl; rfl; (first | exact Wn.none | exact Wn.some rfl rfl); rfl; rfl)
    | (apply G.neg; rfl; omega; omega; (first | exact Wn.none | exact Wn.some rfl rfl); rfl; rfl)
    | (apply G.max2; rfl; rfl; (first | exact Wn.none | exact Wn.some rfl rfl); rfl; rfl)
    | (apply G.min2; rfl; rfl; (first | exact Wn.none | exact Wn.some rfl rfl); rfl; rfl)
    | (apply G.box; (first | exact Wn.none | exact Wn.some rfl rfl); rfl; rfl; rfl; rfl; intro Bk)
    | (apply G.alloc; (first | exact Wn.none | exact Wn.some rfl rfl); rfl; rfl; intro Bk)
    | (apply G.store (i := 0); (first | exact Wn.none | exact Wn.some rfl rfl); rfl; rfl; rfl; rfl; rfl; rfl; rfl; rfl)
    | (apply G.store (i := 1); (first | exact Wn.none | exact Wn.some rfl rfl); rfl; rfl; rfl; rfl; rfl; rfl; rfl; rfl)
    | (apply G.store (i := 2); (first | exact Wn.none | exact Wn.some rfl rfl); rfl; rfl; rfl; rfl; rfl; rfl; rfl; rfl)
    | (apply G.store (i := 3); (first | exact Wn.none | exact Wn.some rfl rfl); rfl; rfl; rfl; rfl; rfl; rfl; rfl; rfl)
    | (apply G.store (i := 4); (first | exact Wn.none | exact Wn.some rfl rfl); rfl; rfl; rfl; rfl; rfl; rfl; rfl; rfl)
    | (apply G.storeSame (i := 0); (first | exact Wn.none | exact Wn.some rfl rfl); rfl; rfl; rfl; rfl; rfl; rfl; rfl; rfl; rfl)
    | (apply G.storeSame (i := 1); (first | exact Wn.none | exact Wn.some rfl rfl); rfl; rfl; rfl; rfl; rfl; rfl; rfl; rfl; rfl)
    | (apply G.storeSame (i := 2); (first | exact Wn.none | exact Wn.some rfl rfl); rfl; rfl; rfl; rfl; rfl; rfl; rfl; rfl; rfl)
    | (apply J.regQ; exact Try.mixed; decide +kernel)
    | apply J.reg)
  all_goals (apply leave Try.func36; (apply RunsTo.one Try.results36; (first | (apply ResV.tmp; rfl) | (apply ResV.cell; rfl; (first | (apply LdV.one; (first | exact CellV.row0 (by assumption) rfl | exact CellV.rowS (by assumption) rfl | exact CellV.blk (.head _) rfl | exact CellV.blk (.tail _ (.head _)) rfl | exact CellV.blk (.tail _ (.tail _ (.head _))) rfl | exact CellV.blk (.tail _ (.tail _ (.tail _ (.head _)))) rfl | exact CellV.blk (.tail _ (.tail _ (.tail _ (.tail _ (.head _))))) rfl | exact CellV.blk (.tail _ (.tail _ (.tail _ (.tail _ (.tail _ (.head _)))))) rfl)) | (apply LdV.aggBlk; (first | exact .head _ | exact .tail _ (.head _) | exact .tail _ (.tail _ (.head _)) | exact .tail _ (.tail _ (.tail _ (.head _))) | exact .tail _ (.tail _ (.tail _ (.tail _ (.head _)))) | exact .tail _ (.tail _ (.tail _ (.tail _ (.tail _ (.head _)))))); rfl) | (apply LdV.aggRow; assumption; rfl))))); intro w' hw; refine ⟨?_, hw.below⟩; clear hw)
  all_goals refine ret_int ?_
  all_goals (simp_all [evErr] <;> omega)

theorem c39 (a b : Int) (w : World) :
    Calls Try.prog 39 #[.int .i64 a, .int .i64 b] w fun e w' => e = .returned (.agg #[.int .i64 (clipS a b).1, .int .i64 (clipS a b).2]) ∧ Below w.heap.size w w' := by
  refine enter [(0, .int .i64 a), (1, .int .i64 b)] Try.func39 rfl Try.ntmps39 (by simp) ⟨rfl, rfl, trivial⟩ ?_
  repeat' (first
    | (apply G.move; rfl; (first | exact Wn.none | exact Wn.some rfl rfl); rfl; rfl)
    | (apply G.assign; rfl; (first | exact Wn.none | exact Wn.some rfl rfl); rfl; rfl)
    | (apply G.fieldAddr; rfl; (first | exact Wn.none | exact Wn.some rfl rfl); rfl; rfl)
    | (apply G.load; rfl; (first | (apply LdV.one; (first | exact CellV.row0 (by assumption) rfl | exact CellV.rowS (by assumption) rfl | exact CellV.blk (.head _) rfl | exact CellV.blk (.tail _ (.head _)) rfl | exact CellV.blk (.tail _ (.tail _ (.head _))) rfl | exact CellV.blk (.tail _ (.tail _ (.tail _ (.head _)))) rfl | exact CellV.blk (.tail _ (.tail _ (.tail _ (.tail _ (.head _))))) rfl | exact CellV.blk (.tail _ (.tail _ (.tail _ (.tail _ (.tail _ (.head _)))))) rfl)) | (apply LdV.aggBlk; (first | exact .head _ | exact .tail _ (.head _) | exact .tail _ (.tail _ (.head _)) | exact .tail _ (.tail _ (.tail _ (.head _))) | exact .tail _ (.tail _ (.tail _ (.tail _ (.head _)))) | exact .tail _ (.tail _ (.tail _ (.tail _ (.tail _ (.head _)))))); rfl) | (apply LdV.aggRow; assumption; rfl)); (first | exact Wn.none | exact Wn.some rfl rfl); rfl; rfl)
    | (apply G.nil; rfl)
    | apply J.seq
    | (apply J.condT; rfl)
    | (apply J.condF; rfl)
    | apply J.skip
    | apply J.block
    | apply J.inBlock
    | (apply J.exit; rfl)
    | (apply G.skip; rfl; rfl; rfl; rfl; rfl)
    | (apply G.lenSlice; rfl; (first | exact Wn.none | exact Wn.some rfl rfl); rfl; rfl)
    | (apply G.indexAddr; rfl; rfl; rfl; omega; (first | exact Wn.none | exact Wn.some rfl rfl); rfl; rfl)
    | (apply G.notT; rfl; (first | exact Wn.none | exact Wn.some rfl rfl); rfl; rfl)
    | (apply G.notF; rfl; (first | exact Wn.none | exact Wn.some rfl rfl); rfl; rfl)
    | (apply G.pickT; rfl; rfl; (first | exact Wn.none | exact Wn.some rfl rfl); rfl; rfl)
    | (apply G.pickF; rfl; rfl; (first | exact Wn.none | exact Wn.some rfl rfl); rfl; rfl)
    | (apply G.lss; rfl; rfl; (first | exact Wn.none | exact Wn.some rfl rfl); rfl; rfl; all_goals intro h; all_goals try (exfalso; omega))
    | (apply G.leq; rfl; rfl; (first | exact Wn.none | exact Wn.some rfl rfl); rfl; rfl; all_goals intro h; all_goals try (exfalso; omega))
    | (apply G.gtr; rfl; rfl; (first | exact Wn.none | exact Wn.some rfl rfl); rfl; rfl; all_goals intro h; all_goals try (exfalso; omega))
    | (apply G.geq; rfl; rfl; (first | exact Wn.none | exact Wn.some rfl rfl); rfl; rfl; all_goals intro h; all_goals try (exfalso; omega))
    | (apply G.eql; rfl; rfl; (first | exact Wn.none | exact Wn.some rfl rfl); rfl; rfl; all_goals intro h; all_goals try (exfalso; omega))
    | (apply G.neq; rfl; rfl; (first | exact Wn.none | exact Wn.some rfl rfl); rfl; rfl; all_goals intro h; all_goals try (exfalso; omega))
    | (apply G.eql2; rfl; rfl; (first | exact Wn.none | exact Wn.some rfl rfl); rfl; rfl; all_goals intro h; all_goals try (exfalso; omega))
    | (apply G.neq2; rfl; rfl; (first | exact Wn.none | exact Wn.some rfl rfl); rfl; rfl; all_goals intro h; all_goals try (exfalso; omega))
    | (apply G.add; rfl; rfl; omega; omega; (first | exact Wn.none | exact Wn.some rfl rfl); rfl; rfl)
    | (apply G.sub; rfl; rfl; omega; omega; (first | exact Wn.none | exact Wn.some rfl rfl); rfl; rfl)
    | (apply G.addW; rfl; rfl; (first | exact Wn.none | exact Wn.some rfl rfl); rfl; rfl)
    | (apply G.subW; rfl; rfl; (first | exact Wn.none | exact Wn.some rfl rfl); rfl; rfl)
    | (apply G.extract; rfl; rfl; (first | exact Wn.none | exact Wn.some rfl rfl); rfl; rfl)
    | (apply G.build; rfl; rfl; (first | exact Wn.none | exact Wn.some rfl rfl); rfl; rfl)
    | (apply G.neg; rfl; omega; omega; (first | exact Wn.none | exact Wn.some rfl rfl); rfl; rfl)
    | (apply G.max2; rfl; rfl; (first | exact Wn.none | exact Wn.some rfl rfl); rfl; rfl)
    | (apply G.min2; rfl; rfl; (first | exact Wn.none | exact Wn.some rfl rfl); rfl; rfl)
    | (apply G.box; (first | exact Wn.none | exact Wn.some rfl rfl); rfl; rfl; rfl; rfl; intro Bk)
    | (apply G.alloc; (first | exact Wn.none | exact Wn.some rfl rfl); rfl; rfl; intro Bk)
    | (apply G.store (i := 0); (first | exact Wn.none | exact Wn.some rfl rfl); rfl; rfl; rfl; rfl; rfl; rfl; rfl; rfl)
    | (apply G.store (i := 1); (first | exact Wn.none | exact Wn.some rfl rfl); rfl; rfl; rfl; rfl; rfl; rfl; rfl; rfl)
    | (apply G.store (i := 2); (first | exact Wn.none | exact Wn.some rfl rfl); rfl; rfl; rfl; rfl; rfl; rfl; rfl; rfl)
    | (apply G.store (i := 3); (first | exact Wn.none | exact Wn.some rfl rfl); rfl; rfl; rfl; rfl; rfl; rfl; rfl; rfl)
    | (apply G.store (i := 4); (first | exact Wn.none | exact Wn.some rfl rfl); rfl; rfl; rfl; rfl; rfl; rfl; rfl; rfl)
    | (apply G.storeSame (i := 0); (first | exact Wn.none | exact Wn.some rfl rfl); rfl; rfl; rfl; rfl; rfl; rfl; rfl; rfl; rfl)
    | (apply G.storeSame (i := 1); (first | exact Wn.none | exact Wn.some rfl rfl); rfl; rfl; rfl; rfl; rfl; rfl; rfl; rfl; rfl)
    | (apply G.storeSame (i := 2); (first | exact Wn.none | exact Wn.some rfl rfl); rfl; rfl; rfl; rfl; rfl; rfl; rfl; rfl; rfl)
    | (apply J.regQ; exact Try.mixed; decide +kernel)
    | apply J.reg)
  all_goals (apply leave Try.func39; (apply RunsTo.one Try.results39; (first | (apply ResV.tmp; rfl) | (apply ResV.cell; rfl; (first | (apply LdV.one; (first | exact CellV.row0 (by assumption) rfl | exact CellV.rowS (by assumption) rfl | exact CellV.blk (.head _) rfl | exact CellV.blk (.tail _ (.head _)) rfl | exact CellV.blk (.tail _ (.tail _ (.head _))) rfl | exact CellV.blk (.tail _ (.tail _ (.tail _ (.head _)))) rfl | exact CellV.blk (.tail _ (.tail _ (.tail _ (.tail _ (.head _))))) rfl | exact CellV.blk (.tail _ (.tail _ (.tail _ (.tail _ (.tail _ (.head _)))))) rfl)) | (apply LdV.aggBlk; (first | exact .head _ | exact .tail _ (.head _) | exact .tail _ (.tail _ (.head _)) | exact .tail _ (.tail _ (.tail _ (.head _))) | exact .tail _ (.tail _ (.tail _ (.tail _ (.head _)))) | exact .tail _ (.tail _ (.tail _ (.tail _ (.tail _ (.head _)))))); rfl) | (apply LdV.aggRow; assumption; rfl))))); intro w' hw; refine ⟨?_, hw.below⟩; clear hw)
  all_goals first | (rw [clipS, if_pos (by omega)]; rfl) | (rw [clipS, if_neg (by omega)]; rfl)
theorem c38 (a b : Int) (w : World) :
    Calls Try.prog 38 #[.int .i64 a, .int .i64 b] w fun e w' => e = .returned (.agg #[.int .i64 (clipS a b).1, .int .i64 (clipS a b).2]) ∧ Below w.heap.size w w' := by
  refine enter [(0, .int .i64 a), (1, .int .i64 b)] Try.func38 rfl Try.ntmps38 (by simp) ⟨rfl, rfl, trivial⟩ ?_
  repeat' (first
    | (apply G.move; rfl; (first | exact Wn.none | exact Wn.some rfl rfl); rfl; rfl)
    | (apply G.assign; rfl; (first | exact Wn.none | exact Wn.some rfl rfl); rfl; rfl)
    | (apply G.fieldAddr; rfl; (first | exact Wn.none | exact Wn.some rfl rfl); rfl; rfl)
    | (apply G.load; rfl; (first | (apply LdV.one; (first | exact CellV.row0 (by assumption) rfl | exact CellV.rowS (by assumption) rfl | exact CellV.blk (.head _) rfl | exact CellV.blk (.tail _ (.head _)) rfl | exact CellV.blk (.tail _ (.tail _ (.head _))) rfl | exact CellV.blk (.tail _ (.tail _ (.tail _ (.head _)))) rfl | exact CellV.blk (.tail _ (.tail _ (.tail _ (.tail _ (.head _))))) rfl | exact CellV.blk (.tail _ (.tail _ (.tail _ (.tail _ (.tail _ (.head _)))))) rfl)) | (apply LdV.aggBlk; (first | exact .head _ | exact .tail _ (.head _) | exact .tail _ (.tail _ (.head _)) | exact .tail _ (.tail _ (.tail _ (.head _))) | exact .tail _ (.tail _ (.tail _ (.tail _ (.head _)))) | exact .tail _ (.tail _ (.tail _ (.tail _ (.tail _ (.head _)))))); rfl) | (apply LdV.aggRow; assumption; rfl)); (first | exact Wn.none | exact Wn.some rfl rfl); rfl; rfl)
    | (apply G.nil; rfl)
    | apply J.seq
    | (apply J.condT; rfl)
    | (apply J.condF; rfl)
    | apply J.skip
    | apply J.block
    | apply J.inBlock
    | (apply J.exit; rfl)
    | (apply G.skip; rfl; rfl; rfl; rfl; rfl)
    | (apply G.lenSlice; rfl; (first | exact Wn.none | exact Wn.some rfl rfl); rfl; rfl)
    | (apply G.indexAddr; rfl; rfl; rfl; omega; (first | exact Wn.none | exact Wn.some rfl rfl); rfl; rfl)
    | (apply G.notT; rfl; (first | exact Wn.none | exact Wn.some rfl rfl); rfl; rfl)
    | (apply G.notF; rfl; (first | exact Wn.none | exact Wn.some rfl rfl); rfl; rfl)
    | (apply G.pickT; rfl; rfl; (first | exact Wn.none | exact Wn.some rfl rfl); rfl; rfl)
    | (apply G.pickF; rfl; rfl; (first | exact Wn.none | exact Wn.some rfl rfl); rfl; rfl)
    | (apply G.lss; rfl; rfl; (first | exact Wn.none | exact Wn.some rfl rfl); rfl; rfl; all_goals intro h; all_goals try (exfalso; omega))
    | (apply G.leq; rfl; rfl; (first | exact Wn.none | exact Wn.some rfl rfl); rfl; rfl; all_goals intro h; all_goals try (exfalso; omega))
    | (apply G.gtr; rfl; rfl; (first | exact Wn.none | exact Wn.some rfl rfl); rfl; rfl; all_goals intro h; all_goals try (exfalso; omega))
    | (apply G.geq; rfl; rfl; (first | exact Wn.none | exact Wn.some rfl rfl); rfl; rfl; all_goals intro h; all_goals try (exfalso; omega))
    | (apply G.eql; rfl; rfl; (first | exact Wn.none | exact Wn.some rfl rfl); rfl; rfl; all_goals intro h; all_goals try (exfalso; omega))
    | (apply G.neq; rfl; rfl; (first | exact Wn.none | exact Wn.some rfl rfl); rfl; rfl; all_goals intro h; all_goals try (exfalso; omega))
    | (apply G.eql2; rfl; rfl; (first | exact Wn.none | exact Wn.some rfl rfl); rfl; rfl; all_goals intro h; all_goals try (exfalso; omega))
    | (apply G.neq2; rfl; rfl; (first | exact Wn.none | exact Wn.some rfl rfl); rfl; rfl; all_goals intro h; all_goals try (exfalso; omega))
    | (apply G.add; rfl; rfl; omega; omega; (first | exact Wn.none | exact Wn.some rfl rfl); rfl; rfl)
    | (apply G.sub; rfl; rfl; omega; omega; (first | exact Wn.none | exact Wn.some rfl rfl); rfl; rfl)
    | (apply G.addW; rfl; rfl; (first | exact Wn.none | exact Wn.some rfl rfl); rfl; rfl)
    | (apply G.subW; rfl; rfl; (first | exact Wn.none | exact Wn.some rfl rfl); rfl; rfl)
    | (apply G.extract; rfl; rfl; (first | exact Wn.none | exact Wn.some rfl rfl); rfl; rfl)
    | (apply G.build; rfl; rfl; (first | exact Wn.none | exact Wn.some rfl rfl); rfl; rfl)
    | (apply G.neg; rfl; omega; omega; (first | exact Wn.none | exact Wn.some rfl rfl); rfl; rfl)
    | (apply G.max2; rfl; rfl; (first | exact Wn.none | exact Wn.some rfl rfl); rfl; rfl)
    | (apply G.min2; rfl; rfl; (first | exact Wn.none | exact Wn.some rfl rfl); rfl; rfl)
    | (apply G.box; (first | exact Wn.none | exact Wn.some rfl rfl); rfl; rfl; rfl; rfl; intro Bk)
    | (apply G.alloc; (first | exact Wn.none | exact Wn.some rfl rfl); rfl; rfl; intro Bk)
    | (apply G.store (i := 0); (first | exact Wn.none | exact Wn.some rfl rfl); rfl; rfl; rfl; rfl; rfl; rfl; rfl; rfl)
    | (apply G.store (i := 1); (first | exact Wn.none | exact Wn.some rfl rfl); rfl; rfl; rfl; rfl; rfl; rfl; rfl; rfl)
    | (apply G.store (i := 2); (first | exact Wn.none | exact Wn.some rfl rfl); rfl; rfl; rfl; rfl; rfl; rfl; rfl; rfl)
    | (apply G.store (i := 3); (first | exact Wn.none | exact Wn.some rfl rfl); rfl; rfl; rfl; rfl; rfl; rfl; rfl; rfl)
    | (apply G.store (i := 4); (first | exact Wn.none | exact Wn.some rfl rfl); rfl; rfl; rfl; rfl; rfl; rfl; rfl; rfl)
    | (apply G.storeSame (i := 0); (first | exact Wn.none | exact Wn.some rfl rfl); rfl; rfl; rfl; rfl; rfl; rfl; rfl; rfl; rfl)
    | (apply G.storeSame (i := 1); (first | exact Wn.none | exact Wn.some rfl rfl); rfl; rfl; rfl; rfl; rfl; rfl; rfl; rfl; rfl)
    | (apply G.storeSame (i := 2); (first | exact Wn.none | exact Wn.some rfl rfl); rfl; rfl; rfl; rfl; rfl; rfl; rfl; rfl; rfl)
    | (apply J.regQ; exact Try.mixed; decide +kernel)
    | apply J.reg)
  all_goals (apply leave Try.func38; (apply RunsTo.one Try.results38; (first | (apply ResV.tmp; rfl) | (apply ResV.cell; rfl; (first | (apply LdV.one; (first | exact CellV.row0 (by assumption) rfl | exact CellV.rowS (by assumption) rfl | exact CellV.blk (.head _) rfl | exact CellV.blk (.tail _ (.head _)) rfl | exact CellV.blk (.tail _ (.tail _ (.head _))) rfl | exact CellV.blk (.tail _ (.tail _ (.tail _ (.head _)))) rfl | exact CellV.blk (.tail _ (.tail _ (.tail _ (.tail _ (.head _))))) rfl | exact CellV.blk (.tail _ (.tail _ (.tail _ (.tail _ (.tail _ (.head _)))))) rfl)) | (apply LdV.aggBlk; (first | exact .head _ | exact .tail _ (.head _) | exact .tail _ (.tail _ (.head _)) | exact .tail _ (.tail _ (.tail _ (.head _))) | exact .tail _ (.tail _ (.tail _ (.tail _ (.head _)))) | exact .tail _ (.tail _ (.tail _ (.tail _ (.tail _ (.head _)))))); rfl) | (apply LdV.aggRow; assumption; rfl))))); intro w' hw; refine ⟨?_, hw.below⟩; clear hw)
  all_goals first | (rw [clipS, if_pos (by omega)]; rfl) | (rw [clipS, if_neg (by omega)]; rfl)
end Go.Proofs.Ytjfbdffcgapdlaa
