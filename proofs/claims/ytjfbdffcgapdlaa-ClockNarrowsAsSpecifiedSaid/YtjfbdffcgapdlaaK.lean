/-
  Contracts of the clock layer's iterators: edges, its rounds, settle, solve.
-/
import Derived.Test.YtjfbdffcgapdlaaI
import Derived.Test.YtjfbdffcgapdlaaIu

namespace Go.Proofs.Ytjfbdffcgapdlaa
open Go.RowKit Go.Sl


/-- A constraint: from, to, by. -/
abbrev Ed := Nat × Nat × Int
def edV (e : Ed) : List Value := [.int .i64 e.1, .int .i64 e.2.1, .int .i64 e.2.2]

theorem c42 (n : Int) (e : Ed) (w : World) (h1 : -9000000000000000 ≤ n) (h2 : n ≤ 9000000000000000) (h3 : -9000000000 ≤ e.2.2) (h4 : e.2.2 ≤ 9000000000) :
    Calls Try.prog 42 #[.int .i64 n, .agg (edV e).toArray] w fun r w' => r = .returned (.int .i64 (n + e.2.2)) ∧ Below w.heap.size w w' := by
  refine enter [(0, .int .i64 n), (1, .agg (edV e).toArray)] Try.func42 rfl Try.ntmps42 (by simp) ⟨rfl, rfl, trivial⟩ ?_
  repeat' (first
    | (apply G.move; rfl; (first | exact Wn.none | exact Wn.some rfl rfl); rfl; rfl)
    | (apply G.assign; rfl; (first | exact Wn.none | exact Wn.some rfl rfl); rfl; rfl)
    | (apply G.fieldAddr; rfl; (first | exact Wn.none | exact Wn.some rfl rfl); rfl; rfl)
    | (apply G.load; rfl; (first | (apply LdV.one; (first | exact CellV.row0 (by assumption) rfl | exact CellV.rowS (by assumption) rfl | exact CellV.blk (.head _) rfl | exact CellV.blk (.tail _ (.head _)) rfl | exact CellV.blk (.tail _ (.tail _ (.head _))) rfl | exact CellV.blk (.tail _ (.tail _ (.tail _ (.head _)))) rfl | exact CellV.blk (.tail _ (.tail _ (.tail _ (.tail _ (.head _))))) rfl | exact CellV.blk (.tail _ (.tail _ (.tail _ (.tail _ (.tail _ (.head _)))))) rfl)) | (apply LdV.aggBlk; (first | exact .head _ | exact .tail _ (.head _) | exact .tail _ (.tail _ (.head _)) | exact .tail _ (.tail _ (.tail _ (.head _))) | exact .tail _ (.tail _ (.tail _ (.tail _ (.head _)))) | exact .tail _ (.tail _ (.tail _ (.tail _ (.tail _ (.head _)))))); rfl) | (apply LdV.aggRow; assumption; rfl)); (first | exact Wn.none | exact Wn.some rfl rfl); rfl; rfl)
    | (apply G.nil; rfl)
    | apply J.seq
    | (apply J.condT; rfl)
    | (apply J.condF; rfl)
    | apply J.skip
    | apply J.block
    | apply J.inBlock
    | (apply J.exit; rfl)
    | (apply G.skip; rfl; rfl; rfl; rfl; rfl)
    | (apply G.lenSlice; rfl; (first | exact Wn.none | exact Wn.some rfl rfl); rfl; rfl)
    | (apply G.indexAddr; rfl; rfl; rfl; omega; (first | exact Wn.none | exact Wn.some rfl rfl); rfl; rfl)
    | (apply G.notT; rfl; (first | exact Wn.none | exact Wn.some rfl rfl); rfl; rfl)
    | (apply G.notF; rfl; (first | exact Wn.none | exact Wn.some rfl rfl); rfl; rfl)
    | (apply G.pickT; rfl; rfl; (first | exact Wn.none | exact Wn.some rfl rfl); rfl; rfl)
    | (apply G.pickF; rfl; rfl; (first | exact Wn.none | exact Wn.some rfl rfl); rfl; rfl)
    | (apply G.lss; rfl; rfl; (first | exact Wn.none | exact Wn.some rfl rfl); rfl; rfl; all_goals intro h; all_goals try (exfalso; omega))
    | (apply G.leq; rfl; rfl; (first | exact Wn.none | exact Wn.some rfl rfl); rfl; rfl; all_goals intro h; all_goals try (exfalso; omega))
    | (apply G.gtr; rfl; rfl; (first | exact Wn.none | exact Wn.some rfl rfl); rfl; rfl; all_goals intro h; all_goals try (exfalso; omega))
    | (apply G.geq; rfl; rfl; (first | exact Wn.none | exact Wn.some rfl rfl); rfl; rfl; all_goals intro h; all_goals try (exfalso; omega))
    | (apply G.eql; rfl; rfl; (first | exact Wn.none | exact Wn.some rfl rfl); rfl; rfl; all_goals intro h; all_goals try (exfalso; omega))
    | (apply G.neq; rfl; rfl; (first | exact Wn.none | exact Wn.some rfl rfl); rfl; rfl; all_goals intro h; all_goals try (exfalso; omega))
    | (apply G.eql2; rfl; rfl; (first | exact Wn.none | exact Wn.some rfl rfl); rfl; rfl; all_goals intro h; all_goals try (exfalso; omega))
    | (apply G.neq2; rfl; rfl; (first | exact Wn.none | exact Wn.some rfl rfl); rfl; rfl; all_goals intro h; all_goals try (exfalso; omega))
    | (apply G.add; rfl; rfl; omega; omega; (first | exact Wn.none | exact Wn.some rfl rfl); rfl; rfl)
    | (apply G.sub; rfl; rfl; omega; omega; (first | exact Wn.none | exact Wn.some rfl rfl); rfl; rfl)
    | (apply G.addW; rfl; rfl; (first | exact Wn.none | exact Wn.some rfl rfl); rfl; rfl)
    | (apply G.subW; rfl; rfl; (first | exact Wn.none | exact Wn.some rfl rfl); rfl; rfl)
    | (apply G.extract; rfl; rfl; (first | exact Wn.none | exact Wn.some rfl rfl); rfl; rfl)
    | (apply G.build; rfl; rfl; (first | exact Wn.none | exact Wn.some rfl rfl); rfl; rfl)
    | (apply G.neg; rfl; omega; omega; (first | exact Wn.none | exact Wn.some rfl rfl); rfl; rfl)
    | (apply G.max2; rfl; rfl; (first | exact Wn.none | exact Wn.some rfl rfl); rfl; rfl)
    | (apply G.min2; rfl; rfl; (first | exact Wn.none | exact Wn.some rfl rfl); rfl; rfl)
    | (apply G.box; (first | exact Wn.none | exact Wn.some rfl rfl); rfl; rfl; rfl; rfl; intro Bk)
    | (apply G.alloc; (first | exact Wn.none | exact Wn.some rfl rfl); rfl; rfl; intro Bk)
    | (apply G.store (i := 0); (first | exact Wn.none | exact Wn.some rfl rfl); rfl; rfl; rfl; rfl; rfl; rfl; rfl; rfl)
    | (apply G.store (i := 1); (first | exact Wn.none | exact Wn.some rfl rfl); rfl; rfl; rfl; rfl; rfl; rfl; rfl; rfl)
    | (apply G.store (i := 2); (first | exact Wn.none | exact Wn.some rfl rfl); rfl; rfl; rfl; rfl; rfl; rfl; rfl; rfl)
    | (apply G.store (i := 3); (first | exact Wn.none | exact Wn.some rfl rfl); rfl; rfl; rfl; rfl; rfl; rfl; rfl; rfl)
    | (apply G.store (i := 4); (first | exact Wn.none | exact Wn.some rfl rfl); rfl; rfl; rfl; rfl; rfl; rfl; rfl; rfl)
    | (apply G.storeSame (i := 0); (first | exact Wn.none | exact Wn.some rfl rfl); rfl; rfl; rfl; rfl; rfl; rfl; rfl; rfl; rfl)
    | (apply G.storeSame (i := 1); (first | exact Wn.none | exact Wn.some rfl rfl); rfl; rfl; rfl; rfl; rfl; rfl; rfl; rfl; rfl)
    | (apply G.storeSame (i := 2); (first | exact Wn.none | exact Wn.some rfl rfl); rfl; rfl; rfl; rfl; rfl; rfl; rfl; rfl; rfl)
    | (apply J.regQ; exact Try.mixed; decide +kernel)
    | apply J.reg)
  all_goals (apply leave Try.func42; (apply RunsTo.one Try.results42; (first | (apply ResV.tmp; rfl) | (apply ResV.cell; rfl; (first | (apply LdV.one; (first | exact CellV.row0 (by assumption) rfl | exact CellV.rowS (by assumption) rfl | exact CellV.blk (.head _) rfl | exact CellV.blk (.tail _ (.head _)) rfl | exact CellV.blk (.tail _ (.tail _ (.head _))) rfl | exact CellV.blk (.tail _ (.tail _ (.tail _ (.head _)))) rfl | exact CellV.blk (.tail _ (.tail _ (.tail _ (.tail _ (.head _))))) rfl | exact CellV.blk (.tail _ (.tail _ (.tail _ (.tail _ (.tail _ (.head _)))))) rfl)) | (apply LdV.aggBlk; (first | exact .head _ | exact .tail _ (.head _) | exact .tail _ (.tail _ (.head _)) | exact .tail _ (.tail _ (.tail _ (.head _))) | exact .tail _ (.tail _ (.tail _ (.tail _ (.head _)))) | exact .tail _ (.tail _ (.tail _ (.tail _ (.tail _ (.head _)))))); rfl) | (apply LdV.aggRow; assumption; rfl))))); intro w' hw; refine ⟨?_, hw.below⟩; clear hw)
  rfl
theorem c41 (sk ev : Value) (w : World) :
    Calls Try.prog 41 #[.agg #[sk, ev]] w fun r w' => ∃ B, r = .returned (.func (.func 47) #[] #[.pointer (some ⟨B, 0, none⟩)]) ∧ RowAt w' B 0 [sk, ev] ∧ w.heap.size ≤ B ∧ Below w.heap.size w w' := by
  refine enter [(0, .agg #[sk, ev])] Try.func41 rfl Try.ntmps41 (by simp) ⟨rfl, trivial⟩ ?_
  repeat' (first
    | (apply G.makeFunc; rfl; (first | exact Wn.none | exact Wn.some rfl rfl); rfl; rfl)
    | (apply G.move; rfl; (first | exact Wn.none | exact Wn.some rfl rfl); rfl; rfl)
    | (apply G.assign; rfl; (first | exact Wn.none | exact Wn.some rfl rfl); rfl; rfl)
    | (apply G.fieldAddr; rfl; (first | exact Wn.none | exact Wn.some rfl rfl); rfl; rfl)
    | (apply G.load; rfl; (first | (apply LdV.one; (first | exact CellV.row0 (by assumption) rfl | exact CellV.rowS (by assumption) rfl | exact CellV.blk (.head _) rfl | exact CellV.blk (.tail _ (.head _)) rfl | exact CellV.blk (.tail _ (.tail _ (.head _))) rfl | exact CellV.blk (.tail _ (.tail _ (.tail _ (.head _)))) rfl | exact CellV.blk (.tail _ (.tail _ (.tail _ (.tail _ (.head _))))) rfl | exact CellV.blk (.tail _ (.tail _ (.tail _ (.tail _ (.tail _ (.head _)))))) rfl)) | (apply LdV.aggBlk; (first | exact .head _ | exact .tail _ (.head _) | exact .tail _ (.tail _ (.head _)) | exact .tail _ (.tail _ (.tail _ (.head _))) | exact .tail _ (.tail _ (.tail _ (.tail _ (.head _)))) | exact .tail _ (.tail _ (.tail _ (.tail _ (.tail _ (.head _)))))); rfl) | (apply LdV.aggRow; assumption; rfl)); (first | exact Wn.none | exact Wn.some rfl rfl); rfl; rfl)
    | (apply G.nil; rfl)
    | apply J.seq
    | (apply J.condT; rfl)
    | (apply J.condF; rfl)
    | apply J.skip
    | apply J.block
    | apply J.inBlock
    | (apply J.exit; rfl)
    | (apply G.skip; rfl; rfl; rfl; rfl; rfl)
    | (apply G.lenSlice; rfl; (first | exact Wn.none | exact Wn.some rfl rfl); rfl; rfl)
    | (apply G.indexAddr; rfl; rfl; rfl; omega; (first | exact Wn.none | exact Wn.some rfl rfl); rfl; rfl)
    | (apply G.notT; rfl; (first | exact Wn.none | exact Wn.some rfl rfl); rfl; rfl)
    | (apply G.notF; rfl; (first | exact Wn.none | exact Wn.some rfl rfl); rfl; rfl)
    | (apply G.pickT; rfl; rfl; (first | exact Wn.none | exact Wn.some rfl rfl); rfl; rfl)
    | (apply G.pickF; rfl; rfl; (first | exact Wn.none | exact Wn.some rfl rfl); rfl; rfl)
    | (apply G.lss; rfl; rfl; (first | exact Wn.none | exact Wn.some rfl rfl); rfl; rfl; all_goals intro h; all_goals try (exfalso; omega))
    | (apply G.leq; rfl; rfl; (first | exact Wn.none | exact Wn.some rfl rfl); rfl; rfl; all_goals intro h; all_goals try (exfalso; omega))
    | (apply G.gtr; rfl; rfl; (first | exact Wn.none | exact Wn.some rfl rfl); rfl; rfl; all_goals intro h; all_goals try (exfalso; omega))
    | (apply G.geq; rfl; rfl; (first | exact Wn.none | exact Wn.some rfl rfl); rfl; rfl; all_goals intro h; all_goals try (exfalso; omega))
    | (apply G.eql; rfl; rfl; (first | exact Wn.none | exact Wn.some rfl rfl); rfl; rfl; all_goals intro h; all_goals try (exfalso; omega))
    | (apply G.neq; rfl; rfl; (first | exact Wn.none | exact Wn.some rfl rfl); rfl; rfl; all_goals intro h; all_goals try (exfalso; omega))
    | (apply G.eql2; rfl; rfl; (first | exact Wn.none | exact Wn.some rfl rfl); rfl; rfl; all_goals intro h; all_goals try (exfalso; omega))
    | (apply G.neq2; rfl; rfl; (first | exact Wn.none | exact Wn.some rfl rfl); rfl; rfl; all_goals intro h; all_goals try (exfalso; omega))
    | (apply G.add; rfl; rfl; omega; omega; (first | exact Wn.none | exact Wn.some rfl rfl); rfl; rfl)
    | (apply G.sub; rfl; rfl; omega; omega; (first | exact Wn.none | exact Wn.some rfl rfl); rfl; rfl)
    | (apply G.addW; rfl; rfl; (first | exact Wn.none | exact Wn.some rfl rfl); rfl; rfl)
    | (apply G.subW; rfl; rfl; (first | exact Wn.none | exact Wn.some rfl rfl); rfl; rfl)
    | (apply G.extract; rfl; rfl; (first | exact Wn.none | exact Wn.some rfl rfl); rfl; rfl)
    | (apply G.build; rfl; rfl; (first | exact Wn.none | exact Wn.some rfl rfl); rfl; rfl)
    | (apply G.neg; rfl; omega; omega; (first | exact Wn.none | exact Wn.some rfl rfl); rfl; rfl)
    | (apply G.max2; rfl; rfl; (first | exact Wn.none | exact Wn.some rfl rfl); rfl; rfl)
    | (apply G.min2; rfl; rfl; (first | exact Wn.none | exact Wn.some rfl rfl); rfl; rfl)
    | (apply G.box; (first | exact Wn.none | exact Wn.some rfl rfl); rfl; rfl; rfl; rfl; intro Bk)
    | (apply G.alloc; (first | exact Wn.none | exact Wn.some rfl rfl); rfl; rfl; intro Bk)
    | (apply G.store (i := 0); (first | exact Wn.none | exact Wn.some rfl rfl); rfl; rfl; rfl; rfl; rfl; rfl; rfl; rfl)
    | (apply G.store (i := 1); (first | exact Wn.none | exact Wn.some rfl rfl); rfl; rfl; rfl; rfl; rfl; rfl; rfl; rfl)
    | (apply G.store (i := 2); (first | exact Wn.none | exact Wn.some rfl rfl); rfl; rfl; rfl; rfl; rfl; rfl; rfl; rfl)
    | (apply G.store (i := 3); (first | exact Wn.none | exact Wn.some rfl rfl); rfl; rfl; rfl; rfl; rfl; rfl; rfl; rfl)
    | (apply G.store (i := 4); (first | exact Wn.none | exact Wn.some rfl rfl); rfl; rfl; rfl; rfl; rfl; rfl; rfl; rfl)
    | (apply G.storeSame (i := 0); (first | exact Wn.none | exact Wn.some rfl rfl); rfl; rfl; rfl; rfl; rfl; rfl; rfl; rfl; rfl)
    | (apply G.storeSame (i := 1); (first | exact Wn.none | exact Wn.some rfl rfl); rfl; rfl; rfl; rfl; rfl; rfl; rfl; rfl; rfl)
    | (apply G.storeSame (i := 2); (first | exact Wn.none | exact Wn.some rfl rfl); rfl; rfl; rfl; rfl; rfl; rfl; rfl; rfl; rfl)
    | (apply J.regQ; exact Try.mixed; decide +kernel)
    | apply J.reg)
  (apply leave Try.func41; (apply RunsTo.one Try.results41; (first | (apply ResV.tmp; rfl) | (apply ResV.cell; rfl; (first | (apply LdV.one; (first | exact CellV.row0 (by assumption) rfl | exact CellV.rowS (by assumption) rfl | exact CellV.blk (.head _) rfl | exact CellV.blk (.tail _ (.head _)) rfl | exact CellV.blk (.tail _ (.tail _ (.head _))) rfl | exact CellV.blk (.tail _ (.tail _ (.tail _ (.head _)))) rfl | exact CellV.blk (.tail _ (.tail _ (.tail _ (.tail _ (.head _))))) rfl | exact CellV.blk (.tail _ (.tail _ (.tail _ (.tail _ (.tail _ (.head _)))))) rfl)) | (apply LdV.aggBlk; (first | exact .head _ | exact .tail _ (.head _) | exact .tail _ (.tail _ (.head _)) | exact .tail _ (.tail _ (.tail _ (.head _))) | exact .tail _ (.tail _ (.tail _ (.tail _ (.head _)))) | exact .tail _ (.tail _ (.tail _ (.tail _ (.tail _ (.head _)))))); rfl) | (apply LdV.aggRow; assumption; rfl))))); intro w' hw)
  refine ⟨Bk, rfl, ?_, ((hw.old _ (.head _)).2 Bk rfl).1, hw.below⟩
  exact ⟨((hw.old _ (.head _)).2 Bk rfl).2, fun j v hv => by rw [Nat.zero_add]; exact hw.cellBlk (.head _) hv⟩

theorem enterM {P : Program} {F : FuncId} {fn : Func} {c : Code} {args : Array Value} {w w0 : World} {M : List Row} {R : Ending → World → Prop} {N : Nat} (st : List (Nat × Value)) (hw : Sat w0 M w) (hf : P.funcs[F]? = some fn) (hb : fn.body = some c) (hN : fn.ntmps = N) (ha : (args.size ≤ N) = True)
    (hst : ArgsOk args st) (h : J (fctx P F N R w0) st M [.code c]) : Calls P F args w R := by
  intro cs
  have ha' : args.size ≤ N := of_eq_true ha
  have henter : Frame.enter P F args .normal = (fctx P F N R w0).b.atR { tmps := args ++ Array.replicate (N - args.size) undef, defers := [] } [.code c] := by
    simp [Frame.enter, Frame.atR, hf, hb, hN, fctx]
    rfl
  obtain ⟨m, h1, v, w', fr, h2, rfl, h3, h4⟩ := h.go { tmps := args ++ Array.replicate (N - args.size) undef, defers := [] } w
    ⟨by simp; omega, fun t v hv => by
      have := hst.get t v hv
      have ht := (Array.getElem?_eq_some_iff.1 this).1
      rw [Array.getElem?_append_left ht]; exact this⟩ rfl hw cs
  rw [← henter] at h1
  exact ⟨.returned v, w', fr, h2, h1, h3, h4⟩

def okEd (n : Nat) (e : Ed) : Prop := e.1 < n ∧ e.2.1 < n ∧ -9000000 ≤ e.2.2 ∧ e.2.2 ≤ 9000000
def edS (x : Ev) : List Ed := [(x.A.toNat, x.B.toNat, x.Lo - (x.Bt - x.At)), (x.B.toNat, x.A.toNat, (x.Bt - x.At) - x.Hi)]
def edgesS (ev : List Ev) : List Ed := ev.flatMap edS

abbrev capRow (w0 : World) (B : Nat) (sk ev : Value) : Row := slRow w0.heap.size (some ⟨B, 0, none⟩) 2 ([[sk, ev]].map id)

theorem edS_get : ∀ {ev : List Ev} {k : Nat} (h : k < ev.length), (edgesS ev)[2 * k]? = (edS ev[k])[0]? ∧ (edgesS ev)[2 * k + 1]? = (edS ev[k])[1]?
  | x :: r, 0, h => ⟨rfl, rfl⟩
  | x :: r, k + 1, h => by
    have := edS_get (ev := r) (k := k) (by simpa using h)
    exact this
theorem edS_len : ∀ (ev : List Ev), (edgesS ev).length = 2 * ev.length
  | [] => rfl
  | x :: r => by
    have := edS_len r
    show (edS x ++ edgesS r).length = _
    rw [List.length_append, this]; simp [edS]; omega
abbrev edA (e : Ed) : Value := .agg (edV e).toArray
theorem c47 (w0 : World) (n : Nat) (B : Nat) (sk : Value) (b : Option Addr) (ev : List Ev) (d : Nat) (hB : SlAt w0 b 6 (ev.map evV)) (hx : ∀ x ∈ ev, evErr x n = 0) (hm : ev.length ≤ 200) :
    IterF Try.prog w0 [capRow w0 B sk (.slice b ev.length d)] 47 #[.pointer (some ⟨B, 0, none⟩)] edA (edgesS ev) := by
  intro X R stp Inv fY cY hY x0 hI M1 w hw
  show Calls Try.prog 47 #[.func fY #[] cY, .pointer (some ⟨B, 0, none⟩)] w _
  generalize hYv : Value.func fY #[] cY = Y at *
  clear hYv
  refine enterM [(0, Y), (1, .pointer (some ⟨B, 0, none⟩))] hw Try.func47 rfl Try.ntmps47 (by simp) ⟨rfl, rfl, trivial⟩ ?_
  repeat' (first
    | (apply G.load; rfl; (apply LdV.one; exact CellV.sl (l := [[sk, .slice b ev.length d]]) (f := id) (i := 0) (j := 1) (.head _) (by simp) rfl); (first | exact Wn.none | exact Wn.some rfl rfl); rfl; rfl)
    | (apply G.move; rfl; (first | exact Wn.none | exact Wn.some rfl rfl); rfl; rfl)
    | (apply G.assign; rfl; (first | exact Wn.none | exact Wn.some rfl rfl); rfl; rfl)
    | (apply G.fieldAddr; rfl; (first | exact Wn.none | exact Wn.some rfl rfl); rfl; rfl)
    | (apply G.load; rfl; (first | (apply LdV.one; (first | exact CellV.row0 (by assumption) rfl | exact CellV.rowS (by assumption) rfl | exact CellV.blk (.head _) rfl | exact CellV.blk (.tail _ (.head _)) rfl | exact CellV.blk (.tail _ (.tail _ (.head _))) rfl | exact CellV.blk (.tail _ (.tail _ (.tail _ (.head _)))) rfl | exact CellV.blk (.tail _ (.tail _ (.tail _ (.tail _ (.head _))))) rfl | exact CellV.blk (.tail _ (.tail _ (.tail _ (.tail _ (.tail _ (.head _)))))) rfl)) | (apply LdV.aggBlk; (first | exact .head _ | exact .tail _ (.head _) | exact .tail _ (.tail _ (.head _)) | exact .tail _ (.tail _ (.tail _ (.head _))) | exact .tail _ (.tail _ (.tail _ (.tail _ (.head _)))) | exact .tail _ (.tail _ (.tail _ (.tail _ (.tail _ (.head _)))))); rfl) | (apply LdV.aggRow; assumption; rfl)); (first | exact Wn.none | exact Wn.some rfl rfl); rfl; rfl)
    | (apply G.nil; rfl)
    | apply J.seq
    | (apply J.condT; rfl)
    | (apply J.condF; rfl)
    | apply J.skip
    | apply J.block
    | apply J.inBlock
    | (apply J.exit; rfl)
    | (apply G.skip; rfl; rfl; rfl; rfl; rfl)
    | (apply G.lenSlice; rfl; (first | exact Wn.none | exact Wn.some rfl rfl); rfl; rfl)
    | (apply G.indexAddr; rfl; rfl; rfl; omega; (first | exact Wn.none | exact Wn.some rfl rfl); rfl; rfl)
    | (apply G.notT; rfl; (first | exact Wn.none | exact Wn.some rfl rfl); rfl; rfl)
    | (apply G.notF; rfl; (first | exact Wn.none | exact Wn.some rfl rfl); rfl; rfl)
    | (apply G.pickT; rfl; rfl; (first | exact Wn.none | exact Wn.some rfl rfl); rfl; rfl)
    | (apply G.pickF; rfl; rfl; (first | exact Wn.none | exact Wn.some rfl rfl); rfl; rfl)
    | (apply G.lss; rfl; rfl; (first | exact Wn.none | exact Wn.some rfl rfl); rfl; rfl; all_goals intro h; all_goals try (exfalso; omega))
    | (apply G.leq; rfl; rfl; (first | exact Wn.none | exact Wn.some rfl rfl); rfl; rfl; all_goals intro h; all_goals try (exfalso; omega))
    | (apply G.gtr; rfl; rfl; (first | exact Wn.none | exact Wn.some rfl rfl); rfl; rfl; all_goals intro h; all_goals try (exfalso; omega))
    | (apply G.geq; rfl; rfl; (first | exact Wn.none | exact Wn.some rfl rfl); rfl; rfl; all_goals intro h; all_goals try (exfalso; omega))
    | (apply G.eql; rfl; rfl; (first | exact Wn.none | exact Wn.some rfl rfl); rfl; rfl; all_goals intro h; all_goals try (exfalso; omega))
    | (apply G.neq; rfl; rfl; (first | exact Wn.none | exact Wn.some rfl rfl); rfl; rfl; all_goals intro h; all_goals try (exfalso; omega))
    | (apply G.eql2; rfl; rfl; (first | exact Wn.none | exact Wn.some rfl rfl); rfl; rfl; all_goals intro h; all_goals try (exfalso; omega))
    | (apply G.neq2; rfl; rfl; (first | exact Wn.none | exact Wn.some rfl rfl); rfl; rfl; all_goals intro h; all_goals try (exfalso; omega))
    | (apply G.add; rfl; rfl; omega; omega; (first | exact Wn.none | exact Wn.some rfl rfl); rfl; rfl)
    | (apply G.sub; rfl; rfl; omega; omega; (first | exact Wn.none | exact Wn.some rfl rfl); rfl; rfl)
    | (apply G.addW; rfl; rfl; (first | exact Wn.none | exact Wn.some rfl rfl); rfl; rfl)
    | (apply G.subW; rfl; rfl; (first | exact Wn.none | exact Wn.some rfl rfl); rfl; rfl)
    | (apply G.extract; rfl; rfl; (first | exact Wn.none | exact Wn.some rfl rfl); rfl; rfl)
    | (apply G.build; rfl; rfl; (first | exact Wn.none | exact Wn.some rfl rfl); rfl; rfl)
    | (apply G.neg; rfl; omega; omega; (first | exact Wn.none | exact Wn.some rfl rfl); rfl; rfl)
    | (apply G.max2; rfl; rfl; (first | exact Wn.none | exact Wn.some rfl rfl); rfl; rfl)
    | (apply G.min2; rfl; rfl; (first | exact Wn.none | exact Wn.some rfl rfl); rfl; rfl)
    | (apply G.box; (first | exact Wn.none | exact Wn.some rfl rfl); rfl; rfl; rfl; rfl; intro Bk)
    | (apply G.alloc; (first | exact Wn.none | exact Wn.some rfl rfl); rfl; rfl; intro Bk)
    | (apply G.store (i := 0); (first | exact Wn.none | exact Wn.some rfl rfl); rfl; rfl; rfl; rfl; rfl; rfl; rfl; rfl)
    | (apply G.store (i := 1); (first | exact Wn.none | exact Wn.some rfl rfl); rfl; rfl; rfl; rfl; rfl; rfl; rfl; rfl)
    | (apply G.store (i := 2); (first | exact Wn.none | exact Wn.some rfl rfl); rfl; rfl; rfl; rfl; rfl; rfl; rfl; rfl)
    | (apply G.store (i := 3); (first | exact Wn.none | exact Wn.some rfl rfl); rfl; rfl; rfl; rfl; rfl; rfl; rfl; rfl)
    | (apply G.store (i := 4); (first | exact Wn.none | exact Wn.some rfl rfl); rfl; rfl; rfl; rfl; rfl; rfl; rfl; rfl)
    | (apply G.storeSame (i := 0); (first | exact Wn.none | exact Wn.some rfl rfl); rfl; rfl; rfl; rfl; rfl; rfl; rfl; rfl; rfl)
    | (apply G.storeSame (i := 1); (first | exact Wn.none | exact Wn.some rfl rfl); rfl; rfl; rfl; rfl; rfl; rfl; rfl; rfl; rfl)
    | (apply G.storeSame (i := 2); (first | exact Wn.none | exact Wn.some rfl rfl); rfl; rfl; rfl; rfl; rfl; rfl; rfl; rfl; rfl)
    | (apply J.regQ; exact Try.mixed; decide +kernel)
    | apply J.reg)
  have hcY : ∀ i x (e : Ed), Inv i x → (edgesS ev)[i]? = some e → ∀ (own : List Row) w, Sat w0 (own ++ (capRow w0 B sk (.slice b ev.length d) :: (R x ++ M1))) w → CallsV Try.prog Y [edA e] w fun v w' => ∃ _ : PLift (Inv (i + 1) (stp x e)), v = .bool true ∧ Sat w0 (own ++ (capRow w0 B sk (.slice b ev.length d) :: (R (stp x e) ++ M1))) w' := by
    intro i x e h1 h2 own w hw
    have hp : ∀ x, (own ++ (capRow w0 B sk (.slice b ev.length d) :: (R x ++ M1))).Perm (R x ++ (own ++ (capRow w0 B sk (.slice b ev.length d) :: M1))) := fun x =>
      perm_cat [own, [capRow w0 B sk (.slice b ev.length d)], R x, M1] [0, 1, 2, 3] [2, 0, 1, 3] rfl
    exact (hY i x e h1 h2 _ w (hw.perm (hp x))).mono fun v w' ⟨q1, q2, q3⟩ => ⟨⟨q2⟩, q1, q3.perm (hp _).symm⟩
  refine J.loop (c := _) ((0, x0) : Nat × X) (fun x => ev.length - x.1) (fun x => [(0, Y), (7, .slice b ev.length d), (8, .int .i64 ev.length), (9, .int .i64 x.1)]) (fun x => (capRow w0 B sk (.slice b ev.length d) :: (R x.2 ++ M1))) (fun x => x.1 ≤ ev.length ∧ Inv (2 * x.1) x.2 ∧ (edgesS (ev.drop x.1)).foldl stp x.2 = (edgesS ev).foldl stp x0) ?_ (by (repeat' (first | exact trivial | refine ⟨rfl, ?_⟩))) (by (repeat' (first | exact List.Sublist.refl _ | apply List.Sublist.cons_cons | apply List.Sublist.cons))) ?_
  · exact ⟨Nat.zero_le _, hI, rfl⟩
  intro ⟨k, y⟩ hI2 ih
  obtain ⟨hk, hy, hr⟩ := hI2
  dsimp only at hk hy hr ⊢
  by_cases hlt : k < ev.length
  · obtain ⟨bb, offb, rfl, hrow⟩ := hB.at k hlt
    have hz : edgesS (ev.drop k) = edS ev[k] ++ edgesS (ev.drop (k + 1)) := by rw [List.drop_eq_getElem_cons hlt]; rfl
    have hxx := evErr_zero (hx _ (List.getElem_mem hlt))
    have hmem := edS_get hlt
    generalize ev[k] = x at *
    obtain ⟨A, B', At, Bt, Lo, Hi⟩ := x
    obtain ⟨x1, x2, x3, x4, x5, x6, x7, x8, x9, x10, x11⟩ := hxx
    dsimp only at x1 x2 x3 x4 x5 x6 x7 x8 x9 x10 x11
    obtain ⟨A, rfl⟩ := Int.eq_ofNat_of_zero_le x1
    obtain ⟨B', rfl⟩ := Int.eq_ofNat_of_zero_le x3
    replace hrow : RowAt w0 bb (offb + k * 6) [.int .i64 A, .int .i64 B', .int .i64 At, .int .i64 Bt, .int .i64 Lo, .int .i64 Hi] := hrow
    have ho1 : (edgesS ev)[2 * k]? = some (A, B', Lo - (Bt - At)) := hmem.1
    have ho2 : (edgesS ev)[2 * k + 1]? = some (B', A, (Bt - At) - Hi) := hmem.2
    clear hmem
    repeat' (first
      | first | (apply G.callY (X := PLift (Inv (2 * k + 1) (stp y (A, B', Lo - (Bt - At))))) (fun _ => .bool true) _; (first | exact Wn.none | exact Wn.some rfl rfl); rfl; rfl; rfl; exact fun w hw => hcY (2 * k) y (A, B', Lo - (Bt - At)) hy ho1 [_] w hw; rintro ⟨hI1⟩) | (apply G.callY (X := PLift (Inv (2 * k + 1 + 1) (stp (stp y (A, B', Lo - (Bt - At))) (B', A, (Bt - At) - Hi)))) (fun _ => .bool true) _; (first | exact Wn.none | exact Wn.some rfl rfl); rfl; rfl; rfl; exact fun w hw => hcY (2 * k + 1) _ (B', A, (Bt - At) - Hi) hI1 ho2 [_] w hw; rintro ⟨hI2⟩)
      | (apply G.move; rfl; (first | exact Wn.none | exact Wn.some rfl rfl); rfl; rfl)
      | (apply G.assign; rfl; (first | exact Wn.none | exact Wn.some rfl rfl); rfl; rfl)
      | (apply G.fieldAddr; rfl; (first | exact Wn.none | exact Wn.some rfl rfl); rfl; rfl)
      | (apply G.load; rfl; (first | (apply LdV.one; (first | exact CellV.row0 (by assumption) rfl | exact CellV.rowS (by assumption) rfl | exact CellV.blk (.head _) rfl | exact CellV.blk (.tail _ (.head _)) rfl | exact CellV.blk (.tail _ (.tail _ (.head _))) rfl | exact CellV.blk (.tail _ (.tail _ (.tail _ (.head _)))) rfl | exact CellV.blk (.tail _ (.tail _ (.tail _ (.tail _ (.head _))))) rfl | exact CellV.blk (.tail _ (.tail _ (.tail _ (.tail _ (.tail _ (.head _)))))) rfl)) | (apply LdV.aggBlk; (first | exact .head _ | exact .tail _ (.head _) | exact .tail _ (.tail _ (.head _)) | exact .tail _ (.tail _ (.tail _ (.head _))) | exact .tail _ (.tail _ (.tail _ (.tail _ (.head _)))) | exact .tail _ (.tail _ (.tail _ (.tail _ (.tail _ (.head _)))))); rfl) | (apply LdV.aggRow; assumption; rfl)); (first | exact Wn.none | exact Wn.some rfl rfl); rfl; rfl)
      | (apply G.nil; rfl)
      | apply J.seq
      | (apply J.condT; rfl)
      | (apply J.condF; rfl)
      | apply J.skip
      | apply J.block
      | apply J.inBlock
      | (apply J.exit; rfl)
      | (apply G.skip; rfl; rfl; rfl; rfl; rfl)
      | (apply G.lenSlice; rfl; (first | exact Wn.none | exact Wn.some rfl rfl); rfl; rfl)
      | (apply G.indexAddr; rfl; rfl; rfl; omega; (first | exact Wn.none | exact Wn.some rfl rfl); rfl; rfl)
      | (apply G.notT; rfl; (first | exact Wn.none | exact Wn.some rfl rfl); rfl; rfl)
      | (apply G.notF; rfl; (first | exact Wn.none | exact Wn.some rfl rfl); rfl; rfl)
      | (apply G.pickT; rfl; rfl; (first | exact Wn.none | exact Wn.some rfl rfl); rfl; rfl)
      | (apply G.pickF; rfl; rfl; (first | exact Wn.none | exact Wn.some rfl rfl); rfl; rfl)
      | (apply G.lss; rfl; rfl; (first | exact Wn.none | exact Wn.some rfl rfl); rfl; rfl; all_goals intro h; all_goals try (exfalso; omega))
      | (apply G.leq; rfl; rfl; (first | exact Wn.none | exact Wn.some rfl rfl); rfl; rfl; all_goals intro h; all_goals try (exfalso; omega))
      | (apply G.gtr; rfl; rfl; (first | exact Wn.none | exact Wn.some rfl rfl); rfl; rfl; all_goals intro h; all_goals try (exfalso; omega))
      | (apply G.geq; rfl; rfl; (first | exact Wn.none | exact Wn.some rfl rfl); rfl; rfl; all_goals intro h; all_goals try (exfalso; omega))
      | (apply G.eql; rfl; rfl; (first | exact Wn.none | exact Wn.some rfl rfl); rfl; rfl; all_goals intro h; all_goals try (exfalso; omega))
      | (apply G.neq; rfl; rfl; (first | exact Wn.none | exact Wn.some rfl rfl); rfl; rfl; all_goals intro h; all_goals try (exfalso; omega))
      | (apply G.eql2; rfl; rfl; (first | exact Wn.none | exact Wn.some rfl rfl); rfl; rfl; all_goals intro h; all_goals try (exfalso; omega))
      | (apply G.neq2; rfl; rfl; (first | exact Wn.none | exact Wn.some rfl rfl); rfl; rfl; all_goals intro h; all_goals try (exfalso; omega))
      | (apply G.add; rfl; rfl; omega; omega; (first | exact Wn.none | exact Wn.some rfl rfl); rfl; rfl)
      | (apply G.sub; rfl; rfl; omega; omega; (first | exact Wn.none | exact Wn.some rfl rfl); rfl; rfl)
      | (apply G.addW; rfl; rfl; (first | exact Wn.none | exact Wn.some rfl rfl); rfl; rfl)
      | (apply G.subW; rfl; rfl; (first | exact Wn.none | exact Wn.some rfl rfl); rfl; rfl)
      | (apply G.extract; rfl; rfl; (first | exact Wn.none | exact Wn.some rfl rfl); rfl; rfl)
      | (apply G.build; rfl; rfl; (first | exact Wn.none | exact Wn.some rfl rfl); rfl; rfl)
      | (apply G.neg; rfl; omega; omega; (first | exact Wn.none | exact Wn.some rfl rfl); rfl; rfl)
      | (apply G.max2; rfl; rfl; (first | exact Wn.none | exact Wn.some rfl rfl); rfl; rfl)
      | (apply G.min2; rfl; rfl; (first | exact Wn.none | exact Wn.some rfl rfl); rfl; rfl)
      | (apply G.box; (first | exact Wn.none | exact Wn.some rfl rfl); rfl; rfl; rfl; rfl; intro Bk)
      | (apply G.alloc; (first | exact Wn.none | exact Wn.some rfl rfl); rfl; rfl; intro Bk)
      | (apply G.store (i := 0); (first | exact Wn.none | exact Wn.some rfl rfl); rfl; rfl; rfl; rfl; rfl; rfl; rfl; rfl)
      | (apply G.store (i := 1); (first | exact Wn.none | exact Wn.some rfl rfl); rfl; rfl; rfl; rfl; rfl; rfl; rfl; rfl)
      | (apply G.store (i := 2); (first | exact Wn.none | exact Wn.some rfl rfl); rfl; rfl; rfl; rfl; rfl; rfl; rfl; rfl)
      | (apply G.store (i := 3); (first | exact Wn.none | exact Wn.some rfl rfl); rfl; rfl; rfl; rfl; rfl; rfl; rfl; rfl)
      | (apply G.store (i := 4); (first | exact Wn.none | exact Wn.some rfl rfl); rfl; rfl; rfl; rfl; rfl; rfl; rfl; rfl)
      | (apply G.storeSame (i := 0); (first | exact Wn.none | exact Wn.some rfl rfl); rfl; rfl; rfl; rfl; rfl; rfl; rfl; rfl; rfl)
      | (apply G.storeSame (i := 1); (first | exact Wn.none | exact Wn.some rfl rfl); rfl; rfl; rfl; rfl; rfl; rfl; rfl; rfl; rfl)
      | (apply G.storeSame (i := 2); (first | exact Wn.none | exact Wn.some rfl rfl); rfl; rfl; rfl; rfl; rfl; rfl; rfl; rfl; rfl)
      | (apply J.regQ; exact Try.mixed; decide +kernel)
      | apply J.reg)
    (refine J.forget (by (repeat' (first | exact List.Sublist.refl _ | apply List.Sublist.cons_cons | apply List.Sublist.cons))) (J.sub (by (repeat' (first | exact trivial | refine ⟨rfl, ?_⟩))) (ih (k + 1, stp (stp y (A, B', Lo - (Bt - At))) (B', A, (Bt - At) - Hi)) ?_ (show ev.length - (k + 1) < ev.length - k by omega))))
    refine ⟨hlt, hI2, ?_⟩
    rw [← hr, hz]; rfl
  · skip
    repeat' (first
      | (apply G.move; rfl; (first | exact Wn.none | exact Wn.some rfl rfl); rfl; rfl)
      | (apply G.assign; rfl; (first | exact Wn.none | exact Wn.some rfl rfl); rfl; rfl)
      | (apply G.fieldAddr; rfl; (first | exact Wn.none | exact Wn.some rfl rfl); rfl; rfl)
      | (apply G.load; rfl; (first | (apply LdV.one; (first | exact CellV.row0 (by assumption) rfl | exact CellV.rowS (by assumption) rfl | exact CellV.blk (.head _) rfl | exact CellV.blk (.tail _ (.head _)) rfl | exact CellV.blk (.tail _ (.tail _ (.head _))) rfl | exact CellV.blk (.tail _ (.tail _ (.tail _ (.head _)))) rfl | exact CellV.blk (.tail _ (.tail _ (.tail _ (.tail _ (.head _))))) rfl | exact CellV.blk (.tail _ (.tail _ (.tail _ (.tail _ (.tail _ (.head _)))))) rfl)) | (apply LdV.aggBlk; (first | exact .head _ | exact .tail _ (.head _) | exact .tail _ (.tail _ (.head _)) | exact .tail _ (.tail _ (.tail _ (.head _))) | exact .tail _ (.tail _ (.tail _ (.tail _ (.head _)))) | exact .tail _ (.tail _ (.tail _ (.tail _ (.tail _ (.head _)))))); rfl) | (apply LdV.aggRow; assumption; rfl)); (first | exact Wn.none | exact Wn.some rfl rfl); rfl; rfl)
      | (apply G.nil; rfl)
      | apply J.seq
      | (apply J.condT; rfl)
      | (apply J.condF; rfl)
      | apply J.skip
      | apply J.block
      | apply J.inBlock
      | (apply J.exit; rfl)
      | (apply G.skip; rfl; rfl; rfl; rfl; rfl)
      | (apply G.lenSlice; rfl; (first | exact Wn.none | exact Wn.some rfl rfl); rfl; rfl)
      | (apply G.indexAddr; rfl; rfl; rfl; omega; (first | exact Wn.none | exact Wn.some rfl rfl); rfl; rfl)
      | (apply G.notT; rfl; (first | exact Wn.none | exact Wn.some rfl rfl); rfl; rfl)
      | (apply G.notF; rfl; (first | exact Wn.none | exact Wn.some rfl rfl); rfl; rfl)
      | (apply G.pickT; rfl; rfl; (first | exact Wn.none | exact Wn.some rfl rfl); rfl; rfl)
      | (apply G.pickF; rfl; rfl; (first | exact Wn.none | exact Wn.some rfl rfl); rfl; rfl)
      | (apply G.lss; rfl; rfl; (first | exact Wn.none | exact Wn.some rfl rfl); rfl; rfl; all_goals intro h; all_goals try (exfalso; omega))
      | (apply G.leq; rfl; rfl; (first | exact Wn.none | exact Wn.some rfl rfl); rfl; rfl; all_goals intro h; all_goals try (exfalso; omega))
      | (apply G.gtr; rfl; rfl; (first | exact Wn.none | exact Wn.some rfl rfl); rfl; rfl; all_goals intro h; all_goals try (exfalso; omega))
      | (apply G.geq; rfl; rfl; (first | exact Wn.none | exact Wn.some rfl rfl); rfl; rfl; all_goals intro h; all_goals try (exfalso; omega))
      | (apply G.eql; rfl; rfl; (first | exact Wn.none | exact Wn.some rfl rfl); rfl; rfl; all_goals intro h; all_goals try (exfalso; omega))
      | (apply G.neq; rfl; rfl; (first | exact Wn.none | exact Wn.some rfl rfl); rfl; rfl; all_goals intro h; all_goals try (exfalso; omega))
      | (apply G.eql2; rfl; rfl; (first | exact Wn.none | exact Wn.some rfl rfl); rfl; rfl; all_goals intro h; all_goals try (exfalso; omega))
      | (apply G.neq2; rfl; rfl; (first | exact Wn.none | exact Wn.some rfl rfl); rfl; rfl; all_goals intro h; all_goals try (exfalso; omega))
      | (apply G.add; rfl; rfl; omega; omega; (first | exact Wn.none | exact Wn.some rfl rfl); rfl; rfl)
      | (apply G.sub; rfl; rfl; omega; omega; (first | exact Wn.none | exact Wn.some rfl rfl); rfl; rfl)
      | (apply G.addW; rfl; rfl; (first | exact Wn.none | exact Wn.some rfl rfl); rfl; rfl)
      | (apply G.subW; rfl; rfl; (first | exact Wn.none | exact Wn.some rfl rfl); rfl; rfl)
      | (apply G.extract; rfl; rfl; (first | exact Wn.none | exact Wn.some rfl rfl); rfl; rfl)
      | (apply G.build; rfl; rfl; (first | exact Wn.none | exact Wn.some rfl rfl); rfl; rfl)
      | (apply G.neg; rfl; omega; omega; (first | exact Wn.none | exact Wn.some rfl rfl); rfl; rfl)
      | (apply G.max2; rfl; rfl; (first | exact Wn.none | exact Wn.some rfl rfl); rfl; rfl)
      | (apply G.min2; rfl; rfl; (first | exact Wn.none | exact Wn.some rfl rfl); rfl; rfl)
      | (apply G.box; (first | exact Wn.none | exact Wn.some rfl rfl); rfl; rfl; rfl; rfl; intro Bk)
      | (apply G.alloc; (first | exact Wn.none | exact Wn.some rfl rfl); rfl; rfl; intro Bk)
      | (apply G.store (i := 0); (first | exact Wn.none | exact Wn.some rfl rfl); rfl; rfl; rfl; rfl; rfl; rfl; rfl; rfl)
      | (apply G.store (i := 1); (first | exact Wn.none | exact Wn.some rfl rfl); rfl; rfl; rfl; rfl; rfl; rfl; rfl; rfl)
      | (apply G.store (i := 2); (first | exact Wn.none | exact Wn.some rfl rfl); rfl; rfl; rfl; rfl; rfl; rfl; rfl; rfl)
      | (apply G.store (i := 3); (first | exact Wn.none | exact Wn.some rfl rfl); rfl; rfl; rfl; rfl; rfl; rfl; rfl; rfl)
      | (apply G.store (i := 4); (first | exact Wn.none | exact Wn.some rfl rfl); rfl; rfl; rfl; rfl; rfl; rfl; rfl; rfl)
      | (apply G.storeSame (i := 0); (first | exact Wn.none | exact Wn.some rfl rfl); rfl; rfl; rfl; rfl; rfl; rfl; rfl; rfl; rfl)
      | (apply G.storeSame (i := 1); (first | exact Wn.none | exact Wn.some rfl rfl); rfl; rfl; rfl; rfl; rfl; rfl; rfl; rfl; rfl)
      | (apply G.storeSame (i := 2); (first | exact Wn.none | exact Wn.some rfl rfl); rfl; rfl; rfl; rfl; rfl; rfl; rfl; rfl; rfl)
      | (apply J.regQ; exact Try.mixed; decide +kernel)
      | apply J.reg)
    have hz : edgesS (ev.drop k) = [] := by rw [List.drop_eq_nil_of_le (by omega)]; rfl
    rw [hz] at hr
    have hr : y = (edgesS ev).foldl stp x0 := hr
    refine leaveEnd Try.func47 (RunsTo.zero Try.results47) fun w' hw' => ⟨rfl, by rw [← hr, edS_len, show ev.length = k by omega]; exact hy, by rw [← hr]; exact hw'⟩
end Go.Proofs.Ytjfbdffcgapdlaa
