/-
  Contract of sanity.
-/
import Derived.Test.YtjfbdffcgapdlaaR
import Derived.Test.YtjfbdffcgapdlaaAr

namespace Go.Proofs.Ytjfbdffcgapdlaa
open Go.RowKit Go.Sl


def exN : List (Int × Int) := [(3, 5), (1, 3), (0, 0)]
def exV : List Int := [1, 5, 2, 2, 7]
abbrev exA (A B : Nat) : Value := .agg #[.slice (some ⟨A, 0, none⟩) 3 3, .slice (some ⟨B, 0, none⟩) 2 2]
theorem k11 (A B : Nat) (w : World) (hA : SlAt w (some ⟨A, 0, none⟩) 2 (exSk.map skV)) (hB : SlAt w (some ⟨B, 0, none⟩) 6 (exEv.map evV)) :
    Calls Try.prog 11 #[exA A B] w fun e w' => ∃ a' c', e = .returned (.tuple #[.slice a' 3 c', .int .i64 0]) ∧ SlAt w' a' 2 (exN.map skV) ∧ (∀ p, a' = some p → w.heap.size ≤ p.block) ∧ Below w.heap.size w w' := by
  have := c11 (some ⟨A, 0, none⟩) exSk 3 (some ⟨B, 0, none⟩) exEv 2 w (by decide) (by decide) hA hB
  rw [show nrwP exSk exEv = (exN, 0) by decide +kernel] at this
  exact this
theorem k13a (A B : Nat) (w : World) (hA : SlAt w (some ⟨A, 0, none⟩) 2 (exSk.map skV)) (hB : SlAt w (some ⟨B, 0, none⟩) 6 (exEv.map evV)) :
    Calls Try.prog 13 #[exA A B, .int .i64 0, .int .i64 4] w fun e w' => ∃ a' c', e = .returned (.tuple #[.slice a' 3 c', .int .i64 0]) ∧ SlAt w' a' 1 (([4, 1, 0] : List Int).map inV) ∧ (∀ p, a' = some p → w.heap.size ≤ p.block) ∧ Below w.heap.size w w' := by
  have := c13 (some ⟨A, 0, none⟩) exSk 3 (some ⟨B, 0, none⟩) exEv 2 0 4 w (by decide) (by decide) hA hB
  rw [show witP exSk exEv 0 4 = ([4, 1, 0], 0) by decide +kernel] at this
  exact this
theorem k13b (A B : Nat) (w : World) (hA : SlAt w (some ⟨A, 0, none⟩) 2 (exSk.map skV)) (hB : SlAt w (some ⟨B, 0, none⟩) 6 (exEv.map evV)) :
    Calls Try.prog 13 #[exA A B, .int .i64 0, .int .i64 2] w fun e w' => ∃ a' c', e = .returned (.tuple #[.slice a' 0 c', .int .i64 24]) ∧ SlAt w' a' 1 (([] : List Int).map inV) ∧ (∀ p, a' = some p → w.heap.size ≤ p.block) ∧ Below w.heap.size w w' := by
  have := c13 (some ⟨A, 0, none⟩) exSk 3 (some ⟨B, 0, none⟩) exEv 2 0 2 w (by decide) (by decide) hA hB
  rw [show witP exSk exEv 0 2 = ([], 24) by decide +kernel] at this
  exact this
abbrev pr (a b : Int) : Value := .agg #[.int .i64 a, .int .i64 b]
theorem k26a (w : World) : Calls Try.prog 26 #[pr (-5) 5, pr 3 9] w fun e w' => e = .returned (.tuple #[pr 3 5, .int .i64 0]) ∧ Below w.heap.size w w' := by
  have := c26 (-5) 5 3 9 w
  rw [show meetS (-5, 5) (3, 9) = ((3, 5), 0) by decide +kernel] at this
  exact this
theorem k26b (w : World) : Calls Try.prog 26 #[pr 0 1, pr 2 3] w fun e w' => e = .returned (.tuple #[pr 0 0, .int .i64 24]) ∧ Below w.heap.size w w' := by
  have := c26 0 1 2 3 w
  rw [show meetS (0, 1) (2, 3) = ((0, 0), 24) by decide +kernel] at this
  exact this
theorem k28 (w : World) : Calls Try.prog 28 #[pr (-5) 5, pr 3 9] w fun e w' => e = .returned (.tuple #[pr (-2) 14, .int .i64 0]) ∧ Below w.heap.size w w' := by
  have := c28 (-5) 5 3 9 w
  rw [show chainS (-5, 5) (3, 9) = ((-2, 14), 0) by decide +kernel] at this
  exact this
theorem k24 (w : World) : Calls Try.prog 24 #[pr 1 3, .int .i64 10, .int .i64 14] w fun e w' => e = .returned (.tuple #[pr 11 17, pr 13 15, .int .i64 0]) ∧ Below w.heap.size w w' := by
  have := c24 1 3 10 14 w
  rw [show windowS (1, 3) 10 14 = ((11, 17), (13, 15), 0) by decide +kernel] at this
  exact this
theorem k22a (a : Option Addr) (w : World) (hA : SlAt w a 1 (exV.map inV)) : Calls Try.prog 22 #[.slice a 5 5, .int .i64 2, .int .i64 4, pr 0 1] w fun e w' => e = .returned (.tuple #[pr 4 0, pr 7 1, .int .i64 0]) ∧ Below w.heap.size w w' := by
  have := c22 a exV 5 2 4 0 1 w (by decide) (by decide) hA
  rw [show sumsS exV 2 4 (0, 1) = (((4, 0), (7, 1)), 0) by decide +kernel] at this
  exact this
theorem k22b (a : Option Addr) (w : World) (hA : SlAt w a 1 (exV.map inV)) : Calls Try.prog 22 #[.slice a 5 5, .int .i64 2, .int .i64 4, pr (-2) 0] w fun e w' => e = .returned (.tuple #[pr 0 0, pr 0 0, .int .i64 1]) ∧ Below w.heap.size w w' := by
  have := c22 a exV 5 2 4 (-2) 0 w (by decide) (by decide) hA
  rw [show sumsS exV 2 4 (-2, 0) = (((0, 0), (0, 0)), 1) by decide +kernel] at this
  exact this
theorem k17a (A B S : Nat) (w : World) (hA : SlAt w (some ⟨A, 0, none⟩) 2 (exSk.map skV)) (hB : SlAt w (some ⟨B, 0, none⟩) 6 (exEv.map evV)) (hS : SlAt w (some ⟨S, 0, none⟩) 1 (([3, 1, 0] : List Int).map inV)) :
    Calls Try.prog 17 #[exA A B, .slice (some ⟨S, 0, none⟩) 3 3] w fun e w' => e = .returned (.bool true) ∧ Below w.heap.size w w' := by
  have := c17 (some ⟨A, 0, none⟩) exSk 3 (some ⟨B, 0, none⟩) exEv 2 (some ⟨S, 0, none⟩) [3, 1, 0] 3 w (by decide) (by decide) (by decide) hA hB hS
  rw [show holdsS exSk exEv [3, 1, 0] = true by decide +kernel] at this
  exact this
theorem k17b (A B S : Nat) (w : World) (hA : SlAt w (some ⟨A, 0, none⟩) 2 (exSk.map skV)) (hB : SlAt w (some ⟨B, 0, none⟩) 6 (exEv.map evV)) (hS : SlAt w (some ⟨S, 0, none⟩) 1 (([3, 2, 0] : List Int).map inV)) :
    Calls Try.prog 17 #[exA A B, .slice (some ⟨S, 0, none⟩) 3 3] w fun e w' => e = .returned (.bool false) ∧ Below w.heap.size w w' := by
  have := c17 (some ⟨A, 0, none⟩) exSk 3 (some ⟨B, 0, none⟩) exEv 2 (some ⟨S, 0, none⟩) [3, 2, 0] 3 w (by decide) (by decide) (by decide) hA hB hS
  rw [show holdsS exSk exEv [3, 2, 0] = false by decide +kernel] at this
  exact this
theorem k15 (A B : Nat) (w : World) (hA : SlAt w (some ⟨A, 0, none⟩) 2 (exSk.map skV)) (hB : SlAt w (some ⟨B, 0, none⟩) 6 (exEv.map evV)) :
    Calls Try.prog 15 #[exA A B] w fun e w' => e = .returned (.int .i64 0) ∧ Below w.heap.size w w' := by
  have := c15 (some ⟨A, 0, none⟩) exSk 3 (some ⟨B, 0, none⟩) exEv 2 w (by decide) (by decide) hA hB
  rw [show checkS exSk exEv = 0 by decide +kernel] at this
  exact this

theorem k19 (a : Option Addr) (c B : Nat) (w : World) (hA : SlAt w a 2 (exN.map skV)) (hB : SlAt w (some ⟨B, 0, none⟩) 2 (exN.map skV)) :
    Calls Try.prog 19 #[.slice a 3 c, .slice (some ⟨B, 0, none⟩) 3 3] w fun e w' => e = .returned (.bool true) ∧ Below w.heap.size w w' := by
  have := c19 a exN c (some ⟨B, 0, none⟩) exN 3 w (by decide) (by decide) hA hB
  rw [show decide (exN = exN) = true by decide] at this
  exact this
theorem k20 (a : Option Addr) (c B : Nat) (w : World) (hA : SlAt w a 1 (([4, 1, 0] : List Int).map inV)) (hB : SlAt w (some ⟨B, 0, none⟩) 1 (([4, 1, 0] : List Int).map inV)) :
    Calls Try.prog 20 #[.slice a 3 c, .slice (some ⟨B, 0, none⟩) 3 3] w fun e w' => e = .returned (.bool true) ∧ Below w.heap.size w w' := by
  have := c20 a [4, 1, 0] c (some ⟨B, 0, none⟩) [4, 1, 0] 3 w (by decide) (by decide) hA hB
  rw [show decide (([4, 1, 0] : List Int) = [4, 1, 0]) = true by decide] at this
  exact this
theorem k31 {w0 w : World} {M : List Row} (hw : Sat w0 M w) : Calls Try.prog 31 #[] w fun e w' => ∃ x : Nat × Nat, e = .returned (exA x.1 x.2) ∧ Sat w0 ([slRow w0.heap.size (some ⟨x.2, 0, none⟩) 6 (exEv.map evV), slRow w0.heap.size (some ⟨x.1, 0, none⟩) 2 (exSk.map skV)] ++ M) w' := by
  refine (c31 w).mono fun e w' ⟨A, B, he, h1, h2, h3, h4, hb⟩ => ⟨(A, B), he, ?_⟩
  have hlt : ∀ {X sz : Nat} {L : List (List Value)}, SlAt w' (some ⟨X, 0, none⟩) sz L → 0 < L.length → X < w'.heap.size := fun h h0 => h.lt h0 rfl
  have s1 : Sat w0 (slRow w0.heap.size (some ⟨A, 0, none⟩) 2 (exSk.map skV) :: M) w' := hw.new hb h1 (Nat.le_refl _) fun b hb' => by
    obtain ⟨h0, p, h5, h6, h7⟩ := hb'
    cases h5
    simp only at h6
    subst h6
    exact ⟨h3, hlt h1 h0⟩
  refine s1.addFact (Nat.le_refl _) h2 fun b hb' => ?_
  obtain ⟨h0, p, h5, h6, h7⟩ := hb'
  cases h5
  simp only at h6
  subst h6
  refine ⟨h7, hlt h2 h0, fun r hr hl => ?_⟩
  rcases List.mem_cons.1 hr with rfl | hr
  · exact hl
  · have := ((hw.old r hr).2 B (Row.lock_sup hl)).2
    omega

instance : TBool Try.prog 4 := ⟨Try.underlying4⟩
theorem c10 (w : World) : Calls Try.prog 10 #[] w fun e w' => e = .returned (.bool true) ∧ Below w.heap.size w w' := by
  refine enter [] Try.func10 rfl Try.ntmps10 (by simp) trivial ?_
  repeat' (first | first | (apply G.load; rfl; (first | (apply LdV.aggBlk; ((repeat (first | exact List.Mem.head _ | apply List.Mem.tail))); rfl) | (apply LdV.one; apply CellV.blk; ((repeat (first | exact List.Mem.head _ | apply List.Mem.tail))); rfl)); rfl; rfl; rfl) | (apply callE (g := 31) (X := Nat × Nat) (v := fun x => exA x.1 x.2) (Mn := fun x => [slRow w.heap.size (some ⟨x.2, 0, none⟩) 6 (exEv.map evV), slRow w.heap.size (some ⟨x.1, 0, none⟩) 2 (exSk.map skV)]); rfl; rfl; rfl; rfl; exact fun w' hw' => k31 hw'; rintro ⟨A, B⟩) | (apply G.callN (g := 11) (sz := 2) (fun a' c' => .tuple #[.slice a' 3 c', .int .i64 0]) (exN.map skV); rfl; rfl; rfl; rfl; exact fun w' hw => k11 A B w' (hw.sl (N := w.heap.size) (by (repeat (first | exact List.Mem.head _ | apply List.Mem.tail)))) (hw.sl (N := w.heap.size) (by (repeat (first | exact List.Mem.head _ | apply List.Mem.tail)))); intro aN cN haN hnN) | (apply G.callN (g := 13) (vs := [exA A B, .int .i64 0, .int .i64 4]) (sz := 1) (fun a' c' => .tuple #[.slice a' 3 c', .int .i64 0]) (([4, 1, 0] : List Int).map inV); rfl; rfl; rfl; rfl; exact fun w' hw => k13a A B w' (hw.sl (N := w.heap.size) (by (repeat (first | exact List.Mem.head _ | apply List.Mem.tail)))) (hw.sl (N := w.heap.size) (by (repeat (first | exact List.Mem.head _ | apply List.Mem.tail)))); intro aW cW haW hnW) | (apply G.callN (g := 13) (vs := [exA A B, .int .i64 0, .int .i64 2]) (sz := 1) (fun a' c' => .tuple #[.slice a' 0 c', .int .i64 24]) (([] : List Int).map inV); rfl; rfl; rfl; rfl; exact fun w' hw => k13b A B w' (hw.sl (N := w.heap.size) (by (repeat (first | exact List.Mem.head _ | apply List.Mem.tail)))) (hw.sl (N := w.heap.size) (by (repeat (first | exact List.Mem.head _ | apply List.Mem.tail)))); intro aV cV haV hnV) | (apply G.callV (g := 26) (vs := [pr (-5) 5, pr 3 9]); rfl; rfl; rfl; rfl; exact fun w' _ => k26a w') | (apply G.callV (g := 26) (vs := [pr 0 1, pr 2 3]); rfl; rfl; rfl; rfl; exact fun w' _ => k26b w') | (apply G.callV (g := 28); rfl; rfl; rfl; rfl; exact fun w' _ => k28 w') | (apply G.callV (g := 24); rfl; rfl; rfl; rfl; exact fun w' _ => k24 w') | (apply G.sliceL; rfl; rfl; rfl; rfl; rfl; rfl; rfl; rfl; intro Bn) | (apply G.callV (g := 22) (vs := [.slice _ 5 5, .int .i64 2, .int .i64 4, pr 0 1]); rfl; rfl; rfl; rfl; exact fun w' hw => k22a _ w' (SlAt.ofBlk (l := exV) inV_len hw (by (repeat (first | exact List.Mem.head _ | apply List.Mem.tail))))) | (apply G.callV (g := 22) (vs := [.slice _ 5 5, .int .i64 2, .int .i64 4, pr (-2) 0]); rfl; rfl; rfl; rfl; exact fun w' hw => k22b _ w' (SlAt.ofBlk (l := exV) inV_len hw (by (repeat (first | exact List.Mem.head _ | apply List.Mem.tail))))) | (apply G.callV (g := 19); rfl; rfl; rfl; rfl; exact fun w' hw => k19 _ _ _ w' (hw.sl (N := w.heap.size) (by (repeat (first | exact List.Mem.head _ | apply List.Mem.tail)))) (SlAt.ofBlk (l := exN) skV_len hw (by (repeat (first | exact List.Mem.head _ | apply List.Mem.tail))))) | (apply G.callV (g := 20); rfl; rfl; rfl; rfl; exact fun w' hw => k20 _ _ _ w' (hw.sl (N := w.heap.size) (by (repeat (first | exact List.Mem.head _ | apply List.Mem.tail)))) (SlAt.ofBlk (l := [4, 1, 0]) inV_len hw (by (repeat (first | exact List.Mem.head _ | apply List.Mem.tail))))) | (apply G.callV (g := 17); rfl; rfl; rfl; rfl; exact fun w' hw => k17a A B _ w' (hw.sl (N := w.heap.size) (by (repeat (first | exact List.Mem.head _ | apply List.Mem.tail)))) (hw.sl (N := w.heap.size) (by (repeat (first | exact List.Mem.head _ | apply List.Mem.tail)))) (SlAt.ofBlk (l := [3, 1, 0]) inV_len hw (by (repeat (first | exact List.Mem.head _ | apply List.Mem.tail))))) | (apply G.callV (g := 17); rfl; rfl; rfl; rfl; exact fun w' hw => k17b A B _ w' (hw.sl (N := w.heap.size) (by (repeat (first | exact List.Mem.head _ | apply List.Mem.tail)))) (hw.sl (N := w.heap.size) (by (repeat (first | exact List.Mem.head _ | apply List.Mem.tail)))) (SlAt.ofBlk (l := [3, 2, 0]) inV_len hw (by (repeat (first | exact List.Mem.head _ | apply List.Mem.tail))))) | (apply G.callV (g := 15); rfl; rfl; rfl; rfl; exact fun w' hw => k15 A B w' (hw.sl (N := w.heap.size) (by (repeat (first | exact List.Mem.head _ | apply List.Mem.tail)))) (hw.sl (N := w.heap.size) (by (repeat (first | exact List.Mem.head _ | apply List.Mem.tail))))) | (apply G.move; rfl; rfl; rfl; rfl) | (apply G.assign; rfl; rfl; rfl; rfl) | (apply G.fieldAddr; rfl; rfl; rfl; rfl) | (apply G.load; rfl; (first | (apply LdV.one; (first | exact CellV.row0 (by assumption) rfl | exact CellV.rowS (by assumption) rfl | (apply CellV.blk; (repeat (first | exact List.Mem.head _ | apply List.Mem.tail)); rfl))) | (apply LdV.aggBlk; (repeat (first | exact List.Mem.head _ | apply List.Mem.tail)); rfl) | (apply LdV.aggRow; assumption; rfl)); rfl; rfl; rfl) | (apply G.nil; rfl) | apply J.seq | (apply J.condT; rfl) | (apply J.condF; rfl) | apply J.skip | apply J.block | apply J.inBlock | (apply J.exit; rfl) | (apply G.skip; rfl; rfl; rfl; rfl; rfl) | (apply G.lenSlice; rfl; rfl; rfl; rfl) | (apply G.indexAddr; rfl; rfl; rfl; omega; rfl; rfl; rfl) | (apply G.notT; rfl; rfl; rfl; rfl) | (apply G.notF; rfl; rfl; rfl; rfl) | (apply G.pickT; rfl; rfl; rfl; rfl; rfl) | (apply G.pickF; rfl; rfl; rfl; rfl; rfl) | (apply G.lss; rfl; rfl; rfl; rfl; rfl; all_goals intro h; all_goals try (exfalso; omega)) | (apply G.leq; rfl; rfl; rfl; rfl; rfl; all_goals intro h; all_goals try (exfalso; omega)) | (apply G.gtr; rfl; rfl; rfl; rfl; rfl; all_goals intro h; all_goals try (exfalso; omega)) | (apply G.geq; rfl; rfl; rfl; rfl; rfl; all_goals intro h; all_goals try (exfalso; omega)) | (apply G.eql; rfl; rfl; rfl; rfl; rfl; all_goals intro h; all_goals try (exfalso; omega)) | (apply G.neq; rfl; rfl; rfl; rfl; rfl; all_goals intro h; all_goals try (exfalso; omega)) | (apply G.eql2; rfl; rfl; rfl; rfl; rfl; all_goals intro h; all_goals try (exfalso; omega)) | (apply G.neq2; rfl; rfl; rfl; rfl; rfl; all_goals intro h; all_goals try (exfalso; omega)) | (apply G.add; rfl; rfl; omega; omega; rfl; rfl; rfl) | (apply G.sub; rfl; rfl; omega; omega; rfl; rfl; rfl) | (apply G.addW; rfl; rfl; rfl; rfl; rfl) | (apply G.subW; rfl; rfl; rfl; rfl; rfl) | (apply G.extract; rfl; rfl; rfl; rfl; rfl) | (apply G.build; rfl; rfl; rfl; rfl; rfl) | (apply G.neg; rfl; omega; omega; rfl; rfl; rfl) | (apply G.max2; rfl; rfl; rfl; rfl; rfl) | (apply G.min2; rfl; rfl; rfl; rfl; rfl) | (apply G.box; rfl; rfl; rfl; rfl; rfl; intro Bk) | (apply G.alloc; rfl; rfl; rfl; intro Bk) | (apply G.store (i := 0); rfl; rfl; rfl; rfl; rfl; rfl; rfl; rfl; rfl) | (apply G.store (i := 1); rfl; rfl; rfl; rfl; rfl; rfl; rfl; rfl; rfl) | (apply G.store (i := 2); rfl; rfl; rfl; rfl; rfl; rfl; rfl; rfl; rfl) | (apply G.store (i := 3); rfl; rfl; rfl; rfl; rfl; rfl; rfl; rfl; rfl) | (apply G.store (i := 4); rfl; rfl; rfl; rfl; rfl; rfl; rfl; rfl; rfl) | (apply G.storeSame (i := 0); rfl; rfl; rfl; rfl; rfl; rfl; rfl; rfl; rfl; rfl) | (apply G.storeSame (i := 1); rfl; rfl; rfl; rfl; rfl; rfl; rfl; rfl; rfl; rfl) | (apply G.storeSame (i := 2); rfl; rfl; rfl; rfl; rfl; rfl; rfl; rfl; rfl; rfl) | (apply J.regQ; exact Try.mixed; decide +kernel) | apply J.reg)
  all_goals (apply leave Try.func10; (apply RunsTo.one Try.results10; (first | (apply ResV.tmp; rfl) | (apply ResV.cell; rfl; (first | (apply LdV.one; (first | exact CellV.row0 (by assumption) rfl | exact CellV.rowS (by assumption) rfl | (apply CellV.blk; (repeat (first | exact List.Mem.head _ | apply List.Mem.tail)); rfl))) | (apply LdV.aggBlk; (repeat (first | exact List.Mem.head _ | apply List.Mem.tail)); rfl) | (apply LdV.aggRow; assumption; rfl))))); intro w' hw; refine ⟨?_, hw.below⟩; clear hw)
  rfl
end Go.Proofs.Ytjfbdffcgapdlaa
