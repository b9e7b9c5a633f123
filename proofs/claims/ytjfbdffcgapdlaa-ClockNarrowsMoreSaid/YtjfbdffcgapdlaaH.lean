/-
  Contracts of the specification's narrowing: narrow, Narrow, Witness.
-/
import Derived.Test.YtjfbdffcgapdlaaG
import Derived.Test.YtjfbdffcgapdlaaFa

namespace Go.Proofs.Ytjfbdffcgapdlaa
open Go.RowKit Go.Sl


def emptyB (l : List (Int × Int)) : Bool := l.any fun s => decide (s.2 < s.1)
def roundS (ev : List Ev) (l : List (Int × Int)) : List (Int × Int) := ev.foldl onceS l
def widthS : List (Int × Int) → Nat
  | [] => 0
  | s :: r => (s.2 - s.1).toNat + widthS r
def muS (l : List (Int × Int)) : Nat := if emptyB l then 0 else 1 + widthS l
def narrowS (ev : List Ev) (l : List (Int × Int)) : List (Int × Int) × Int :=
  if emptyB l then ([], 24)
  else if roundS ev l = l then (l, 0)
  else if muS (roundS ev l) < muS l then narrowS ev (roundS ev l)
  else ([], 24)
  termination_by muS l

/-- m is inside l. -/
def Nar (l m : List (Int × Int)) : Prop := m.length = l.length ∧ ∀ i, (gS l i).1 ≤ (gS m i).1 ∧ (gS m i).2 ≤ (gS l i).2
theorem Nar.refl (l : List (Int × Int)) : Nar l l := ⟨rfl, fun _ => ⟨Int.le_refl _, Int.le_refl _⟩⟩
theorem Nar.trans {l m n : List (Int × Int)} (h1 : Nar l m) (h2 : Nar m n) : Nar l n := ⟨h2.1.trans h1.1, fun i => ⟨Int.le_trans (h1.2 i).1 (h2.2 i).1, Int.le_trans (h2.2 i).2 (h1.2 i).2⟩⟩
theorem Nar.lo {l : List (Int × Int)} {i : Nat} {v : Int} (h : (gS l i).1 ≤ v) : Nar l (loS l i v) := ⟨lo_len _ _ _, fun j => by
  rw [loS, gS_set]; split
  · rename_i e; obtain ⟨rfl, -⟩ := e; exact ⟨h, Int.le_refl _⟩
  · exact ⟨Int.le_refl _, Int.le_refl _⟩⟩
theorem Nar.hi {l : List (Int × Int)} {i : Nat} {v : Int} (h : v ≤ (gS l i).2) : Nar l (hiS l i v) := ⟨hi_len _ _ _, fun j => by
  rw [hiS, gS_set]; split
  · rename_i e; obtain ⟨rfl, -⟩ := e; exact ⟨Int.le_refl _, h⟩
  · exact ⟨Int.le_refl _, Int.le_refl _⟩⟩
theorem once_nar (l : List (Int × Int)) (x : Ev) : Nar l (onceS l x) :=
  (((Nar.lo (Int.le_max_left _ _)).trans (Nar.hi (Int.min_le_left _ _))).trans (Nar.lo (Int.le_max_left _ _))).trans (Nar.hi (Int.min_le_left _ _))
theorem round_nar : ∀ (ev : List Ev) (l : List (Int × Int)), Nar l (roundS ev l)
  | [], l => Nar.refl l
  | x :: r, l => (once_nar l x).trans (round_nar r _)
theorem nar_width : ∀ {l m : List (Int × Int)}, Nar l m → emptyB m = false → m ≠ l → widthS m < widthS l
  | [], [], _, _, h => absurd rfl h
  | [], _ :: _, h, _, _ => by have := h.1; simp at this
  | _ :: _, [], h, _, _ => by have := h.1; simp at this
  | s :: l, t :: m, h, he, hne => by
    have h0 := h.2 0
    simp only [gS, List.getD_cons_zero] at h0
    have hr : Nar l m := ⟨by have := h.1; simpa using this, fun i => by have := h.2 (i + 1); simpa only [gS, List.getD_cons_succ] using this⟩
    simp only [emptyB, List.any_cons, Bool.or_eq_false_iff, decide_eq_false_iff_not] at he
    simp only [widthS]
    by_cases hm : m = l
    · subst hm
      have : t ≠ s := fun e => hne (by rw [e])
      have : ¬ (t.1 = s.1 ∧ t.2 = s.2) := fun e => this (Prod.ext e.1 e.2)
      omega
    · have := nar_width hr he.2 hm
      omega
theorem narrowS_empty {ev : List Ev} {l : List (Int × Int)} (h : emptyB l = true) : narrowS ev l = ([], 24) := by rw [narrowS, if_pos h]
theorem narrowS_same {ev : List Ev} {l : List (Int × Int)} (h : emptyB l = false) (h2 : roundS ev l = l) : narrowS ev l = (l, 0) := by rw [narrowS, if_neg (by simp [h]), if_pos h2]
theorem mu_lt {ev : List Ev} {l : List (Int × Int)} (h : emptyB l = false) (h2 : ¬ roundS ev l = l) : muS (roundS ev l) < muS l := by
  rw [muS, muS, h]
  by_cases he : emptyB (roundS ev l) = true
  · rw [he, if_pos rfl, if_neg (by decide)]; omega
  · have he : emptyB (roundS ev l) = false := by simpa using he
    have := nar_width (round_nar ev l) he h2
    rw [he]; simp; omega
theorem narrowS_step {ev : List Ev} {l : List (Int × Int)} (h : emptyB l = false) (h2 : ¬ roundS ev l = l) : narrowS ev l = narrowS ev (roundS ev l) := by
  rw [narrowS, if_neg (by simp [h]), if_neg h2, if_pos (mu_lt h h2)]

/-- The bounds at a round's start. -/
def Mild (l : List (Int × Int)) : Prop := ∀ i, -2000 ≤ (gS l i).1 ∧ (gS l i).2 ≤ 2000
theorem Mild.nar {l m : List (Int × Int)} (h : Mild l) (hn : Nar l m) : Mild m := fun i => ⟨Int.le_trans (h i).1 (hn.2 i).1, Int.le_trans (hn.2 i).2 (h i).2⟩
theorem Mild.small {l : List (Int × Int)} (h : Mild l) (he : emptyB l = false) : Small 2000 l := fun i => by
  have := h i
  have h2 : (gS l i).1 ≤ (gS l i).2 := by
    rcases Nat.lt_or_ge i l.length with hi | hi
    · have := List.any_eq_false.1 he l[i] (List.getElem_mem hi)
      rw [gS_get hi]; simpa using this
    · rw [gS, List.getD_eq_getElem?_getD, List.getElem?_eq_none hi]; exact Int.le_refl _
  omega
theorem once_small {N : Int} {l : List (Int × Int)} {x : Ev} {n : Int} (h : Small N l) (hx : evErr x n = 0) : Small (N + 11220480) (onceS l x) := by
  obtain ⟨x1, x2, x3, x4, x5, x6, x7, x8, x9, x10, x11⟩ := evErr_zero hx
  have q1 : Small (N + 2805120) (once1 l x) := by
    have := h x.A.toNat; have := h x.B.toNat
    exact h.lo (by omega) (by omega) (by omega)
  have q2 : Small (N + 2805120 + 2805120) (once2 (once1 l x) x) := by
    have := q1 x.A.toNat; have := q1 x.B.toNat
    exact q1.hi (by omega) (by omega) (by omega)
  have q3 : Small (N + 2805120 + 2805120 + 2805120) (once3 (once2 (once1 l x) x) x) := by
    have := q2 x.A.toNat; have := q2 x.B.toNat
    exact q2.lo (by omega) (by omega) (by omega)
  have q4 : Small (N + 2805120 + 2805120 + 2805120 + 2805120) (onceS l x) := by
    have := q3 x.A.toNat; have := q3 x.B.toNat
    exact q3.hi (by omega) (by omega) (by omega)
  rwa [show N + 2805120 + 2805120 + 2805120 + 2805120 = N + 11220480 by omega] at q4

theorem c45n (a : Option Addr) (l : List (Int × Int)) (c n : Nat) (x : Ev) (N : Int) (w : World) (hn : l.length = n) (hl : n ≤ 40) (hA : SlAt w a 2 (l.map skV)) (hx : evErr x n = 0) (hN : N ≤ 9000000000000) (hs : Small N l) :
    Calls Try.prog 45 #[.slice a n c, .agg (evV x).toArray] w fun e w' => ∃ g c', e = .returned (.slice (some ⟨g, 0, none⟩) n c') ∧ n ≤ c' ∧ w.heap.size ≤ g ∧ SlAt w' (some ⟨g, 0, none⟩) 2 ((onceS l x).map skV) ∧ Below w.heap.size w w' := by
  subst hn
  obtain ⟨A, B, At, Bt, Lo, Hi⟩ := x
  obtain ⟨x1, x2, x3, x4, x5, x6, x7, x8, x9, x10, x11⟩ := evErr_zero hx
  dsimp only at x1 x2 x3 x4 x5 x6 x7 x8 x9 x10 x11
  obtain ⟨A, rfl⟩ := Int.eq_ofNat_of_zero_le x1
  obtain ⟨B, rfl⟩ := Int.eq_ofNat_of_zero_le x3
  exact c45 a l c A B At Bt Lo Hi N w hl hA (by omega) (by omega) x5 x6 x7 x8 x9 x10 x11 hN hs
theorem c44n (a : Option Addr) (l : List (Int × Int)) (c n : Nat) (w : World) (hn : l.length = n) (hl : n ≤ 40) (hA : SlAt w a 2 (l.map skV)) :
    Calls Try.prog 44 #[.slice a n c] w fun e w' => e = .returned (.bool (emptyB l)) ∧ Below w.heap.size w w' := by
  subst hn; exact c44 a l c w (by omega) hA
theorem c19n (a : Option Addr) (l : List (Int × Int)) (c n : Nat) (b : Option Addr) (m : List (Int × Int)) (d : Nat) (w : World) (hn : l.length = n) (hm : m.length = n) (hl : n ≤ 40) (hA : SlAt w a 2 (l.map skV)) (hB : SlAt w b 2 (m.map skV)) :
    Calls Try.prog 19 #[.slice a n c, .slice b n d] w fun e w' => e = .returned (.bool (decide (l = m))) ∧ Below w.heap.size w w' := by
  have := c19 a l c b m d w (by omega) (by omega) hA hB
  rwa [hn, hm] at this

theorem c33 (a : Option Addr) (l : List (Int × Int)) (c : Nat) (b : Option Addr) (ev : List Ev) (d : Nat) (w : World) (hl : l.length ≤ 40) (he : ev.length ≤ 200) (hA : SlAt w a 2 (l.map skV)) (hB : SlAt w b 6 (ev.map evV))
    (hx : ∀ x ∈ ev, evErr x l.length = 0) (hm : Mild l) :
    Calls Try.prog 33 #[.slice a l.length c, .slice b ev.length d] w fun e w' => ∃ a' c', e = .returned (.agg #[.slice a' (narrowS ev l).1.length c', .int .i64 (narrowS ev l).2]) ∧ SlAt w' a' 2 ((narrowS ev l).1.map skV) ∧ (a' = a ∨ ∀ p, a' = some p → w.heap.size ≤ p.block) ∧ Below w.heap.size w w' := by
  obtain ⟨n, hn⟩ : ∃ n, l.length = n := ⟨_, rfl⟩
  rw [hn] at hl hx ⊢
  refine enter [(0, .slice a n c), (1, .slice b ev.length d)] Try.func33 rfl Try.ntmps33 (by simp) ⟨rfl, rfl, trivial⟩ ?_
  repeat' (first | (apply G.move; rfl; rfl; rfl; rfl) | (apply G.assign; rfl; rfl; rfl; rfl) | (apply G.fieldAddr; rfl; rfl; rfl; rfl) | (apply G.load; rfl; (first | (apply LdV.one; (first | exact CellV.row0 (by assumption) rfl | exact CellV.rowS (by assumption) rfl | (apply CellV.blk; (repeat (first | exact List.Mem.head _ | apply List.Mem.tail)); rfl))) | (apply LdV.aggBlk; (repeat (first | exact List.Mem.head _ | apply List.Mem.tail)); rfl) | (apply LdV.aggRow; assumption; rfl)); rfl; rfl; rfl) | (apply G.nil; rfl) | apply J.seq | (apply J.condT; rfl) | (apply J.condF; rfl) | apply J.skip | apply J.block | apply J.inBlock | (apply J.exit; rfl) | (apply G.skip; rfl; rfl; rfl; rfl; rfl) | (apply G.lenSlice; rfl; rfl; rfl; rfl) | (apply G.indexAddr; rfl; rfl; rfl; omega; rfl; rfl; rfl) | (apply G.notT; rfl; rfl; rfl; rfl) | (apply G.notF; rfl; rfl; rfl; rfl) | (apply G.pickT; rfl; rfl; rfl; rfl; rfl) | (apply G.pickF; rfl; rfl; rfl; rfl; rfl) | (apply G.lss; rfl; rfl; rfl; rfl; rfl; all_goals intro h; all_goals try (exfalso; omega)) | (apply G.leq; rfl; rfl; rfl; rfl; rfl; all_goals intro h; all_goals try (exfalso; omega)) | (apply G.gtr; rfl; rfl; rfl; rfl; rfl; all_goals intro h; all_goals try (exfalso; omega)) | (apply G.geq; rfl; rfl; rfl; rfl; rfl; all_goals intro h; all_goals try (exfalso; omega)) | (apply G.eql; rfl; rfl; rfl; rfl; rfl; all_goals intro h; all_goals try (exfalso; omega)) | (apply G.neq; rfl; rfl; rfl; rfl; rfl; all_goals intro h; all_goals try (exfalso; omega)) | (apply G.eql2; rfl; rfl; rfl; rfl; rfl; all_goals intro h; all_goals try (exfalso; omega)) | (apply G.neq2; rfl; rfl; rfl; rfl; rfl; all_goals intro h; all_goals try (exfalso; omega)) | (apply G.add; rfl; rfl; omega; omega; rfl; rfl; rfl) | (apply G.sub; rfl; rfl; omega; omega; rfl; rfl; rfl) | (apply G.addW; rfl; rfl; rfl; rfl; rfl) | (apply G.subW; rfl; rfl; rfl; rfl; rfl) | (apply G.extract; rfl; rfl; rfl; rfl; rfl) | (apply G.build; rfl; rfl; rfl; rfl; rfl) | (apply G.neg; rfl; omega; omega; rfl; rfl; rfl) | (apply G.max2; rfl; rfl; rfl; rfl; rfl) | (apply G.min2; rfl; rfl; rfl; rfl; rfl) | (apply G.box; rfl; rfl; rfl; rfl; rfl; intro Bk) | (apply G.alloc; rfl; rfl; rfl; intro Bk) | (apply G.store (i := 0); rfl; rfl; rfl; rfl; rfl; rfl; rfl; rfl; rfl) | (apply G.store (i := 1); rfl; rfl; rfl; rfl; rfl; rfl; rfl; rfl; rfl) | (apply G.store (i := 2); rfl; rfl; rfl; rfl; rfl; rfl; rfl; rfl; rfl) | (apply G.store (i := 3); rfl; rfl; rfl; rfl; rfl; rfl; rfl; rfl; rfl) | (apply G.store (i := 4); rfl; rfl; rfl; rfl; rfl; rfl; rfl; rfl; rfl) | (apply G.storeSame (i := 0); rfl; rfl; rfl; rfl; rfl; rfl; rfl; rfl; rfl; rfl) | (apply G.storeSame (i := 1); rfl; rfl; rfl; rfl; rfl; rfl; rfl; rfl; rfl; rfl) | (apply G.storeSame (i := 2); rfl; rfl; rfl; rfl; rfl; rfl; rfl; rfl; rfl; rfl) | (apply J.regQ; exact Try.mixed; decide +kernel) | apply J.reg)
  apply J.slOld hA
  refine J.loop (c := _) ((l, a, c) : List (Int × Int) × Option Addr × Nat) (fun x => muS x.1) (fun x => [(0, .slice x.2.1 n x.2.2), (1, .slice b ev.length d), (4, .pointer (some ⟨Bk, 0, none⟩))]) (fun x => [slRow w.heap.size x.2.1 2 (x.1.map skV), .blk Bk 34 [.slice none 0 0, .int .i64 0] 2]) (fun x => x.1.length = n ∧ Nar l x.1 ∧ narrowS ev x.1 = narrowS ev l ∧ (x.2.1 = a ∨ ∀ p, x.2.1 = some p → w.heap.size ≤ p.block)) ?_ (by (repeat' (first | exact trivial | refine ⟨rfl, ?_⟩))) (by (repeat' (first | exact List.Sublist.refl _ | apply List.Sublist.cons_cons | apply List.Sublist.cons))) ?_
  · exact ⟨hn, Nar.refl _, rfl, .inl rfl⟩
  intro ⟨m, am, cm⟩ hI ihO
  obtain ⟨h1, h2, h3, h4⟩ := hI
  dsimp only at h1 h2 h3 h4 ⊢
  repeat' (first | (apply G.callB (g := 44); rfl; rfl; rfl; rfl; exact fun w' hw => c44n am m cm n w' h1 hl (hw.sl (.head _)); all_goals intro h) | (apply G.move; rfl; rfl; rfl; rfl) | (apply G.assign; rfl; rfl; rfl; rfl) | (apply G.fieldAddr; rfl; rfl; rfl; rfl) | (apply G.load; rfl; (first | (apply LdV.one; (first | exact CellV.row0 (by assumption) rfl | exact CellV.rowS (by assumption) rfl | (apply CellV.blk; (repeat (first | exact List.Mem.head _ | apply List.Mem.tail)); rfl))) | (apply LdV.aggBlk; (repeat (first | exact List.Mem.head _ | apply List.Mem.tail)); rfl) | (apply LdV.aggRow; assumption; rfl)); rfl; rfl; rfl) | (apply G.nil; rfl) | apply J.seq | (apply J.condT; rfl) | (apply J.condF; rfl) | apply J.skip | apply J.block | apply J.inBlock | (apply J.exit; rfl) | (apply G.skip; rfl; rfl; rfl; rfl; rfl) | (apply G.lenSlice; rfl; rfl; rfl; rfl) | (apply G.indexAddr; rfl; rfl; rfl; omega; rfl; rfl; rfl) | (apply G.notT; rfl; rfl; rfl; rfl) | (apply G.notF; rfl; rfl; rfl; rfl) | (apply G.pickT; rfl; rfl; rfl; rfl; rfl) | (apply G.pickF; rfl; rfl; rfl; rfl; rfl) | (apply G.lss; rfl; rfl; rfl; rfl; rfl; all_goals intro h; all_goals try (exfalso; omega)) | (apply G.leq; rfl; rfl; rfl; rfl; rfl; all_goals intro h; all_goals try (exfalso; omega)) | (apply G.gtr; rfl; rfl; rfl; rfl; rfl; all_goals intro h; all_goals try (exfalso; omega)) | (apply G.geq; rfl; rfl; rfl; rfl; rfl; all_goals intro h; all_goals try (exfalso; omega)) | (apply G.eql; rfl; rfl; rfl; rfl; rfl; all_goals intro h; all_goals try (exfalso; omega)) | (apply G.neq; rfl; rfl; rfl; rfl; rfl; all_goals intro h; all_goals try (exfalso; omega)) | (apply G.eql2; rfl; rfl; rfl; rfl; rfl; all_goals intro h; all_goals try (exfalso; omega)) | (apply G.neq2; rfl; rfl; rfl; rfl; rfl; all_goals intro h; all_goals try (exfalso; omega)) | (apply G.add; rfl; rfl; omega; omega; rfl; rfl; rfl) | (apply G.sub; rfl; rfl; omega; omega; rfl; rfl; rfl) | (apply G.addW; rfl; rfl; rfl; rfl; rfl) | (apply G.subW; rfl; rfl; rfl; rfl; rfl) | (apply G.extract; rfl; rfl; rfl; rfl; rfl) | (apply G.build; rfl; rfl; rfl; rfl; rfl) | (apply G.neg; rfl; omega; omega; rfl; rfl; rfl) | (apply G.max2; rfl; rfl; rfl; rfl; rfl) | (apply G.min2; rfl; rfl; rfl; rfl; rfl) | (apply G.box; rfl; rfl; rfl; rfl; rfl; intro Bk) | (apply G.alloc; rfl; rfl; rfl; intro Bk) | (apply G.store (i := 0); rfl; rfl; rfl; rfl; rfl; rfl; rfl; rfl; rfl) | (apply G.store (i := 1); rfl; rfl; rfl; rfl; rfl; rfl; rfl; rfl; rfl) | (apply G.store (i := 2); rfl; rfl; rfl; rfl; rfl; rfl; rfl; rfl; rfl) | (apply G.store (i := 3); rfl; rfl; rfl; rfl; rfl; rfl; rfl; rfl; rfl) | (apply G.store (i := 4); rfl; rfl; rfl; rfl; rfl; rfl; rfl; rfl; rfl) | (apply G.storeSame (i := 0); rfl; rfl; rfl; rfl; rfl; rfl; rfl; rfl; rfl; rfl) | (apply G.storeSame (i := 1); rfl; rfl; rfl; rfl; rfl; rfl; rfl; rfl; rfl; rfl) | (apply G.storeSame (i := 2); rfl; rfl; rfl; rfl; rfl; rfl; rfl; rfl; rfl; rfl) | (apply J.regQ; exact Try.mixed; decide +kernel) | apply J.reg)
  · skip
    (apply leave Try.func33; (apply RunsTo.one Try.results33; (first | (apply ResV.tmp; rfl) | (apply ResV.cell; rfl; (first | (apply LdV.one; (first | exact CellV.row0 (by assumption) rfl | exact CellV.rowS (by assumption) rfl | (apply CellV.blk; (repeat (first | exact List.Mem.head _ | apply List.Mem.tail)); rfl))) | (apply LdV.aggBlk; (repeat (first | exact List.Mem.head _ | apply List.Mem.tail)); rfl) | (apply LdV.aggRow; assumption; rfl))))); intro w' hw)
    refine ⟨none, 0, ?_, ?_, .inr (by simp), hw.below⟩
    · rw [← h3, narrowS_empty ‹_›]; rfl
    · rw [← h3, narrowS_empty ‹_›]; exact SlAt.nil
  have hmild := hm.nar h2
  have hsm := hmild.small ‹_›
  apply J.slDup (.head _)
  refine J.loop (c := _) ((0, m, am, cm) : Nat × List (Int × Int) × Option Addr × Nat) (fun x => ev.length - x.1) (fun x => [(0, .slice am n cm), (1, .slice b ev.length d), (4, .pointer (some ⟨Bk, 0, none⟩)), (6, .slice x.2.2.1 n x.2.2.2), (7, .int .i64 x.1)]) (fun x => [slRow w.heap.size x.2.2.1 2 (x.2.1.map skV), slRow w.heap.size am 2 (m.map skV), .blk Bk 34 [.slice none 0 0, .int .i64 0] 2]) (fun x => x.1 ≤ ev.length ∧ x.2.1.length = n ∧ roundS (ev.drop x.1) x.2.1 = roundS ev m ∧ Small (2000 + x.1 * 11220480) x.2.1 ∧ (x.2.2.1 = a ∨ ∀ p, x.2.2.1 = some p → w.heap.size ≤ p.block)) ?_ (by (repeat' (first | exact trivial | refine ⟨rfl, ?_⟩))) (by (repeat' (first | exact List.Sublist.refl _ | apply List.Sublist.cons_cons | apply List.Sublist.cons))) ?_
  · exact ⟨Nat.zero_le _, h1, rfl, by simpa using hsm, h4⟩
  intro ⟨k, l', a', c'⟩ hI ih
  obtain ⟨k1, k2, k3, k4, k5⟩ := hI
  dsimp only at k1 k2 k3 k4 k5 ⊢
  by_cases hlt : k < ev.length
  · obtain ⟨bb, offb, rfl, hrow⟩ := hB.at k hlt
    have hxk := hx _ (List.getElem_mem hlt)
    repeat' (first | (apply G.callS (g := 45) (n := n) (sz := 2) ((onceS l' ev[k]).map skV); rfl; rfl; rfl; rfl; exact fun w' hw => c45n a' l' c' n ev[k] _ w' k2 hl (hw.sl (.head _)) hxk (by omega) k4; intro g cg hcg hg) | (apply G.move; rfl; rfl; rfl; rfl) | (apply G.assign; rfl; rfl; rfl; rfl) | (apply G.fieldAddr; rfl; rfl; rfl; rfl) | (apply G.load; rfl; (first | (apply LdV.one; (first | exact CellV.row0 (by assumption) rfl | exact CellV.rowS (by assumption) rfl | (apply CellV.blk; (repeat (first | exact List.Mem.head _ | apply List.Mem.tail)); rfl))) | (apply LdV.aggBlk; (repeat (first | exact List.Mem.head _ | apply List.Mem.tail)); rfl) | (apply LdV.aggRow; assumption; rfl)); rfl; rfl; rfl) | (apply G.nil; rfl) | apply J.seq | (apply J.condT; rfl) | (apply J.condF; rfl) | apply J.skip | apply J.block | apply J.inBlock | (apply J.exit; rfl) | (apply G.skip; rfl; rfl; rfl; rfl; rfl) | (apply G.lenSlice; rfl; rfl; rfl; rfl) | (apply G.indexAddr; rfl; rfl; rfl; omega; rfl; rfl; rfl) | (apply G.notT; rfl; rfl; rfl; rfl) | (apply G.notF; rfl; rfl; rfl; rfl) | (apply G.pickT; rfl; rfl; rfl; rfl; rfl) | (apply G.pickF; rfl; rfl; rfl; rfl; rfl) | (apply G.lss; rfl; rfl; rfl; rfl; rfl; all_goals intro h; all_goals try (exfalso; omega)) | (apply G.leq; rfl; rfl; rfl; rfl; rfl; all_goals intro h; all_goals try (exfalso; omega)) | (apply G.gtr; rfl; rfl; rfl; rfl; rfl; all_goals intro h; all_goals try (exfalso; omega)) | (apply G.geq; rfl; rfl; rfl; rfl; rfl; all_goals intro h; all_goals try (exfalso; omega)) | (apply G.eql; rfl; rfl; rfl; rfl; rfl; all_goals intro h; all_goals try (exfalso; omega)) | (apply G.neq; rfl; rfl; rfl; rfl; rfl; all_goals intro h; all_goals try (exfalso; omega)) | (apply G.eql2; rfl; rfl; rfl; rfl; rfl; all_goals intro h; all_goals try (exfalso; omega)) | (apply G.neq2; rfl; rfl; rfl; rfl; rfl; all_goals intro h; all_goals try (exfalso; omega)) | (apply G.add; rfl; rfl; omega; omega; rfl; rfl; rfl) | (apply G.sub; rfl; rfl; omega; omega; rfl; rfl; rfl) | (apply G.addW; rfl; rfl; rfl; rfl; rfl) | (apply G.subW; rfl; rfl; rfl; rfl; rfl) | (apply G.extract; rfl; rfl; rfl; rfl; rfl) | (apply G.build; rfl; rfl; rfl; rfl; rfl) | (apply G.neg; rfl; omega; omega; rfl; rfl; rfl) | (apply G.max2; rfl; rfl; rfl; rfl; rfl) | (apply G.min2; rfl; rfl; rfl; rfl; rfl) | (apply G.box; rfl; rfl; rfl; rfl; rfl; intro Bk) | (apply G.alloc; rfl; rfl; rfl; intro Bk) | (apply G.store (i := 0); rfl; rfl; rfl; rfl; rfl; rfl; rfl; rfl; rfl) | (apply G.store (i := 1); rfl; rfl; rfl; rfl; rfl; rfl; rfl; rfl; rfl) | (apply G.store (i := 2); rfl; rfl; rfl; rfl; rfl; rfl; rfl; rfl; rfl) | (apply G.store (i := 3); rfl; rfl; rfl; rfl; rfl; rfl; rfl; rfl; rfl) | (apply G.store (i := 4); rfl; rfl; rfl; rfl; rfl; rfl; rfl; rfl; rfl) | (apply G.storeSame (i := 0); rfl; rfl; rfl; rfl; rfl; rfl; rfl; rfl; rfl; rfl) | (apply G.storeSame (i := 1); rfl; rfl; rfl; rfl; rfl; rfl; rfl; rfl; rfl; rfl) | (apply G.storeSame (i := 2); rfl; rfl; rfl; rfl; rfl; rfl; rfl; rfl; rfl; rfl) | (apply J.regQ; exact Try.mixed; decide +kernel) | apply J.reg)
    (refine J.forget (by (repeat' (first | exact List.Sublist.refl _ | apply List.Sublist.cons_cons | apply List.Sublist.cons))) (J.sub (by (repeat' (first | exact trivial | refine ⟨rfl, ?_⟩))) (ih (k + 1, onceS l' ev[k], some ⟨g, 0, none⟩, cg) ?_ (show ev.length - (k + 1) < ev.length - k by omega))))
    refine ⟨hlt, ?_, ?_, ?_, .inr fun p hp => by cases hp; exact hg⟩
    · dsimp only; rw [(once_nar l' ev[k]).1]; exact k2
    · dsimp only; rw [← k3, List.drop_eq_getElem_cons hlt]; rfl
    · dsimp only
      have := once_small k4 hxk
      rwa [show (2000 : Int) + (k : Int) * 11220480 + 11220480 = 2000 + ((k + 1 : Nat) : Int) * 11220480 by omega] at this
  · have hrd : l' = roundS ev m := by rw [← k3, List.drop_eq_nil_of_le (by omega)]; rfl
    repeat' (first | (apply G.callB (g := 19); rfl; rfl; rfl; rfl; exact fun w' hw => c19n a' l' c' n am m cm w' k2 h1 hl (hw.sl (.head _)) (hw.sl (.tail _ (.head _))); all_goals intro h) | (apply G.move; rfl; rfl; rfl; rfl) | (apply G.assign; rfl; rfl; rfl; rfl) | (apply G.fieldAddr; rfl; rfl; rfl; rfl) | (apply G.load; rfl; (first | (apply LdV.one; (first | exact CellV.row0 (by assumption) rfl | exact CellV.rowS (by assumption) rfl | (apply CellV.blk; (repeat (first | exact List.Mem.head _ | apply List.Mem.tail)); rfl))) | (apply LdV.aggBlk; (repeat (first | exact List.Mem.head _ | apply List.Mem.tail)); rfl) | (apply LdV.aggRow; assumption; rfl)); rfl; rfl; rfl) | (apply G.nil; rfl) | apply J.seq | (apply J.condT; rfl) | (apply J.condF; rfl) | apply J.skip | apply J.block | apply J.inBlock | (apply J.exit; rfl) | (apply G.skip; rfl; rfl; rfl; rfl; rfl) | (apply G.lenSlice; rfl; rfl; rfl; rfl) | (apply G.indexAddr; rfl; rfl; rfl; omega; rfl; rfl; rfl) | (apply G.notT; rfl; rfl; rfl; rfl) | (apply G.notF; rfl; rfl; rfl; rfl) | (apply G.pickT; rfl; rfl; rfl; rfl; rfl) | (apply G.pickF; rfl; rfl; rfl; rfl; rfl) | (apply G.lss; rfl; rfl; rfl; rfl; rfl; all_goals intro h; all_goals try (exfalso; omega)) | (apply G.leq; rfl; rfl; rfl; rfl; rfl; all_goals intro h; all_goals try (exfalso; omega)) | (apply G.gtr; rfl; rfl; rfl; rfl; rfl; all_goals intro h; all_goals try (exfalso; omega)) | (apply G.geq; rfl; rfl; rfl; rfl; rfl; all_goals intro h; all_goals try (exfalso; omega)) | (apply G.eql; rfl; rfl; rfl; rfl; rfl; all_goals intro h; all_goals try (exfalso; omega)) | (apply G.neq; rfl; rfl; rfl; rfl; rfl; all_goals intro h; all_goals try (exfalso; omega)) | (apply G.eql2; rfl; rfl; rfl; rfl; rfl; all_goals intro h; all_goals try (exfalso; omega)) | (apply G.neq2; rfl; rfl; rfl; rfl; rfl; all_goals intro h; all_goals try (exfalso; omega)) | (apply G.add; rfl; rfl; omega; omega; rfl; rfl; rfl) | (apply G.sub; rfl; rfl; omega; omega; rfl; rfl; rfl) | (apply G.addW; rfl; rfl; rfl; rfl; rfl) | (apply G.subW; rfl; rfl; rfl; rfl; rfl) | (apply G.extract; rfl; rfl; rfl; rfl; rfl) | (apply G.build; rfl; rfl; rfl; rfl; rfl) | (apply G.neg; rfl; omega; omega; rfl; rfl; rfl) | (apply G.max2; rfl; rfl; rfl; rfl; rfl) | (apply G.min2; rfl; rfl; rfl; rfl; rfl) | (apply G.box; rfl; rfl; rfl; rfl; rfl; intro Bk) | (apply G.alloc; rfl; rfl; rfl; intro Bk) | (apply G.store (i := 0); rfl; rfl; rfl; rfl; rfl; rfl; rfl; rfl; rfl) | (apply G.store (i := 1); rfl; rfl; rfl; rfl; rfl; rfl; rfl; rfl; rfl) | (apply G.store (i := 2); rfl; rfl; rfl; rfl; rfl; rfl; rfl; rfl; rfl) | (apply G.store (i := 3); rfl; rfl; rfl; rfl; rfl; rfl; rfl; rfl; rfl) | (apply G.store (i := 4); rfl; rfl; rfl; rfl; rfl; rfl; rfl; rfl; rfl) | (apply G.storeSame (i := 0); rfl; rfl; rfl; rfl; rfl; rfl; rfl; rfl; rfl; rfl) | (apply G.storeSame (i := 1); rfl; rfl; rfl; rfl; rfl; rfl; rfl; rfl; rfl; rfl) | (apply G.storeSame (i := 2); rfl; rfl; rfl; rfl; rfl; rfl; rfl; rfl; rfl; rfl) | (apply J.regQ; exact Try.mixed; decide +kernel) | apply J.reg)
    · have heq : l' = m := by simpa using ‹decide (l' = m) = true›
      have hres : narrowS ev l = (m, 0) := by rw [← h3, narrowS_same ‹_› (by rw [← hrd, heq])]
      (apply leave Try.func33; (apply RunsTo.one Try.results33; (first | (apply ResV.tmp; rfl) | (apply ResV.cell; rfl; (first | (apply LdV.one; (first | exact CellV.row0 (by assumption) rfl | exact CellV.rowS (by assumption) rfl | (apply CellV.blk; (repeat (first | exact List.Mem.head _ | apply List.Mem.tail)); rfl))) | (apply LdV.aggBlk; (repeat (first | exact List.Mem.head _ | apply List.Mem.tail)); rfl) | (apply LdV.aggRow; assumption; rfl))))); intro w' hw)
      refine ⟨am, cm, ?_, ?_, h4, hw.below⟩
      · rw [hres]; dsimp only; rw [h1]; rfl
      · rw [hres]; exact hw.sl (.tail _ (.head _))
    · have hne : ¬ l' = m := by simpa using ‹decide (l' = m) = false›
      have hstep : narrowS ev m = narrowS ev l' := by rw [narrowS_step ‹_› (by rw [← hrd]; exact hne), ← hrd]
      refine J.forget (by (repeat' (first | exact List.Sublist.refl _ | apply List.Sublist.cons_cons | apply List.Sublist.cons))) (J.sub (by (repeat' (first | exact trivial | refine ⟨rfl, ?_⟩))) (ihO (l', a', c') ⟨k2, h2.trans (by rw [hrd]; exact round_nar ev m), hstep.symm.trans h3, k5⟩ (by rw [hrd]; exact mu_lt ‹_› (by rw [← hrd]; exact hne))))

theorem mild_of {l : List (Int × Int)} (h : ∀ s ∈ l, validB s = true) : Mild l := fun i => by
  rcases Nat.lt_or_ge i l.length with hi | hi
  · have := h l[i] (List.getElem_mem hi)
    rw [gS_get hi]
    simp only [validB, decide_eq_true_eq] at this
    omega
  · rw [gS, List.getD_eq_getElem?_getD, List.getElem?_eq_none hi]; exact ⟨by decide, by decide⟩

def nrwS (sk : List (Int × Int)) (ev : List Ev) : List (Int × Int) × Int := if checkS sk ev = 0 then narrowS ev sk else ([], checkS sk ev)

theorem narrowS_len (ev : List Ev) (l : List (Int × Int)) : (narrowS ev l).1.length ≤ l.length := by
  fun_induction narrowS ev l with
  | case1 => exact Nat.zero_le _
  | case2 => exact Nat.le_refl _
  | case3 l h1 h2 h3 ih => rw [(round_nar ev l).1] at ih; exact ih
  | case4 => exact Nat.zero_le _

theorem c12 (a : Option Addr) (sk : List (Int × Int)) (c : Nat) (b : Option Addr) (ev : List Ev) (d : Nat) (w : World) (hl : sk.length ≤ 9223372036854775807) (hm : ev.length ≤ 9223372036854775807) (hA : SlAt w a 2 (sk.map skV)) (hB : SlAt w b 6 (ev.map evV)) :
    Calls Try.prog 12 #[.agg #[.slice a sk.length c, .slice b ev.length d]] w fun e w' => ∃ a' c', e = .returned (.agg #[.slice a' (nrwS sk ev).1.length c', .int .i64 (nrwS sk ev).2]) ∧ SlAt w' a' 2 ((nrwS sk ev).1.map skV) ∧ Below w.heap.size w w' := by
  refine enter [(0, .agg #[.slice a sk.length c, .slice b ev.length d])] Try.func12 rfl Try.ntmps12 (by simp) ⟨rfl, trivial⟩ ?_
  repeat' (first | (apply G.callV (g := 16); rfl; rfl; rfl; rfl; exact fun w' hw => c16 a sk c b ev d w' hl hm (hA.below hw.below) (hB.below hw.below)) | (apply G.move; rfl; rfl; rfl; rfl) | (apply G.assign; rfl; rfl; rfl; rfl) | (apply G.fieldAddr; rfl; rfl; rfl; rfl) | (apply G.load; rfl; (first | (apply LdV.one; (first | exact CellV.row0 (by assumption) rfl | exact CellV.rowS (by assumption) rfl | (apply CellV.blk; (repeat (first | exact List.Mem.head _ | apply List.Mem.tail)); rfl))) | (apply LdV.aggBlk; (repeat (first | exact List.Mem.head _ | apply List.Mem.tail)); rfl) | (apply LdV.aggRow; assumption; rfl)); rfl; rfl; rfl) | (apply G.nil; rfl) | apply J.seq | (apply J.condT; rfl) | (apply J.condF; rfl) | apply J.skip | apply J.block | apply J.inBlock | (apply J.exit; rfl) | (apply G.skip; rfl; rfl; rfl; rfl; rfl) | (apply G.lenSlice; rfl; rfl; rfl; rfl) | (apply G.indexAddr; rfl; rfl; rfl; omega; rfl; rfl; rfl) | (apply G.notT; rfl; rfl; rfl; rfl) | (apply G.notF; rfl; rfl; rfl; rfl) | (apply G.pickT; rfl; rfl; rfl; rfl; rfl) | (apply G.pickF; rfl; rfl; rfl; rfl; rfl) | (apply G.lss; rfl; rfl; rfl; rfl; rfl; all_goals intro h; all_goals try (exfalso; omega)) | (apply G.leq; rfl; rfl; rfl; rfl; rfl; all_goals intro h; all_goals try (exfalso; omega)) | (apply G.gtr; rfl; rfl; rfl; rfl; rfl; all_goals intro h; all_goals try (exfalso; omega)) | (apply G.geq; rfl; rfl; rfl; rfl; rfl; all_goals intro h; all_goals try (exfalso; omega)) | (apply G.eql; rfl; rfl; rfl; rfl; rfl; all_goals intro h; all_goals try (exfalso; omega)) | (apply G.neq; rfl; rfl; rfl; rfl; rfl; all_goals intro h; all_goals try (exfalso; omega)) | (apply G.eql2; rfl; rfl; rfl; rfl; rfl; all_goals intro h; all_goals try (exfalso; omega)) | (apply G.neq2; rfl; rfl; rfl; rfl; rfl; all_goals intro h; all_goals try (exfalso; omega)) | (apply G.add; rfl; rfl; omega; omega; rfl; rfl; rfl) | (apply G.sub; rfl; rfl; omega; omega; rfl; rfl; rfl) | (apply G.addW; rfl; rfl; rfl; rfl; rfl) | (apply G.subW; rfl; rfl; rfl; rfl; rfl) | (apply G.extract; rfl; rfl; rfl; rfl; rfl) | (apply G.build; rfl; rfl; rfl; rfl; rfl) | (apply G.neg; rfl; omega; omega; rfl; rfl; rfl) | (apply G.max2; rfl; rfl; rfl; rfl; rfl) | (apply G.min2; rfl; rfl; rfl; rfl; rfl) | (apply G.box; rfl; rfl; rfl; rfl; rfl; intro Bk) | (apply G.alloc; rfl; rfl; rfl; intro Bk) | (apply G.store (i := 0); rfl; rfl; rfl; rfl; rfl; rfl; rfl; rfl; rfl) | (apply G.store (i := 1); rfl; rfl; rfl; rfl; rfl; rfl; rfl; rfl; rfl) | (apply G.store (i := 2); rfl; rfl; rfl; rfl; rfl; rfl; rfl; rfl; rfl) | (apply G.store (i := 3); rfl; rfl; rfl; rfl; rfl; rfl; rfl; rfl; rfl) | (apply G.store (i := 4); rfl; rfl; rfl; rfl; rfl; rfl; rfl; rfl; rfl) | (apply G.storeSame (i := 0); rfl; rfl; rfl; rfl; rfl; rfl; rfl; rfl; rfl; rfl) | (apply G.storeSame (i := 1); rfl; rfl; rfl; rfl; rfl; rfl; rfl; rfl; rfl; rfl) | (apply G.storeSame (i := 2); rfl; rfl; rfl; rfl; rfl; rfl; rfl; rfl; rfl; rfl) | (apply J.regQ; exact Try.mixed; decide +kernel) | apply J.reg)
  · skip
    (apply leave Try.func12; (apply RunsTo.one Try.results12; (first | (apply ResV.tmp; rfl) | (apply ResV.cell; rfl; (first | (apply LdV.one; (first | exact CellV.row0 (by assumption) rfl | exact CellV.rowS (by assumption) rfl | (apply CellV.blk; (repeat (first | exact List.Mem.head _ | apply List.Mem.tail)); rfl))) | (apply LdV.aggBlk; (repeat (first | exact List.Mem.head _ | apply List.Mem.tail)); rfl) | (apply LdV.aggRow; assumption; rfl))))); intro w' hw)
    refine ⟨none, 0, ?_, ?_, hw.below⟩
    · rw [nrwS, if_neg ‹_›]; rfl
    · rw [nrwS, if_neg ‹_›]; exact SlAt.nil
  have hc0 : checkS sk ev = 0 := Decidable.not_not.1 ‹¬ checkS sk ev ≠ 0›
  obtain ⟨h1, h2, h3, h4⟩ := checkS_zero hc0
  have hres : nrwS sk ev = narrowS ev sk := by rw [nrwS, if_pos hc0]
  have hcall : ∀ w', Below w.heap.size w w' → Calls Try.prog 33 #[.slice a sk.length c, .slice b ev.length d] w' fun e w2 => ∃ a' c', e = .returned (.agg #[.slice a' (narrowS ev sk).1.length c', .int .i64 (narrowS ev sk).2]) ∧ SlAt w2 a' 2 ((narrowS ev sk).1.map skV) ∧ (∀ p, a' = some p → 0 < ((narrowS ev sk).1.map skV).length → p.block < w.heap.size ∨ w'.heap.size ≤ p.block ∨ False) ∧ Below w'.heap.size w' w2 := fun w' hw =>
    (c33 a sk c b ev d w' h1 h2 (hA.below hw) (hB.below hw) h4 (mild_of h3)).mono fun e w2 he => by
      obtain ⟨a', c', q1, q2, q3, q4⟩ := he
      refine ⟨a', c', q1, q2, fun p hp h0 => ?_, q4⟩
      rcases q3 with rfl | q3
      · refine .inl (hA.lt ?_ hp)
        have := narrowS_len ev sk
        simp only [List.length_map] at h0 ⊢
        omega
      · exact .inr (.inl (q3 p hp))
  repeat' (first | (apply G.callA (g := 33) (sz := 2) (fun a' c' => .agg #[.slice a' (narrowS ev sk).1.length c', .int .i64 (narrowS ev sk).2]) ((narrowS ev sk).1.map skV); rfl; rfl; rfl; rfl; exact fun w' hw => (hcall w' hw.below).mono fun e w2 ⟨a', c', q1, q2, q3, q4⟩ => ⟨a', c', q1, q2, fun p hp h0 => (q3 p hp h0).elim .inl fun h => .inr (h.elim .inl False.elim), q4⟩; intro a' c' _) | (apply G.move; rfl; rfl; rfl; rfl) | (apply G.assign; rfl; rfl; rfl; rfl) | (apply G.fieldAddr; rfl; rfl; rfl; rfl) | (apply G.load; rfl; (first | (apply LdV.one; (first | exact CellV.row0 (by assumption) rfl | exact CellV.rowS (by assumption) rfl | (apply CellV.blk; (repeat (first | exact List.Mem.head _ | apply List.Mem.tail)); rfl))) | (apply LdV.aggBlk; (repeat (first | exact List.Mem.head _ | apply List.Mem.tail)); rfl) | (apply LdV.aggRow; assumption; rfl)); rfl; rfl; rfl) | (apply G.nil; rfl) | apply J.seq | (apply J.condT; rfl) | (apply J.condF; rfl) | apply J.skip | apply J.block | apply J.inBlock | (apply J.exit; rfl) | (apply G.skip; rfl; rfl; rfl; rfl; rfl) | (apply G.lenSlice; rfl; rfl; rfl; rfl) | (apply G.indexAddr; rfl; rfl; rfl; omega; rfl; rfl; rfl) | (apply G.notT; rfl; rfl; rfl; rfl) | (apply G.notF; rfl; rfl; rfl; rfl) | (apply G.pickT; rfl; rfl; rfl; rfl; rfl) | (apply G.pickF; rfl; rfl; rfl; rfl; rfl) | (apply G.lss; rfl; rfl; rfl; rfl; rfl; all_goals intro h; all_goals try (exfalso; omega)) | (apply G.leq; rfl; rfl; rfl; rfl; rfl; all_goals intro h; all_goals try (exfalso; omega)) | (apply G.gtr; rfl; rfl; rfl; rfl; rfl; all_goals intro h; all_goals try (exfalso; omega)) | (apply G.geq; rfl; rfl; rfl; rfl; rfl; all_goals intro h; all_goals try (exfalso; omega)) | (apply G.eql; rfl; rfl; rfl; rfl; rfl; all_goals intro h; all_goals try (exfalso; omega)) | (apply G.neq; rfl; rfl; rfl; rfl; rfl; all_goals intro h; all_goals try (exfalso; omega)) | (apply G.eql2; rfl; rfl; rfl; rfl; rfl; all_goals intro h; all_goals try (exfalso; omega)) | (apply G.neq2; rfl; rfl; rfl; rfl; rfl; all_goals intro h; all_goals try (exfalso; omega)) | (apply G.add; rfl; rfl; omega; omega; rfl; rfl; rfl) | (apply G.sub; rfl; rfl; omega; omega; rfl; rfl; rfl) | (apply G.addW; rfl; rfl; rfl; rfl; rfl) | (apply G.subW; rfl; rfl; rfl; rfl; rfl) | (apply G.extract; rfl; rfl; rfl; rfl; rfl) | (apply G.build; rfl; rfl; rfl; rfl; rfl) | (apply G.neg; rfl; omega; omega; rfl; rfl; rfl) | (apply G.max2; rfl; rfl; rfl; rfl; rfl) | (apply G.min2; rfl; rfl; rfl; rfl; rfl) | (apply G.box; rfl; rfl; rfl; rfl; rfl; intro Bk) | (apply G.alloc; rfl; rfl; rfl; intro Bk) | (apply G.store (i := 0); rfl; rfl; rfl; rfl; rfl; rfl; rfl; rfl; rfl) | (apply G.store (i := 1); rfl; rfl; rfl; rfl; rfl; rfl; rfl; rfl; rfl) | (apply G.store (i := 2); rfl; rfl; rfl; rfl; rfl; rfl; rfl; rfl; rfl) | (apply G.store (i := 3); rfl; rfl; rfl; rfl; rfl; rfl; rfl; rfl; rfl) | (apply G.store (i := 4); rfl; rfl; rfl; rfl; rfl; rfl; rfl; rfl; rfl) | (apply G.storeSame (i := 0); rfl; rfl; rfl; rfl; rfl; rfl; rfl; rfl; rfl; rfl) | (apply G.storeSame (i := 1); rfl; rfl; rfl; rfl; rfl; rfl; rfl; rfl; rfl; rfl) | (apply G.storeSame (i := 2); rfl; rfl; rfl; rfl; rfl; rfl; rfl; rfl; rfl; rfl) | (apply J.regQ; exact Try.mixed; decide +kernel) | apply J.reg)
  (apply leave Try.func12; (apply RunsTo.one Try.results12; (first | (apply ResV.tmp; rfl) | (apply ResV.cell; rfl; (first | (apply LdV.one; (first | exact CellV.row0 (by assumption) rfl | exact CellV.rowS (by assumption) rfl | (apply CellV.blk; (repeat (first | exact List.Mem.head _ | apply List.Mem.tail)); rfl))) | (apply LdV.aggBlk; (repeat (first | exact List.Mem.head _ | apply List.Mem.tail)); rfl) | (apply LdV.aggRow; assumption; rfl))))); intro w' hw)
  exact ⟨a', c', by rw [hres]; rfl, by rw [hres]; exact hw.sl (.head _), hw.below⟩
end Go.Proofs.Ytjfbdffcgapdlaa
