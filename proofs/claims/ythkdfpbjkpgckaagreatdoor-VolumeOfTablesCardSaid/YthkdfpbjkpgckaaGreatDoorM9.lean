/-
  Contract: what a ledger takes of a duration table.
-/
import Derived.Test.YthkdfpbjkpgckaaGreatDoorM8
set_option linter.unusedVariables false
set_option linter.unusedSimpArgs false
set_option linter.unusedSectionVars false
namespace Go.Sl
theorem J.cutI {C : Ctx} {st : List (Nat × Value)} {M : List Row} {k : List Item} {i : Item} {X : Type} (stF : X → List (Nat × Value)) (MF : X → List Row) (h : (∀ x, J C (stF x) (MF x) k) → J C st M (i :: k)) (hk : ∀ x, J C (stF x) (MF x) k) : J C st M (i :: k) := h hk
end Go.Sl
namespace Go.Proofs.YthkdfpbjkpgckaaGreatDoor
open Go.RowKit Go.Sl Go.Num
theorem clsS_pos {r : Rn} : ∀ (l : List Spn) (k q : Int), 0 < q → (0 < (clsS r k q l).length)
  | [], k, q, h => by rw [clsS, if_pos h]; simp
  | s :: t, k, q, h => by
    rw [clsS]
    split
    · exact clsS_pos t (k + 1) q h
    · simp
theorem takeB_tab (l : List Spn) (r : Rn) {h : Int × Int} {tt : List (Int × Int)} (hq : r.tab = h :: tt) : takeB l r ↔ ∀ e ∈ clsL l r, ∀ y ∈ r.tab, ofR l e.1 y.1 - ofR l ((clsL l r).headD (0, 0)).1 y.1 = ofR l e.1 h.1 - ofR l ((clsL l r).headD (0, 0)).1 h.1 := by
  unfold takeB okE; rw [hq]
theorem takeV_tab (l : List Spn) (r : Rn) {h : Int × Int} {tt : List (Int × Int)} (hq : r.tab = h :: tt) : takeV l r = wsum (ofR l ((clsL l r).headD (0, 0)).1) r.tab + wsum (fun k => ofR l k h.1 - ofR l ((clsL l r).headD (0, 0)).1 h.1) (clsL l r) := by
  unfold takeV; rw [hq]
set_option maxHeartbeats 4000000 in
theorem takeTab_holds (w0 : World) (M : List Row) (w : World) (bl bm N : Nat) (a : Option Addr) (l : List Spn) (c : Nat) (x : Rat) (m : Nat) (S : Q3) (hS : S = rQ x) (r : Rn) (hw : Sat w0 (.blk bl 97 [.slice a l.length c, .map (some bm), .bool S.neg, .string (bs S.num), .string (bs S.den)] 5 :: .inv bm (Rates l) :: slRow N a 7 (l.map spV) :: M) w)
    (hP : ∀ s ∈ l, PtsAt w0 s) (hf : ∀ s ∈ l, fewS s) (hR : ∀ s ∈ l, RightS s) (hl : l.length ≤ 400) (ha : ∃ b off, a = some ⟨b, off, none⟩ ∨ l = [])
    (hx : fewQ m S) (hm : m ≤ 100000000) (hm1 : 1 ≤ m) (hr : 0 ≤ r.from_ ∧ r.from_ < r.to_ ∧ r.to_ ≤ 1402560) (h0 : 0 < r.tab.length) (hlen : r.tab.length ≤ 64) (hA : TabAt w0 r) (hlo : r.lo = 0 ∧ r.hi = 0) (htt : ∀ x ∈ r.tab, (0 ≤ x.1 ∧ x.1 ≤ 1000) ∧ 1 ≤ x.2 ∧ x.2 ≤ 1402560) :
    Calls Tryz.prog 56 #[.pointer (some ⟨bl, 0, none⟩), rnA r] w (fun e w' => ∃ (b : Bool) (S' : Q3) (y : Rat), e = .returned (.bool b) ∧ S' = rQ y ∧ fewQ (m + 300 * (l.length + 80)) S' ∧ (b = true → takeB l r ∧ y = x + takeV l r) ∧ (b = false → ¬ takeB l r) ∧ Sat w0 (.blk bl 97 [.slice a l.length c, .map (some bm), .bool S'.neg, .string (bs S'.num), .string (bs S'.den)] 5 :: .inv bm (Rates l) :: slRow N a 7 (l.map spV) :: M) w') := by
  have hcl : ∀ Br Bl, IterG Tryz.prog w0 [.blk Br 28 [.int .i64 r.from_, .int .i64 r.to_, .slice r.adr r.tab.length r.cap, .int .i64 r.lo, .int .i64 r.hi] 5, .blk Bl 25 [.slice a l.length c] 1, slRow N a 7 (l.map spV)] 125 #[.pointer (some ⟨Br, 0, none⟩), .pointer (some ⟨Bl, 0, none⟩)] (fun e : Int × Int => [.int .i64 e.1, .int .i64 e.2]) (clsL l r) := fun Br Bl => classes_iter w0 Br Bl N a l c r (by omega) hr (fun s hs => by have := (hR s hs).1; omega) ha
  have hok0 := clsS_ok (r := r) (l0 := l) l 0 (r.to_ - r.from_) (Int.le_refl _) (by omega) (by omega) (fun s hs => by have := (hR s hs).1; omega)
  have hlen0 := clsS_len (r := r) l 0 (r.to_ - r.from_)
  have hlenE : (clsL l r).length ≤ l.length + 1 := hlen0
  have hok : ∀ e ∈ clsL l r, e.1 < l.length ∧ -1 ≤ e.1 ∧ 0 < e.2 ∧ e.2 ≤ 1402560 := hok0
  clear hok0 hlen0
  obtain ⟨h, tt, hq⟩ : ∃ h tt, r.tab = h :: tt := by
    cases hq : r.tab with
    | nil => rw [hq] at h0; exact absurd h0 (Nat.lt_irrefl _)
    | cons h tt => exact ⟨h, tt, rfl⟩
  obtain ⟨st0, hst⟩ : ∃ z, z = h.1 := ⟨_, rfl⟩
  have hst0 : st0 = (r.tab[0]'h0).1 := by rw [hst]; simp [hq]
  obtain ⟨k0, hk0⟩ : ∃ z, z = ((clsL l r).headD (0, 0)).1 := ⟨_, rfl⟩
  have htB := takeB_tab l r hq
  have htV := takeV_tab l r hq
  rw [← hst, ← hk0] at htB htV
  clear hq
  rw [htV]
  simp only [htB]
  clear htB htV
  have hs0 : 0 ≤ st0 ∧ st0 ≤ 1000 := by rw [hst0]; exact (htt _ (List.getElem_mem h0)).1
  generalize hE : clsL l r = E at *
  obtain ⟨f, t, tab, adr, cap, lo, hi⟩ := r
  have hA : SlAt w0 adr 2 (tab.map hoV) := hA
  dsimp only at h0 hlo hlen hr htt hst0 hcl ⊢
  obtain ⟨rfl, rfl⟩ := hlo
  obtain ⟨ba, oa, rfl, hra⟩ := SlAt.all hA h0
  have hr0 := hra 0 h0
  dsimp only [hoV] at hr0
  rw [← hst0] at hr0
  refine enterR [(0, .pointer (some ⟨bl, 0, none⟩)), (1, .agg #[.int .i64 f, .int .i64 t, .slice (some ⟨ba, oa, none⟩) tab.length cap, .int .i64 0, .int .i64 0])] hw Tryz.func56 Tryz.ntmps56 ?_
  all_goals (refine goR ?_; and_intros <;> (try exact trivial) <;> intros)
  repeat' ((first | (apply J.regA (.q 0 <| .q 1 <| .q 2 <| .q 3 <| .q 4 <| .r 5 <| .nil); exact Tryz.mixed; decide +kernel) | (apply G.cR (g := 96) (v := fun x : Nat × Nat => .func (.func 125) #[] #[.pointer (some ⟨x.1, 0, none⟩), .pointer (some ⟨x.2, 0, none⟩)]) (Mn := fun x => [.blk x.1 28 [.int .i64 f, .int .i64 t, .slice (some ⟨ba, oa, none⟩) tab.length cap, .int .i64 0, .int .i64 0] 5, .blk x.2 25 [.slice a l.length c] 1]); rfl; rfl; exact fun w' hw' => classes_holds w0 _ w' a l c ⟨f, t, tab, some ⟨ba, oa, none⟩, cap, 0, 0⟩ hw'; rintro ⟨Br, Bl⟩) | (apply J.regQ; exact Tryz.mixed; decide +kernel) | (apply J.regL'; exact Tryz.mixed; decide +kernel)) <;> (refine goR ?_; and_intros <;> (try exact trivial) <;> intros))
  rename_i B2 B3 B4 B7 B8 B9 hz9
  refine J.slDup (sz := 7) (N := N) (a := a) (L := l.map spV) mm ?_
  refine J.rangeG (e1 := fun e : Int × Int => .int .i64 e.1) (e2 := fun e => .int .i64 e.2) (es := E) (fun s : Rat × Q3 × Bool × Int × Bool => [.blk bl 97 [.slice a l.length c, .map (some bm), .bool s.2.1.neg, .string (bs s.2.1.num), .string (bs s.2.1.den)] 5, .inv bm (Rates l), slRow N a 7 (l.map spV), .blk _ 4 [.bool s.2.2.2.2] 1, .blk _ 4 [.bool s.2.2.1] 1, .blk _ 3 [.int .i64 s.2.2.2.1] 1, .blk _ 3 [.int .i64 st0] 1, .blk _ 28 [.int .i64 f, .int .i64 t, .slice (some ⟨ba, oa, none⟩) tab.length cap, .int .i64 0, .int .i64 0] 5, .blk _ 91 [.pointer (some ⟨bl, 0, none⟩)] 1]) (fun i s => s.2.1 = rQ s.1 ∧ (i = 0 → fewQ m s.2.1 ∧ s.2.2.2.2 = false ∧ s.1 = x) ∧ (0 < i → fewQ (m + 300 * (i + 66)) s.2.1 ∧ s.2.2.2.2 = true ∧ s.2.2.2.1 = k0 ∧ s.1 + wsum (fun k => ofR l k st0 - ofR l k0 st0) (E.drop i) = x + (wsum (ofR l k0) tab + wsum (fun k => ofR l k st0 - ofR l k0 st0) E)) ∧ ∀ j (hj : j < E.length), j < i → ∀ y ∈ tab, ofR l E[j].1 y.1 - ofR l k0 y.1 = ofR l E[j].1 st0 - ofR l k0 st0) (fun cc s => cc = .ret ∧ s.2.2.1 = false ∧ s.2.1 = rQ s.1 ∧ fewQ (m + 300 * (E.length + 68)) s.2.1 ∧ ¬ ∀ e ∈ E, ∀ y ∈ tab, ofR l e.1 y.1 - ofR l k0 y.1 = ofR l e.1 st0 - ofR l k0 st0) (x, S, false, 0, false) M (hcl Br Bl) rfl rfl rfl rfl (by (repeat (first | exact List.Perm.refl _ | (refine pickT (by (repeat (first | exact Pick.head | apply Pick.tail))) ?_)))) ?_ ?_ ?_ ?_
  · exact ⟨hS, fun _ => ⟨hx, rfl, rfl⟩, fun h => absurd h (Nat.lt_irrefl _), fun j hj h => absurd h (Nat.not_lt_zero _)⟩
  · intro i ⟨y, S1, b, fst, bgn⟩ e ⟨i1, i2, i3, i4⟩ he L rr M' hrs hrp
    dsimp only at i1 i2 i3 i4 ⊢
    obtain ⟨hei, rfl⟩ := List.getElem?_eq_some_iff.1 he
    have hk := hok _ (List.getElem_mem hei)
    have hfirst : i = 0 → E[i].1 = k0 := fun h => by
      subst h
      rw [hk0]
      cases E with
      | nil => exact absurd hei (Nat.lt_irrefl _)
      | cons e0 t0 => rfl
    have hk0l : k0 < l.length ∧ -1 ≤ k0 := by
      have := hok _ (List.getElem_mem (show 0 < E.length by omega))
      rw [hk0]
      cases E with
      | nil => exact absurd hei (Nat.not_lt_zero _)
      | cons e0 t0 => exact ⟨this.1, this.2.1⟩
    rw [List.drop_eq_getElem_cons hei, wsum, ← Rat.add_assoc] at i3
    have hno : ∀ z ∈ tab, ofR l E[i].1 z.1 - ofR l k0 z.1 ≠ ofR l E[i].1 st0 - ofR l k0 st0 → ¬ ∀ e ∈ E, ∀ y ∈ tab, ofR l e.1 y.1 - ofR l k0 y.1 = ofR l e.1 st0 - ofR l k0 st0 := fun z hz h1 h2 => h1 (h2 _ (List.getElem_mem hei) z hz)
    have hyes : (∀ z ∈ tab, ofR l E[i].1 z.1 - ofR l k0 z.1 = ofR l E[i].1 st0 - ofR l k0 st0) → ∀ j (hj : j < E.length), j < i + 1 → ∀ y ∈ tab, ofR l E[j].1 y.1 - ofR l k0 y.1 = ofR l E[j].1 st0 - ofR l k0 st0 := fun h1 j hj h2 => by
      rcases Nat.lt_or_ge j i with h3 | h3
      · exact i4 j hj h3
      · obtain rfl : j = i := by omega
        exact h1
    clear he i4 hk0
    have hzero : i = 0 → wsum (fun k => ofR l k st0 - ofR l k0 st0) E = E[i].2 * (ofR l E[i].1 st0 - ofR l k0 st0) + wsum (fun k => ofR l k st0 - ofR l k0 st0) (E.drop (i + 1)) := fun h => by
      subst h
      cases E with
      | nil => exact absurd hei (Nat.lt_irrefl _)
      | cons e0 t0 => rfl
    generalize E[i] = e at *
    obtain ⟨k, n⟩ := e
    dsimp only at hk i3 hno hyes hzero hfirst ⊢
    obtain ⟨hk1, hk2, hk3, hk4⟩ := hk
    have hk01 := hk0l.1
    by_cases hi0 : i = 0
    · obtain rfl := hfirst hi0
      obtain ⟨i5, rfl, rfl⟩ := i2 hi0
      have hz := hzero hi0
      clear hfirst i2 i3 hzero
      all_goals (refine goR ?_; and_intros <;> (try exact trivial) <;> intros)
      repeat' ((first | (refine J.beginR rfl (i := 0) rfl hrs ?_) | (apply J.regQ; exact Tryz.mixed; decide +kernel) | (apply J.regL'; exact Tryz.mixed; decide +kernel)) <;> (refine goR ?_; and_intros <;> (try exact trivial) <;> intros))
      refine J.front3 (r1 := .blk bl 97 [.slice a l.length c, .map (some bm), .bool S1.neg, .string (bs S1.num), .string (bs S1.den)] 5) (r2 := .inv bm (Rates l)) (r3 := slRow N a 7 (l.map spV)) (by (repeat (first | exact Pick.head | apply Pick.tail))) (by (repeat (first | exact Pick.head | apply Pick.tail))) (by (repeat (first | exact Pick.head | apply Pick.tail))) ?_
      refine J.loop (c := _) ((0, y, S1) : Nat × Rat × Q3) (fun s => tab.length - s.1) (fun s => [(2, .pointer (some ⟨_, 0, none⟩)), (3, .pointer (some ⟨_, 0, none⟩)), (4, .pointer (some ⟨_, 0, none⟩)), (7, .pointer (some ⟨_, 0, none⟩)), (8, .pointer (some ⟨_, 0, none⟩)), (9, .pointer (some ⟨_, 0, none⟩)), (10, .int .i64 k), (11, .int .i64 n), (63, .slice (some ⟨ba, oa, none⟩) tab.length cap), (64, .int .i64 tab.length), (65, .int .i64 s.1)]) (fun s => [.blk bl 97 [.slice a l.length c, .map (some bm), .bool s.2.2.neg, .string (bs s.2.2.num), .string (bs s.2.2.den)] 5, .inv bm (Rates l), slRow N a 7 (l.map spV), .obj L (.loop (busy rr)), .blk _ 4 [.bool true] 1, .blk _ 4 [.bool b] 1, .blk _ 3 [.int .i64 k] 1, .blk _ 3 [.int .i64 st0] 1, .blk _ 28 [.int .i64 f, .int .i64 t, .slice (some ⟨ba, oa, none⟩) tab.length cap, .int .i64 0, .int .i64 0] 5, .blk _ 91 [.pointer (some ⟨bl, 0, none⟩)] 1] ++ M') (fun s => s.1 ≤ tab.length ∧ s.2.2 = rQ s.2.1 ∧ fewQ (m + 300 * s.1) s.2.2 ∧ s.2.1 + wsum (ofR l k) (tab.drop s.1) = y + wsum (ofR l k) tab) ?_ sbT sbL ?_
      · exact ⟨Nat.zero_le _, i1, i5, rfl⟩
      clear i1 i5
      intro ⟨j, y1, S2⟩ ⟨j1, j2, j3, j4⟩ ih
      dsimp only at j1 j2 j3 j4 ⊢
      by_cases hj : j < tab.length
      · have hrj := hra j hj
        have htj := htt _ (List.getElem_mem hj)
        rw [List.drop_eq_getElem_cons hj, wsum, ← Rat.add_assoc] at j4
        clear hra hst0 hr0
        generalize tab[j] = z at *
        obtain ⟨z, nz⟩ := z
        dsimp only [hoV] at hrj htj j4
        have hfo := fewQ_of (k := k) hf hR htj.1
        have hsp := fewQ_step (n := nz) (j2 ▸ j3) (by omega) (by omega) hfo
        all_goals (refine goR ?_; and_intros <;> (try exact trivial) <;> intros)
        repeat' ((first | (apply G.addL (l := l) rfl y1 (m + 300 * j); rfl; rfl; (repeat (first | exact Pick.head | apply Pick.tail)); (repeat (first | exact Pick.head | apply Pick.tail)); (repeat (first | exact Pick.head | apply Pick.tail)); exact ⟨⟨j2, j3, by omega⟩, hP, hf, hR, hk1, htj.1, by omega, ha, by omega, by omega⟩; intro S3 hS3) | (apply J.regQ; exact Tryz.mixed; decide +kernel) | (apply J.regL'; exact Tryz.mixed; decide +kernel)) <;> (refine goR ?_; and_intros <;> (try exact trivial) <;> intros))
        exact J.finS (ih (j + 1, y1 + nz * ofR l k z, S3) ⟨hj, hS3, by dsimp only; rw [hS3]; exact fewQ_le hsp (by omega), j4⟩ (by dsimp only; omega))
      · rw [show tab.drop j = [] from List.drop_eq_nil_of_le (by omega), wsum, Rat.add_zero] at j4
        have c2 : fewQ (m + 300 * (i + 66)) S2 := fewQ_le j3 (by omega)
        clear ih
        have c3 : y1 + n * (ofR l k st0 - ofR l k st0) + wsum (fun k' => ofR l k' st0 - ofR l k st0) (E.drop (i + 1)) = y + (wsum (ofR l k) tab + wsum (fun k' => ofR l k' st0 - ofR l k st0) E) := by rw [hz, j4]; grind
        clear hz j4 j3
        have hsub := fun w' => ratSub_holds (rQ (ofR l k st0)) (rQ (ofR l k st0)) w' (fewQ_le (fewQ_of (k := k) hf hR hs0) (by decide)).1 (fewQ_le (fewQ_of (k := k) hf hR hs0) (by decide)).2 (fewQ_le (fewQ_of (k := k) hf hR hs0) (by decide)).1 (fewQ_le (fewQ_of (k := k) hf hR hs0) (by decide)).2
        simp only [qR_rQ] at hsub
        have hfm := fewQ_sub (fewQ_of (k := k) hf hR hs0) (fewQ_of (k := k) hf hR hs0) (by decide) (by decide)
        generalize hmor : ofR l k st0 - ofR l k st0 = mor at *
        have hin := fun w' => int_holds n w' (by omega) (by omega)
        have hfn := fewQ_int (n := n) (by omega) (by omega)
        have hmul := fun w' => ratMul_holds (rQ (n : Rat)) (rQ mor) w' (fewQ_le hfn (by decide)).1 (fewQ_le hfn (by decide)).2 (fewQ_le hfm (by decide)).1 (fewQ_le hfm (by decide)).2
        have hfp := fewQ_mul hfn hfm (by decide) (by decide)
        have had := fun w' => ratAdd_holds S2 (rQ (n * mor)) w' (fewQ_le c2 (by omega)).1 (fewQ_le c2 (by omega)).2 (fewQ_le hfp (by decide)).1 (fewQ_le hfp (by decide)).2
        simp only [qR_rQ, j2] at hmul had
        rw [← j2] at had
        have hfs := fewQ_add (j2 ▸ c2) hfp (by omega) (by decide)
        clear hfm hfn hfp
        generalize hQ : rQ mor = Q at *
        all_goals (refine goR ?_; and_intros <;> (try exact trivial) <;> intros)
        refine J.cutI (X := Nat) (fun x9 => [(2, .pointer (some ⟨B2, 0, none⟩)), (3, .pointer (some ⟨B3, 0, none⟩)), (4, .pointer (some ⟨B4, 0, none⟩)), (7, .pointer (some ⟨B7, 0, none⟩)), (8, .pointer (some ⟨B8, 0, none⟩)), (9, .pointer (some ⟨B9, 0, none⟩)), (10, .int .i64 k), (11, .int .i64 n), (14, .pointer (some ⟨x9, 0, none⟩))]) (fun x9 => .blk x9 32 (qV Q) 3 :: [.blk bl 97 [.slice a l.length c, .map (some bm), .bool S2.neg, .string (bs S2.num), .string (bs S2.den)] 5, .inv bm (Rates l), slRow N a 7 (l.map spV), .obj L (.loop (busy rr)), .blk B8 4 [.bool true] 1, .blk B4 4 [.bool b] 1, .blk B7 3 [.int .i64 k] 1, .blk B9 3 [.int .i64 st0] 1, .blk B3 28 [.int .i64 f, .int .i64 t, .slice (some ⟨ba, oa, none⟩) tab.length cap, .int .i64 0, .int .i64 0] 5, .blk B2 91 [.pointer (some ⟨bl, 0, none⟩)] 1] ++ M') ?_ ?_
        · intro hk9
          all_goals (refine goG ?_; and_intros <;> (try exact trivial) <;> intros)
          repeat' ((first | (apply J.regA (.q 0 <| .q 1 <| .q 2 <| .q 4 <| .q 5 <| .q 6 <| .f 3 (.f 7 (.q 8 <| .e 9 <| .r 10 <| .nil) 9 (.e 7 <| .q 8 <| .r 10 <| .nil)) 9 (.e 3 <| .e 7 <| .q 8 <| .r 10 <| .nil)); exact Tryz.mixed; decide +kernel) | (apply G.ofL (l := l) rfl; rfl; rfl; (repeat (first | exact Pick.head | apply Pick.tail)); (repeat (first | exact Pick.head | apply Pick.tail)); (repeat (first | exact Pick.head | apply Pick.tail)); exact ⟨hP, hf, hR, by assumption, by omega, by omega, ha⟩) | (apply G.cV (g := 97); rfl; rfl; exact fun w' _ => hsub w') | (apply G.fork)) <;> (refine goG ?_; and_intros <;> (try exact trivial) <;> intros))
          all_goals exact J.finS (hk9 _)
        intro B14
        all_goals (refine go ?_; and_intros <;> (try exact trivial) <;> intros)
        refine J.loop (c := _) (0 : Nat) (fun s => tab.length - s) (fun s => [(2, .pointer (some ⟨_, 0, none⟩)), (3, .pointer (some ⟨_, 0, none⟩)), (4, .pointer (some ⟨_, 0, none⟩)), (7, .pointer (some ⟨_, 0, none⟩)), (8, .pointer (some ⟨_, 0, none⟩)), (9, .pointer (some ⟨_, 0, none⟩)), (10, .int .i64 k), (11, .int .i64 n), (14, .pointer (some ⟨_, 0, none⟩)), (87, .slice (some ⟨ba, oa, none⟩) tab.length cap), (88, .int .i64 tab.length), (89, .int .i64 s)]) (fun s => .blk _ 32 (qV Q) 3 :: [.blk bl 97 [.slice a l.length c, .map (some bm), .bool S2.neg, .string (bs S2.num), .string (bs S2.den)] 5, .inv bm (Rates l), slRow N a 7 (l.map spV), .obj L (.loop (busy rr)), .blk _ 4 [.bool true] 1, .blk _ 4 [.bool b] 1, .blk _ 3 [.int .i64 k] 1, .blk _ 3 [.int .i64 st0] 1, .blk _ 28 [.int .i64 f, .int .i64 t, .slice (some ⟨ba, oa, none⟩) tab.length cap, .int .i64 0, .int .i64 0] 5, .blk _ 91 [.pointer (some ⟨bl, 0, none⟩)] 1] ++ M') (fun s => s ≤ tab.length ∧ ∀ q (hq : q < tab.length), q < s → ofR l k tab[q].1 - ofR l k tab[q].1 = mor) ?_ sbT sbL ?_
        · exact ⟨Nat.zero_le _, fun q hq h => absurd h (Nat.not_lt_zero _)⟩
        intro j ⟨j1, j2⟩ ih
        by_cases hj : j < tab.length
        · have hrj := hra j hj
          have htj := htt _ (List.getElem_mem hj)
          have hnj := hno _ (List.getElem_mem hj)
          have hyj : ofR l k tab[j].1 - ofR l k tab[j].1 = mor → ∀ q (hq : q < tab.length), q < j + 1 → ofR l k tab[q].1 - ofR l k tab[q].1 = mor := fun h1 q hq h2 => by
            rcases Nat.lt_or_ge q j with h3 | h3
            · exact j2 q hq h3
            · obtain rfl : q = j := by omega
              exact h1
          clear hra hst0 hr0 j2 hno hyes hsub
          generalize tab[j] = z at *
          obtain ⟨z, nz⟩ := z
          dsimp only [hoV] at hrj htj hnj hyj
          have hz1 := htj.1
          have hsub2 := fun w' => ratSub_holds (rQ (ofR l k z)) (rQ (ofR l k z)) w' (fewQ_le (fewQ_of (k := k) hf hR hz1) (by decide)).1 (fewQ_le (fewQ_of (k := k) hf hR hz1) (by decide)).2 (fewQ_le (fewQ_of (k := k) hf hR hz1) (by decide)).1 (fewQ_le (fewQ_of (k := k) hf hR hz1) (by decide)).2
          simp only [qR_rQ] at hsub2
          generalize hd : ofR l k z - ofR l k z = dd at *
          by_cases hc : dd = mor
          · have hc2 : rQ dd = Q := by rw [hc]; exact hQ
            all_goals (refine goR ?_; and_intros <;> (try exact trivial) <;> intros)
            repeat' ((first | (apply J.regA (.q 0 <| .q 1 <| .q 2 <| .q 3 <| .q 5 <| .q 6 <| .q 7 <| .q 8 <| .q 11 <| .e 4 <| .e 9 <| .q 10 <| .q 12 <| .nil); exact Tryz.mixed; decide +kernel) | (apply G.ofL (l := l) rfl; rfl; rfl; (repeat (first | exact Pick.head | apply Pick.tail)); (repeat (first | exact Pick.head | apply Pick.tail)); (repeat (first | exact Pick.head | apply Pick.tail)); exact ⟨hP, hf, hR, by assumption, by omega, by omega, ha⟩) | (apply G.cV (g := 97); rfl; rfl; exact fun w' _ => hsub2 w') | (apply G.neR (rQ dd) Q; rfl; rfl; rfl; all_goals intro h; all_goals try (exact absurd hc2 h)) | (apply J.regQ; exact Tryz.mixed; decide +kernel) | (apply J.regL'; exact Tryz.mixed; decide +kernel)) <;> (refine goR ?_; and_intros <;> (try exact trivial) <;> intros))
            exact J.finS (ih (j + 1) ⟨hj, hyj hc⟩ (by omega))
          · have hc2 : rQ dd ≠ Q := fun h => hc (rQ_inj (h.trans hQ.symm))
            all_goals (refine goR ?_; and_intros <;> (try exact trivial) <;> intros)
            repeat' ((first | (apply J.regA (.q 0 <| .q 1 <| .q 2 <| .q 3 <| .q 5 <| .q 6 <| .q 7 <| .q 8 <| .q 11 <| .e 4 <| .e 9 <| .q 10 <| .q 12 <| .nil); exact Tryz.mixed; decide +kernel) | (apply G.ofL (l := l) rfl; rfl; rfl; (repeat (first | exact Pick.head | apply Pick.tail)); (repeat (first | exact Pick.head | apply Pick.tail)); (repeat (first | exact Pick.head | apply Pick.tail)); exact ⟨hP, hf, hR, by assumption, by omega, by omega, ha⟩) | (apply G.cV (g := 97); rfl; rfl; exact fun w' _ => hsub2 w') | (apply G.neR (rQ dd) Q; rfl; rfl; rfl; all_goals intro h; all_goals try (exact absurd h hc2)) | (apply J.regQ; exact Tryz.mixed; decide +kernel) | (apply J.regL'; exact Tryz.mixed; decide +kernel)) <;> (refine goR ?_; and_intros <;> (try exact trivial) <;> intros))
            exact J.sel (leaveGret (y1, S2, false, k, true) ⟨rfl, rfl, j2, fewQ_le c2 (by omega), hnj hc⟩ rfl)
        · have hall : ∀ y ∈ tab, ofR l k y.1 - ofR l k y.1 = mor := fun y hy => by
            obtain ⟨q, hq, rfl⟩ := List.getElem_of_mem hy
            exact j2 q hq (by omega)
          clear ih
          all_goals (refine goR ?_; and_intros <;> (try exact trivial) <;> intros)
          repeat' ((first | (apply G.cV (g := 40); rfl; rfl; exact fun w' _ => hin w') | (apply G.cV (g := 30); rfl; rfl; exact fun w' _ => hmul w') | (apply G.cV (g := 29); rfl; rfl; exact fun w' _ => had w') | (apply J.regQ; exact Tryz.mixed; decide +kernel) | (apply J.regL'; exact Tryz.mixed; decide +kernel)) <;> (refine goR ?_; and_intros <;> (try exact trivial) <;> intros))
          exact J.sel (leaveG hrs hrp (y1 + n * mor, rQ (y1 + n * mor), b, k, true) ⟨rfl, fun h => absurd h (Nat.succ_ne_zero _), fun _ => ⟨fewQ_le hfs (by omega), rfl, rfl, c3⟩, hyes hall⟩ rfl)
    · obtain ⟨i5, rfl, rfl, i6⟩ := i3 (by omega)
      all_goals (refine goR ?_; and_intros <;> (try exact trivial) <;> intros)
      repeat' ((first | (refine J.beginR rfl (i := 0) rfl hrs ?_) | (apply J.regQ; exact Tryz.mixed; decide +kernel) | (apply J.regL'; exact Tryz.mixed; decide +kernel)) <;> (refine goR ?_; and_intros <;> (try exact trivial) <;> intros))
      refine J.front3 (r1 := .blk bl 97 [.slice a l.length c, .map (some bm), .bool S1.neg, .string (bs S1.num), .string (bs S1.den)] 5) (r2 := .inv bm (Rates l)) (r3 := slRow N a 7 (l.map spV)) (by (repeat (first | exact Pick.head | apply Pick.tail))) (by (repeat (first | exact Pick.head | apply Pick.tail))) (by (repeat (first | exact Pick.head | apply Pick.tail))) ?_
      clear hfirst i2 i3 hzero
      have hsub := fun w' => ratSub_holds (rQ (ofR l k st0)) (rQ (ofR l fst st0)) w' (fewQ_le (fewQ_of (k := k) hf hR hs0) (by decide)).1 (fewQ_le (fewQ_of (k := k) hf hR hs0) (by decide)).2 (fewQ_le (fewQ_of (k := fst) hf hR hs0) (by decide)).1 (fewQ_le (fewQ_of (k := fst) hf hR hs0) (by decide)).2
      simp only [qR_rQ] at hsub
      have hfm := fewQ_sub (fewQ_of (k := k) hf hR hs0) (fewQ_of (k := fst) hf hR hs0) (by decide) (by decide)
      generalize hmor : ofR l k st0 - ofR l fst st0 = mor at *
      have hin := fun w' => int_holds n w' (by omega) (by omega)
      have hfn := fewQ_int (n := n) (by omega) (by omega)
      have hmul := fun w' => ratMul_holds (rQ (n : Rat)) (rQ mor) w' (fewQ_le hfn (by decide)).1 (fewQ_le hfn (by decide)).2 (fewQ_le hfm (by decide)).1 (fewQ_le hfm (by decide)).2
      have hfp := fewQ_mul hfn hfm (by decide) (by decide)
      have had := fun w' => ratAdd_holds S1 (rQ (n * mor)) w' (fewQ_le i5 (by omega)).1 (fewQ_le i5 (by omega)).2 (fewQ_le hfp (by decide)).1 (fewQ_le hfp (by decide)).2
      simp only [qR_rQ, i1] at hmul had
      rw [← i1] at had
      have hfs := fewQ_add (i1 ▸ i5) hfp (by omega) (by decide)
      clear hfm hfn hfp
      generalize hQ : rQ mor = Q at *
      all_goals (refine goR ?_; and_intros <;> (try exact trivial) <;> intros)
      refine J.cutI (X := Nat) (fun x9 => [(2, .pointer (some ⟨B2, 0, none⟩)), (3, .pointer (some ⟨B3, 0, none⟩)), (4, .pointer (some ⟨B4, 0, none⟩)), (7, .pointer (some ⟨B7, 0, none⟩)), (8, .pointer (some ⟨B8, 0, none⟩)), (9, .pointer (some ⟨B9, 0, none⟩)), (10, .int .i64 k), (11, .int .i64 n), (14, .pointer (some ⟨x9, 0, none⟩))]) (fun x9 => .blk x9 32 (qV Q) 3 :: [.blk bl 97 [.slice a l.length c, .map (some bm), .bool S1.neg, .string (bs S1.num), .string (bs S1.den)] 5, .inv bm (Rates l), slRow N a 7 (l.map spV), .obj L (.loop (busy rr)), .blk B8 4 [.bool true] 1, .blk B4 4 [.bool b] 1, .blk B7 3 [.int .i64 fst] 1, .blk B9 3 [.int .i64 st0] 1, .blk B3 28 [.int .i64 f, .int .i64 t, .slice (some ⟨ba, oa, none⟩) tab.length cap, .int .i64 0, .int .i64 0] 5, .blk B2 91 [.pointer (some ⟨bl, 0, none⟩)] 1] ++ M') ?_ ?_
      · intro hk9
        all_goals (refine goG ?_; and_intros <;> (try exact trivial) <;> intros)
        repeat' ((first | (apply J.regA (.q 0 <| .q 1 <| .q 2 <| .q 4 <| .q 5 <| .q 6 <| .f 3 (.f 7 (.q 8 <| .e 9 <| .r 10 <| .nil) 9 (.e 7 <| .q 8 <| .r 10 <| .nil)) 9 (.e 3 <| .e 7 <| .q 8 <| .r 10 <| .nil)); exact Tryz.mixed; decide +kernel) | (apply G.ofL (l := l) rfl; rfl; rfl; (repeat (first | exact Pick.head | apply Pick.tail)); (repeat (first | exact Pick.head | apply Pick.tail)); (repeat (first | exact Pick.head | apply Pick.tail)); exact ⟨hP, hf, hR, by assumption, by omega, by omega, ha⟩) | (apply G.cV (g := 97); rfl; rfl; exact fun w' _ => hsub w') | (apply G.fork)) <;> (refine goG ?_; and_intros <;> (try exact trivial) <;> intros))
        all_goals exact J.finS (hk9 _)
      intro B14
      all_goals (refine go ?_; and_intros <;> (try exact trivial) <;> intros)
      refine J.loop (c := _) (0 : Nat) (fun s => tab.length - s) (fun s => [(2, .pointer (some ⟨_, 0, none⟩)), (3, .pointer (some ⟨_, 0, none⟩)), (4, .pointer (some ⟨_, 0, none⟩)), (7, .pointer (some ⟨_, 0, none⟩)), (8, .pointer (some ⟨_, 0, none⟩)), (9, .pointer (some ⟨_, 0, none⟩)), (10, .int .i64 k), (11, .int .i64 n), (14, .pointer (some ⟨_, 0, none⟩)), (87, .slice (some ⟨ba, oa, none⟩) tab.length cap), (88, .int .i64 tab.length), (89, .int .i64 s)]) (fun s => .blk _ 32 (qV Q) 3 :: [.blk bl 97 [.slice a l.length c, .map (some bm), .bool S1.neg, .string (bs S1.num), .string (bs S1.den)] 5, .inv bm (Rates l), slRow N a 7 (l.map spV), .obj L (.loop (busy rr)), .blk _ 4 [.bool true] 1, .blk _ 4 [.bool b] 1, .blk _ 3 [.int .i64 fst] 1, .blk _ 3 [.int .i64 st0] 1, .blk _ 28 [.int .i64 f, .int .i64 t, .slice (some ⟨ba, oa, none⟩) tab.length cap, .int .i64 0, .int .i64 0] 5, .blk _ 91 [.pointer (some ⟨bl, 0, none⟩)] 1] ++ M') (fun s => s ≤ tab.length ∧ ∀ q (hq : q < tab.length), q < s → ofR l k tab[q].1 - ofR l fst tab[q].1 = mor) ?_ sbT sbL ?_
      · exact ⟨Nat.zero_le _, fun q hq h => absurd h (Nat.not_lt_zero _)⟩
      intro j ⟨j1, j2⟩ ih
      by_cases hj : j < tab.length
      · have hrj := hra j hj
        have htj := htt _ (List.getElem_mem hj)
        have hnj := hno _ (List.getElem_mem hj)
        have hyj : ofR l k tab[j].1 - ofR l fst tab[j].1 = mor → ∀ q (hq : q < tab.length), q < j + 1 → ofR l k tab[q].1 - ofR l fst tab[q].1 = mor := fun h1 q hq h2 => by
          rcases Nat.lt_or_ge q j with h3 | h3
          · exact j2 q hq h3
          · obtain rfl : q = j := by omega
            exact h1
        clear hra hst0 hr0 j2 hno hyes hsub
        generalize tab[j] = z at *
        obtain ⟨z, nz⟩ := z
        dsimp only [hoV] at hrj htj hnj hyj
        have hz1 := htj.1
        have hsub2 := fun w' => ratSub_holds (rQ (ofR l k z)) (rQ (ofR l fst z)) w' (fewQ_le (fewQ_of (k := k) hf hR hz1) (by decide)).1 (fewQ_le (fewQ_of (k := k) hf hR hz1) (by decide)).2 (fewQ_le (fewQ_of (k := fst) hf hR hz1) (by decide)).1 (fewQ_le (fewQ_of (k := fst) hf hR hz1) (by decide)).2
        simp only [qR_rQ] at hsub2
        generalize hd : ofR l k z - ofR l fst z = dd at *
        by_cases hc : dd = mor
        · have hc2 : rQ dd = Q := by rw [hc]; exact hQ
          all_goals (refine goR ?_; and_intros <;> (try exact trivial) <;> intros)
          repeat' ((first | (apply J.regA (.q 0 <| .q 1 <| .q 2 <| .q 3 <| .q 5 <| .q 6 <| .q 7 <| .q 8 <| .q 11 <| .e 4 <| .e 9 <| .q 10 <| .q 12 <| .nil); exact Tryz.mixed; decide +kernel) | (apply G.ofL (l := l) rfl; rfl; rfl; (repeat (first | exact Pick.head | apply Pick.tail)); (repeat (first | exact Pick.head | apply Pick.tail)); (repeat (first | exact Pick.head | apply Pick.tail)); exact ⟨hP, hf, hR, by assumption, by omega, by omega, ha⟩) | (apply G.cV (g := 97); rfl; rfl; exact fun w' _ => hsub2 w') | (apply G.neR (rQ dd) Q; rfl; rfl; rfl; all_goals intro h; all_goals try (exact absurd hc2 h)) | (apply J.regQ; exact Tryz.mixed; decide +kernel) | (apply J.regL'; exact Tryz.mixed; decide +kernel)) <;> (refine goR ?_; and_intros <;> (try exact trivial) <;> intros))
          exact J.finS (ih (j + 1) ⟨hj, hyj hc⟩ (by omega))
        · have hc2 : rQ dd ≠ Q := fun h => hc (rQ_inj (h.trans hQ.symm))
          all_goals (refine goR ?_; and_intros <;> (try exact trivial) <;> intros)
          repeat' ((first | (apply J.regA (.q 0 <| .q 1 <| .q 2 <| .q 3 <| .q 5 <| .q 6 <| .q 7 <| .q 8 <| .q 11 <| .e 4 <| .e 9 <| .q 10 <| .q 12 <| .nil); exact Tryz.mixed; decide +kernel) | (apply G.ofL (l := l) rfl; rfl; rfl; (repeat (first | exact Pick.head | apply Pick.tail)); (repeat (first | exact Pick.head | apply Pick.tail)); (repeat (first | exact Pick.head | apply Pick.tail)); exact ⟨hP, hf, hR, by assumption, by omega, by omega, ha⟩) | (apply G.cV (g := 97); rfl; rfl; exact fun w' _ => hsub2 w') | (apply G.neR (rQ dd) Q; rfl; rfl; rfl; all_goals intro h; all_goals try (exact absurd h hc2)) | (apply J.regQ; exact Tryz.mixed; decide +kernel) | (apply J.regL'; exact Tryz.mixed; decide +kernel)) <;> (refine goR ?_; and_intros <;> (try exact trivial) <;> intros))
          exact J.sel (leaveGret (y, S1, false, fst, true) ⟨rfl, rfl, i1, fewQ_le i5 (by omega), hnj hc⟩ rfl)
      · have hall : ∀ y ∈ tab, ofR l k y.1 - ofR l fst y.1 = mor := fun y hy => by
          obtain ⟨q, hq, rfl⟩ := List.getElem_of_mem hy
          exact j2 q hq (by omega)
        clear ih
        all_goals (refine goR ?_; and_intros <;> (try exact trivial) <;> intros)
        repeat' ((first | (apply G.cV (g := 40); rfl; rfl; exact fun w' _ => hin w') | (apply G.cV (g := 30); rfl; rfl; exact fun w' _ => hmul w') | (apply G.cV (g := 29); rfl; rfl; exact fun w' _ => had w') | (apply J.regQ; exact Tryz.mixed; decide +kernel) | (apply J.regL'; exact Tryz.mixed; decide +kernel)) <;> (refine goR ?_; and_intros <;> (try exact trivial) <;> intros))
        exact J.sel (leaveG hrs hrp (y + n * mor, rQ (y + n * mor), b, fst, true) ⟨rfl, fun h => absurd h (Nat.succ_ne_zero _), fun _ => ⟨fewQ_le hfs (by omega), rfl, rfl, i6⟩, hyes hall⟩ rfl)
  · intro Bd ⟨y, S1, b, fst, bgn⟩ ⟨i1, i2, i3, i4⟩
    dsimp only at i1 i2 i3 i4 ⊢
    have hEp : 0 < E.length := by
      rw [← hE, clsL]
      exact clsS_pos _ _ _ (by dsimp only; omega)
    obtain ⟨i5, rfl, rfl, i6⟩ := i3 hEp
    rw [List.drop_length, wsum, Rat.add_zero] at i6
    all_goals (refine go ?_; and_intros <;> (try exact trivial) <;> intros)
    refine leaveM (v := .bool true) (ds := [Bd]) Tryz.func56 rfl rfl rfl rfl (RunsTo.one Tryz.results56 (by (first | (apply ResV.tmp; rfl) | (apply ResV.cell; rfl; (first | (apply LdV.one; (first | exact CellV.row0 (by assumption) rfl | exact CellV.rowS (by assumption) rfl | exact CellV.rowSS (by assumption) rfl | (apply CellV.blk; exact mm; rfl))) | (apply LdV.aggBlk; exact mm; rfl) | (apply LdV.part; exact mm; rfl; rfl) | (apply LdV.aggRow; assumption; rfl) | (apply LdV.partRow; assumption; rfl; rfl)))))) (List.Perm.refl _) fun w' hw' => ?_
    exact ⟨true, S1, y, rfl, i1, fewQ_le i5 (by omega), fun _ => ⟨fun e he => (by obtain ⟨j, hj, rfl⟩ := List.getElem_of_mem he; exact i4 j hj hj), i6⟩, fun h => (by cases h), hw'.sel⟩
  · intro Bd ⟨y, S1, b, fst, bgn⟩ cc ⟨e1, e2, i1, i2, i3⟩
    dsimp only at e1 e2 i1 i2 i3 ⊢
    subst e1 e2
    refine leaveM (v := .bool false) (ds := [Bd]) Tryz.func56 rfl rfl rfl rfl (RunsTo.one Tryz.results56 (by (first | (apply ResV.tmp; rfl) | (apply ResV.cell; rfl; (first | (apply LdV.one; (first | exact CellV.row0 (by assumption) rfl | exact CellV.rowS (by assumption) rfl | exact CellV.rowSS (by assumption) rfl | (apply CellV.blk; exact mm; rfl))) | (apply LdV.aggBlk; exact mm; rfl) | (apply LdV.part; exact mm; rfl; rfl) | (apply LdV.aggRow; assumption; rfl) | (apply LdV.partRow; assumption; rfl; rfl)))))) (List.Perm.refl _) fun w' hw' => ?_
    exact ⟨false, S1, y, rfl, i1, fewQ_le i2 (by omega), fun h => (by cases h), fun _ => i3, hw'.sel⟩
end Go.Proofs.YthkdfpbjkpgckaaGreatDoor
/-
  Contract: the exact volume of runs.
-/
namespace Go.Proofs.YthkdfpbjkpgckaaGreatDoor
open Go.RowKit Go.Sl Go.Num
theorem take_holds (w0 : World) (M : List Row) (w : World) (bl bm N : Nat) (a : Option Addr) (l : List Spn) (c : Nat) (x : Rat) (m : Nat) (S : Q3) (hS : S = rQ x) (r : Rn) (hw : Sat w0 (.blk bl 97 [.slice a l.length c, .map (some bm), .bool S.neg, .string (bs S.num), .string (bs S.den)] 5 :: .inv bm (Rates l) :: slRow N a 7 (l.map spV) :: M) w)
    (hP : ∀ s ∈ l, PtsAt w0 s) (hf : ∀ s ∈ l, fewS s) (hR : ∀ s ∈ l, RightS s) (hl : l.length ≤ 400) (ha : ∃ b off, a = some ⟨b, off, none⟩ ∨ l = [])
    (hx : fewQ m S) (hm : m ≤ 100000000) (hm1 : 1 ≤ m) (hr : inT r = true) (hlen : r.tab.length ≤ 64) (hA : TabAt w0 r) (hE : oneE r = 0) :
    Calls Tryz.prog 56 #[.pointer (some ⟨bl, 0, none⟩), rnA r] w (fun e w' => ∃ (b : Bool) (S' : Q3) (y : Rat), e = .returned (.bool b) ∧ S' = rQ y ∧ fewQ (m + 300 * (l.length + 80)) S' ∧ (b = true → takeB l r ∧ y = x + takeV l r) ∧ (b = false → ¬ takeB l r) ∧ Sat w0 (.blk bl 97 [.slice a l.length c, .map (some bm), .bool S'.neg, .string (bs S'.num), .string (bs S'.den)] 5 :: .inv bm (Rates l) :: slRow N a 7 (l.map spV) :: M) w') := by
  rw [inT, decide_eq_true_eq] at hr
  by_cases h0 : r.tab.length = 0
  · obtain ⟨e1, e2, e3⟩ := oneE_gap hE h0
    refine (takeGap_holds w0 M w bl bm N a l c x m S hS r hw hP hf hR hl ha hx hm hm1 hr (List.length_eq_zero_iff.1 h0) ⟨e1, by omega⟩ ⟨by omega, e3⟩).mono fun e w' ⟨b, S', y, g1, g2, g3, g4⟩ => ⟨b, S', y, g1, g2, fewQ_le g3 (by omega), g4⟩
  · obtain ⟨e1, _, _, e4⟩ := oneE_tab hE h0
    exact takeTab_holds w0 M w bl bm N a l c x m S hS r hw hP hf hR hl ha hx hm hm1 hr (by omega) hlen hA e4 e1
theorem G.takeL {C : Ctx} {st : List (Nat × Value)} {M M1 M2 M3 : List Row} {k : List Item} {q q' : Md} {all rest : List Oper} {d : Nat} {ty : TypeId} {pos : String} {after : Array Edge} {gd : Option (Nat × Bool)} {args : List Operand} {at_ : Array TypeId} (hP : C.P = Tryz.prog)
    {bl bm N : Nat} {a : Option Addr} {l : List Spn} {c : Nat} {S : Q3} (r : Rn) (x : Rat) (m : Nat)
    (hs : sideB all st gd d C.N q.res = some q') (ha : evL st args = some [.pointer (some ⟨bl, 0, none⟩), rnA r])
    (p1 : Pick (.blk bl 97 [.slice a l.length c, .map (some bm), .bool S.neg, .string (bs S.num), .string (bs S.den)] 5) M M1) (p2 : Pick (.inv bm (Rates l)) M1 M2) (p3 : Pick (slRow N a 7 (l.map spV)) M2 M3)
    (hq : (S = rQ x ∧ fewQ m S ∧ m ≤ 100000000 ∧ 1 ≤ m) ∧ (∀ s ∈ l, PtsAt C.w0 s) ∧ (∀ s ∈ l, fewS s) ∧ (∀ s ∈ l, RightS s) ∧ l.length ≤ 400 ∧ (∃ b off, a = some ⟨b, off, none⟩ ∨ l = []) ∧ inT r = true ∧ r.tab.length ≤ 64 ∧ TabAt C.w0 r ∧ oneE r = 0)
    (h1 : ∀ (S' : Q3) y, S' = rQ y → fewQ (m + 300 * (l.length + 80)) S' → takeB l r → y = x + takeV l r → G q' C all ((d, .bool true) :: st) (.blk bl 97 [.slice a l.length c, .map (some bm), .bool S'.neg, .string (bs S'.num), .string (bs S'.den)] 5 :: .inv bm (Rates l) :: slRow N a 7 (l.map spV) :: M3) rest k)
    (h2 : ∀ (S' : Q3), ¬ takeB l r → G q' C all ((d, .bool false) :: st) (.blk bl 97 [.slice a l.length c, .map (some bm), .bool S'.neg, .string (bs S'.num), .string (bs S'.den)] 5 :: .inv bm (Rates l) :: slRow N a 7 (l.map spV) :: M3) rest k) :
    G q C all st M ({ dst := some d, op := .call { callee := .value (.func 56), args := args.toArray, argTypes := at_ }, type := ty, pos, after, guard := gd } :: rest) k := by
  obtain ⟨P, b, PHI, N0, w0, D⟩ := C
  dsimp only at hP; subst hP
  obtain ⟨⟨g1, g2, g3, g3'⟩, g4, g5, g6, g7, g8, g9, g10, g11, g12⟩ := hq
  refine G.cM (X := { z : Bool × Q3 × Rat // z.2.1 = rQ z.2.2 ∧ fewQ (m + 300 * (l.length + 80)) z.2.1 ∧ (z.1 = true → takeB l r ∧ z.2.2 = x + takeV l r) ∧ (z.1 = false → ¬ takeB l r) }) (fun z => .bool z.1.1) (fun z => .blk bl 97 [.slice a l.length c, .map (some bm), .bool z.1.2.1.neg, .string (bs z.1.2.1.num), .string (bs z.1.2.1.den)] 5 :: .inv bm (Rates l) :: slRow N a 7 (l.map spV) :: M3) hs ha (fun w hw => ?_) fun z => ?_
  · refine (take_holds w0 M3 w bl bm N a l c x m S g1 r (hw.perm (p1.perm.trans (List.Perm.cons _ (p2.perm.trans (List.Perm.cons _ p3.perm))))) g4 g5 g6 g7 g8 g2 g3 g3' g9 g10 g11 g12).mono fun e w' ⟨b, S', y, f1, f2, f3, f4, f5, f6⟩ => ⟨⟨(b, S', y), f2, f3, f4, f5⟩, f1, f6⟩
  · obtain ⟨⟨b, S', y⟩, f2, f3, f4, f5⟩ := z
    cases b
    · exact h2 S' (f5 rfl)
    · exact h1 S' y f2 f3 (f4 rfl).1 (f4 rfl).2
instance (l : List Spn) (r : Rn) (e : Int × Int) : Decidable (okE l r e) := by unfold okE; split <;> exact inferInstance
instance (l : List Spn) (r : Rn) : Decidable (takeB l r) := by unfold takeB; exact inferInstance
/-- A span that goes beyond the runs. -/
def outX (rs : List Rn) (s : Spn) : Bool := match rs[0]?, rs[rs.length - 1]? with
  | some a, some b => decide (s.from_ < a.from_) || decide (b.to_ < s.to_)
  | _, _ => true
def takeS (l : List Spn) : List Rn → Rat
  | [] => 0
  | r :: t => takeV l r + takeS l t
/-- The exact volume, or the error. -/
def exE (rs : List Rn) (l : List Spn) : Q3 × Int :=
  if runsErr rs ≠ 0 then (zero3, runsErr rs) else if spansErr l ≠ 0 then (zero3, spansErr l) else if l.any (outX rs) = true then (zero3, 19) else if ∀ r ∈ rs, takeB l r then (rQ (takeS l rs), 0) else (zero3, 29)
theorem exact_holds (a b : Option Addr) (rs : List Rn) (l : List Spn) (c d : Nat) (w : World) (hA : RunsAt w a rs) (hB : SpansAt w b l) (hf : ∀ s ∈ l, fewS s) (hfr : ∀ r ∈ rs, r.tab.length ≤ 64) (hn : rs.length ≤ 400) :
    Calls Tryz.prog 24 #[.slice a rs.length c, .slice b l.length d] w fun e w' => e = .returned (.tuple #[qA (exE rs l).1, .int .i64 (exE rs l).2]) ∧ Below w.heap.size w w' := by
  have hcr := fun w' (hb : Below w.heap.size w w') => vRuns_holds a rs c w' (hA.below hb) hfr
  have hcs := fun w' (hb : Below w.heap.size w w') => vCheck_holds b l d w' (hB.below hb) hf
  rw [exE]
  by_cases h1 : runsErr rs = 0
  · have ⟨_, k5, _⟩ := runsErr_ok h1
    have k6 := runsErr_one h1
    rw [if_neg (fun e => e h1)]
    rw [h1] at hcr
    by_cases h2 : spansErr l = 0
    · have ⟨k1, k2⟩ := spansErr_ok h2
      rw [if_neg (fun e => e h2)]
      rw [h2] at hcs
      refine enterA [(0, .slice a rs.length c), (1, .slice b l.length d)] Tryz.func24 Tryz.ntmps24 ?_
      all_goals (refine go ?_; and_intros <;> (try exact trivial) <;> intros)
      repeat' ((first | (refine G.cvb hcr ?_) | (refine G.cvb hcs ?_)) <;> (refine go ?_; and_intros <;> (try exact trivial) <;> intros))
      refine J.loop (c := _) (0 : Nat) (fun s => l.length - s) (fun s => [(0, .slice a rs.length c), (1, .slice b l.length d), (4, .pointer (some ⟨_, 0, none⟩)), (25, .slice b l.length d), (26, .int .i64 l.length), (27, .int .i64 s)]) (fun s => [.blk _ 32 [.bool false, .string (bs []), .string (bs [])] 3]) (fun s => s ≤ l.length ∧ ∀ i (hi : i < l.length), i < s → outX rs l[i] = false) ?_ sbT sbL ?_
      · exact ⟨Nat.zero_le _, fun i hi h => absurd h (Nat.not_lt_zero _)⟩
      intro k ⟨h3, h4⟩ ih
      by_cases hk : k < l.length
      · obtain ⟨bb, ob, rfl, hrb⟩ := SlAt.all hB.1 (by omega)
        have hrk := hrb k hk
        by_cases hq : outX rs l[k] = true
        · rw [if_pos (List.any_eq_true.2 ⟨_, List.getElem_mem hk, hq⟩)]
          clear ih h4
          rcases Nat.eq_zero_or_pos rs.length with hz | hz
          · generalize l[k] = s at *
            obtain ⟨fr, tt, wt, dt, pts, adr, cap⟩ := s
            dsimp only [spV] at *
            all_goals (refine go ?_; and_intros <;> (try exact trivial) <;> intros)
            all_goals refine ret2b Tryz.func24 Tryz.results24 ?_
            all_goals rfl
          · obtain ⟨ba, oa, rfl, hra⟩ := SlAt.all hA.1 hz
            have hr0 := hra 0 hz
            have hr1 := hra (rs.length - 1) (by omega)
            rw [outX, List.getElem?_eq_getElem hz, List.getElem?_eq_getElem (show rs.length - 1 < rs.length by omega)] at hq
            simp only [Bool.or_eq_true, decide_eq_true_eq] at hq
            generalize rs[0] = r0 at *
            generalize rs[rs.length - 1] = r1 at *
            generalize l[k] = s at *
            obtain ⟨fr, tt, wt, dt, pts, adr, cap⟩ := s
            dsimp only [spV, rnV] at *
            all_goals (refine go ?_; and_intros <;> (try exact trivial) <;> intros)
            repeat' ((first | (apply G.ix (i := rs.length - 1); rfl; rfl; omega; omega; rfl)) <;> (refine go ?_; and_intros <;> (try exact trivial) <;> intros))
            all_goals refine ret2b Tryz.func24 Tryz.results24 ?_
            all_goals rfl
        · have hq2 : outX rs l[k] = false := by simpa using hq
          have h4' : ∀ i (hi : i < l.length), i < k + 1 → outX rs l[i] = false := fun i hi h8 => by
            rcases Nat.lt_or_ge i k with h9 | h9
            · exact h4 i hi h9
            · obtain rfl : i = k := by omega
              exact hq2
          clear h4 hq
          rcases Nat.eq_zero_or_pos rs.length with hz | hz
          · exfalso
            rw [outX, List.getElem?_eq_none (by omega)] at hq2
            cases hq2
          · obtain ⟨ba, oa, rfl, hra⟩ := SlAt.all hA.1 hz
            have hr0 := hra 0 hz
            have hr1 := hra (rs.length - 1) (by omega)
            rw [outX, List.getElem?_eq_getElem hz, List.getElem?_eq_getElem (show rs.length - 1 < rs.length by omega)] at hq2
            simp only [Bool.or_eq_false_iff, decide_eq_false_iff_not] at hq2
            generalize rs[0] = r0 at *
            generalize rs[rs.length - 1] = r1 at *
            generalize l[k] = s at *
            obtain ⟨fr, tt, wt, dt, pts, adr, cap⟩ := s
            dsimp only [spV, rnV] at *
            all_goals (refine go ?_; and_intros <;> (try exact trivial) <;> intros)
            repeat' ((first | (apply G.ix (i := rs.length - 1); rfl; rfl; omega; omega; rfl)) <;> (refine go ?_; and_intros <;> (try exact trivial) <;> intros))
            exact J.finS (ih (k + 1) ⟨hk, h4'⟩ (by omega))
      · rw [show l.any (outX rs) = false from List.any_eq_false.2 fun x hx => by
          obtain ⟨i, h8, rfl⟩ := List.getElem_of_mem hx
          rw [h4 i h8 (by omega)]; decide]
        rw [if_neg (by decide)]
        clear ih h4
        all_goals (refine go ?_; and_intros <;> (try exact trivial) <;> intros)
        repeat' ((first | (apply G.cR (g := 42) (v := fun x : Nat × Nat => .pointer (some ⟨x.1, 0, none⟩)) (Mn := fun x => [.blk x.1 97 [.slice b l.length d, .map (some x.2), .bool false, .string (bs []), .string (bs [])] 5, .inv x.2 (Rates l)]); rfl; rfl; exact fun w' hw' => book_holds w _ w' b l d hw'; rintro ⟨bl, bm⟩)) <;> (refine go ?_; and_intros <;> (try exact trivial) <;> intros))
        refine J.slOld hB.1 (J.front3 (r1 := .blk bl 97 [.slice b l.length d, .map (some bm), .bool false, .string (bs []), .string (bs [])] 5) (r2 := .inv bm (Rates l)) (r3 := slRow w.heap.size b 7 (l.map spV)) (by (repeat (first | exact Pick.head | apply Pick.tail))) (by (repeat (first | exact Pick.head | apply Pick.tail))) (by (repeat (first | exact Pick.head | apply Pick.tail))) ?_)
        have hnz := SpansAt.nz hB
        clear hcr hcs hk h3
        refine J.loop (c := _) ((0, 0, zero3) : Nat × Rat × Q3) (fun s => rs.length - s.1) (fun s => [(4, .pointer (some ⟨_, 0, none⟩)), (10, .pointer (some ⟨bl, 0, none⟩)), (59, .slice a rs.length c), (60, .int .i64 rs.length), (61, .int .i64 s.1)]) (fun s => [.blk bl 97 [.slice b l.length d, .map (some bm), .bool s.2.2.neg, .string (bs s.2.2.num), .string (bs s.2.2.den)] 5, .inv bm (Rates l), slRow w.heap.size b 7 (l.map spV), .blk _ 32 [.bool false, .string (bs []), .string (bs [])] 3]) (fun s => s.1 ≤ rs.length ∧ s.2.2 = rQ s.2.1 ∧ fewQ (1 + 300 * (l.length + 80) * s.1) s.2.2 ∧ s.2.1 + takeS l (rs.drop s.1) = takeS l rs ∧ ∀ i (hi : i < rs.length), i < s.1 → takeB l rs[i]) ?_ sbT sbL ?_
        · exact ⟨Nat.zero_le _, rfl, ⟨Nat.zero_le _, Nat.zero_le _⟩, Rat.zero_add _, fun i hi h => absurd h (Nat.not_lt_zero _)⟩
        intro ⟨k, x, S⟩ ⟨h3, h4, h5, h6, h7⟩ ih
        dsimp only at h3 h4 h5 h6 h7 ⊢
        by_cases hk : k < rs.length
        · obtain ⟨ba, oa, rfl, hra⟩ := SlAt.all hA.1 (by omega)
          have hrk := hra k hk
          have hmem := List.getElem_mem hk
          have hm : 300 * (l.length + 80) * k ≤ 300 * 480 * 400 := Nat.mul_le_mul (Nat.mul_le_mul_left _ (by omega)) (by omega)
          have hms : 300 * (l.length + 80) * (k + 1) = 300 * (l.length + 80) * k + 300 * (l.length + 80) := Nat.mul_succ _ _
          have hq : (S = rQ x ∧ fewQ (1 + 300 * (l.length + 80) * k) S ∧ (1 + 300 * (l.length + 80) * k) ≤ 100000000 ∧ 1 ≤ (1 + 300 * (l.length + 80) * k)) ∧ (∀ s ∈ l, PtsAt w s) ∧ (∀ s ∈ l, fewS s) ∧ (∀ s ∈ l, RightS s) ∧ l.length ≤ 400 ∧ (∃ b' off, b = some ⟨b', off, none⟩ ∨ l = []) ∧ inT rs[k] = true ∧ rs[k].tab.length ≤ 64 ∧ TabAt w rs[k] ∧ oneE rs[k] = 0 :=
            ⟨⟨h4, h5, by omega, by omega⟩, hB.2, hf, k2, k1, hnz, k5 _ hmem, hfr _ hmem, hA.2 _ hmem, k6 _ hmem⟩
          have hyes : takeB l rs[k] → ∀ i (hi : i < rs.length), i < k + 1 → takeB l rs[i] := fun h i hi h8 => by
            rcases Nat.lt_or_ge i k with h9 | h9
            · exact h7 i hi h9
            · obtain rfl : i = k := by omega
              exact h
          have hno : ¬ takeB l rs[k] → ¬ ∀ r ∈ rs, takeB l r := fun h h2 => h (h2 _ hmem)
          rw [List.drop_eq_getElem_cons hk, takeS, ← Rat.add_assoc] at h6
          clear hra hmem h7
          generalize rs[k] = r at *
          obtain ⟨rf, rt, tab, adr, cap, lo, hi⟩ := r
          dsimp only [rnV] at hrk
          all_goals (refine go ?_; and_intros <;> (try exact trivial) <;> intros)
          repeat' ((first | (apply G.takeL (l := l) rfl ⟨rf, rt, tab, adr, cap, lo, hi⟩ x (1 + 300 * (l.length + 80) * k); rfl; rfl; (repeat (first | exact Pick.head | apply Pick.tail)); (repeat (first | exact Pick.head | apply Pick.tail)); (repeat (first | exact Pick.head | apply Pick.tail)); exact hq; all_goals intro S2; (try intro y2 hS2 hf2); intro htk; (try intro hy2))) <;> (refine go ?_; and_intros <;> (try exact trivial) <;> intros))
          · exact J.finS (ih (k + 1, y2, S2) ⟨hk, hS2, fewQ_le hf2 (by dsimp only; omega), by dsimp only; rw [hy2]; exact h6, hyes htk⟩ (by dsimp only; omega))
          · rw [if_neg (hno htk)]
            all_goals refine ret2b Tryz.func24 Tryz.results24 ?_
            all_goals rfl
        · rw [if_pos fun r hr => (by obtain ⟨i, h8, rfl⟩ := List.getElem_of_mem hr; exact h7 i h8 (by omega))]
          rw [show rs.drop k = [] from List.drop_eq_nil_of_le (by omega), takeS, Rat.add_zero] at h6
          subst h6
          rw [← h4]
          clear ih h7
          all_goals (refine go ?_; and_intros <;> (try exact trivial) <;> intros)
          all_goals refine ret2b Tryz.func24 Tryz.results24 ?_
          all_goals rfl
    · rw [if_pos h2]
      generalize spansErr l = E at *
      refine enterA [(0, .slice a rs.length c), (1, .slice b l.length d)] Tryz.func24 Tryz.ntmps24 ?_
      all_goals (refine go ?_; and_intros <;> (try exact trivial) <;> intros)
      repeat' ((first | (refine G.cvb hcr ?_) | (refine G.cvb hcs ?_)) <;> (refine go ?_; and_intros <;> (try exact trivial) <;> intros))
      all_goals refine ret2b Tryz.func24 Tryz.results24 ?_
      all_goals rfl
  · rw [if_pos h1]
    generalize runsErr rs = E at *
    refine enterA [(0, .slice a rs.length c), (1, .slice b l.length d)] Tryz.func24 Tryz.ntmps24 ?_
    all_goals (refine go ?_; and_intros <;> (try exact trivial) <;> intros)
    repeat' ((first | (refine G.cvb hcr ?_) | (refine G.cvb hcs ?_)) <;> (refine go ?_; and_intros <;> (try exact trivial) <;> intros))
    all_goals refine ret2b Tryz.func24 Tryz.results24 ?_
    all_goals rfl
end Go.Proofs.YthkdfpbjkpgckaaGreatDoor
/-
  Contract of the specification: the first history of runs.
-/
namespace Go.Sl
open Go.RowKit
/-- An append to a slice of the call's own, which lies in a variable. -/
theorem G.apV {C : Ctx} {st : List (Nat × Value)} {M : List Row} {k : List Item} {q q' : Md} {all rest : List Oper} {d : Nat} {pos : String} {after : Array Edge} {gd : Option (Nat × Bool)} {T ty' E bytes size n m c base : Nat} {z v : Value} {x y : Operand} {a : Option Addr} {xs news cs : List Value} {F : Row → List Row}
    (hs : sideB all st gd d C.N q.res = some q') (hx : evS st x = some v) (hy : evS st y = some (.slice a m c)) (hm : RAt (.own base v E size n xs) M F) [hT : TElem C.P T E z size bytes] (hsrc : SrcV C M a m size news) (hcs : xs ++ news = cs) (hb : (n + m) * bytes ≤ 140737488355328) (hnm : n + m ≤ 9223372036854775807)
    (h : ∀ a' c', G q' C all ((d, .slice a' (n + m) c') :: st) (F (.own 0 (.slice a' (n + m) c') E size (n + m) cs)) rest k) :
    G q C all st M ({ dst := some d, op := .call { callee := .builtin .append, args := #[x, y], argTypes := #[T, T] }, type := ty', pos, after, guard := gd } :: rest) k := by
  obtain ⟨g1, g2, g3⟩ := sideB_ok hs
  obtain ⟨i, hi, h6⟩ := hm.idx
  subst hcs
  refine G.res g1 rfl g3 (Eff.val g2 fun ac w hf hw => ?_)
  obtain ⟨v', w', h1, h2⟩ := append_run (T := T) (dst := some d) (ty' := ty') (pos := pos) (after := after) (gd := gd) hf hw hx hi hy hsrc hb hnm
  have hlt : i < M.length := (List.getElem?_eq_some_iff.1 hi).1
  have hown : w'.ownsRow 0 E size v' (n + m) (xs ++ news) := h2.hold _ (List.mem_of_getElem? (List.getElem?_set_self hlt))
  have : ∃ a' c', v' = .slice a' (n + m) c' := by
    generalize n + m = u at hown ⊢
    obtain ⟨-, hv⟩ := hown
    rcases hv with ⟨h0, rfl⟩ | ⟨g, cap, cur, h0, -⟩
    · exact ⟨none, 0, h0⟩
    · exact ⟨_, _, h0⟩
  obtain ⟨a', c', rfl⟩ := this
  exact ⟨_, w', _, h1, h2, h6 _ ▸ h a' c'⟩
end Go.Sl
namespace Go.Proofs.YthkdfpbjkpgckaaGreatDoor
open Go.RowKit Go.Sl Go.Num
def tabS (t : List (Int × Int)) : List Int := t.flatMap fun x => List.replicate x.2.toNat x.1
def stagesR (r : Rn) : List Int := if r.tab.length = 0 then List.replicate (r.to_ - r.from_).toNat r.lo else tabS r.tab
def firstS : List Rn → List Int
  | [] => []
  | r :: t => stagesR r ++ firstS t
def firstF (l : List Rn) : Int := match l with
  | [] => 0
  | r :: _ => r.from_
theorem tabS_cons (x : Int × Int) (t : List (Int × Int)) : tabS (x :: t) = List.replicate x.2.toNat x.1 ++ tabS t := List.flatMap_cons
theorem sumT_nn : ∀ (t : List (Int × Int)), (∀ x ∈ t, 1 ≤ x.2) → 0 ≤ sumT t
  | [], _ => Int.le_refl _
  | x :: t, h => by
    have h1 := h _ (List.mem_cons_self ..)
    have h2 := sumT_nn t fun y hy => h y (List.mem_cons_of_mem _ hy)
    rw [sumT]; omega
theorem isV_len (s : Int) : (isV s).length = 1 := rfl
theorem firstBad_holds (a : Option Addr) (l : List Rn) (c : Nat) (w : World) (hA : RunsAt w a l) (hfr : ∀ r ∈ l, r.tab.length ≤ 64) (hE : runsErr l ≠ 0) :
    Calls Tryz.prog 60 #[.slice a l.length c] w fun e w' => e = .returned (.agg #[.int .i64 0, .slice none 0 0, .int .i64 (runsErr l)]) ∧ Below w.heap.size w w' := by
  have hcr := fun w' (hb : Below w.heap.size w w') => rRuns_holds a l c w' (hA.below hb) hfr
  generalize runsErr l = E at *
  refine enterA [(0, .slice a l.length c)] Tryz.func60 Tryz.ntmps60 ?_
  all_goals (refine go ?_; and_intros <;> (try exact trivial) <;> intros)
  repeat' ((first | (refine G.cvb hcr ?_)) <;> (refine go ?_; and_intros <;> (try exact trivial) <;> intros))
  all_goals refine ret1b Tryz.func60 Tryz.results60 ?_
  all_goals rfl
theorem first_holds (a : Option Addr) (l : List Rn) (c : Nat) (w : World) (hA : RunsAt w a l) (hfr : ∀ r ∈ l, r.tab.length ≤ 64) (hn : l.length ≤ 400) (hE : runsErr l = 0) :
    Calls Tryz.prog 60 #[.slice a l.length c] w fun e w' => ∃ a' c', e = .returned (.agg #[.int .i64 (firstF l), .slice a' (firstS l).length c', .int .i64 0]) ∧ SlAt w' a' 1 ((firstS l).map isV) ∧ (∀ p, a' = some p → w.heap.size ≤ p.block) ∧ Below w.heap.size w w' := by
  have hcr := fun w' (hb : Below w.heap.size w w') => rRuns_holds a l c w' (hA.below hb) hfr
  have ⟨_, k5, _⟩ := runsErr_ok hE
  have k6 := runsErr_one hE
  rw [hE] at hcr
  generalize hF : firstS l = F
  refine enterA [(0, .slice a l.length c)] Tryz.func60 Tryz.ntmps60 ?_
  all_goals (refine go ?_; and_intros <;> (try exact trivial) <;> intros)
  repeat' ((first | (refine G.cvb hcr ?_)) <;> (refine go ?_; and_intros <;> (try exact trivial) <;> intros))
  clear hcr
  apply J.nilOwn (E := 3) (size := 1)
  refine J.loop (c := _) ((0, 0, none, 0, 0, []) : Nat × Int × Option Addr × Nat × Nat × List Int) (fun s => l.length - s.1) (fun s => [(0, .slice a l.length c), (2, .pointer (some ⟨_, 0, none⟩)), (4, .pointer (some ⟨_, 0, none⟩)), (5, .int .i64 s.1)]) (fun s => [.own 0 (.slice s.2.2.1 s.2.2.2.2.1 s.2.2.2.1) 3 1 s.2.2.2.2.1 (flat isV s.2.2.2.2.2), .blk _ 24 [.int .i64 s.2.1, .slice s.2.2.1 s.2.2.2.2.1 s.2.2.2.1] 2, .blk _ 106 [.int .i64 0, .slice none 0 0, .int .i64 0] 3]) (fun s => s.1 ≤ l.length ∧ s.2.2.2.2.2.length = s.2.2.2.2.1 ∧ s.2.2.2.2.2 ++ firstS (l.drop s.1) = F ∧ s.2.2.2.2.1 ≤ 1402560 * s.1 ∧ (s.1 = 0 → s.2.1 = 0) ∧ (0 < s.1 → s.2.1 = firstF l)) ?_ sbT sbL ?_
  · exact ⟨Nat.zero_le _, rfl, hF, Nat.zero_le _, fun _ => rfl, fun h => absurd h (Nat.lt_irrefl _)⟩
  intro ⟨k, fr, au, cu, j, o⟩ ⟨h3, h4, h5, h6, h7, h8⟩ ih
  dsimp only at h3 h4 h5 h6 h7 h8 ⊢
  by_cases hk : k < l.length
  · obtain ⟨ba, oa, rfl, hra⟩ := SlAt.all hA.1 (by omega)
    have hrk := hra k hk
    have hmem := List.getElem_mem hk
    have hin := k5 _ hmem
    have hone := k6 _ hmem
    have htab := hA.2 _ hmem
    have hlen := hfr _ hmem
    have hff : k = 0 → firstF l = l[k].from_ := fun e => by
      subst e
      cases l with
      | nil => exact absurd hk (Nat.lt_irrefl _)
      | cons r t => rfl
    rw [List.drop_eq_getElem_cons hk, firstS] at h5
    rw [inT, decide_eq_true_eq] at hin
    clear hra hmem
    generalize l[k] = r at *
    have hfr2 : ∀ fr2, (k = 0 → fr2 = r.from_) → (0 < k → fr2 = fr) → (k + 1 = 0 → fr2 = 0) ∧ (0 < k + 1 → fr2 = firstF l) := fun fr2 g1 g2 => ⟨fun e => absurd e (Nat.succ_ne_zero _), fun _ => by
      rcases Nat.eq_zero_or_pos k with e | e
      · rw [g1 e, hff e]
      · rw [g2 e, h8 e]⟩
    by_cases h0 : r.tab.length = 0
    · rw [stagesR, if_pos h0] at h5
      clear hone htab hlen hff h7 h8
      obtain ⟨rf, rt, tab, adr, cap, lo, hi⟩ := r
      dsimp only [rnV] at *
      obtain ⟨n, rfl⟩ : ∃ n : Nat, rt = rf + n := ⟨(rt - rf).toNat, by omega⟩
      rw [show (rf + n - rf : Int).toNat = n by omega] at h5
      rcases Nat.eq_zero_or_pos k with e | e
      · skip
        all_goals (refine go ?_; and_intros <;> (try exact trivial) <;> intros)
        repeat' ((first | (apply G.s1 (v := .int .i64 rf); rfl; rfl; rfl; (repeat (first | exact RAt.head | apply RAt.tail)); exact ⟨rfl, rfl⟩; exact Nat.le_of_ble_eq_true rfl; rfl)) <;> (refine go ?_; and_intros <;> (try exact trivial) <;> intros))
        refine J.loop (c := _) ((0, rf, au, cu, j, o) : Nat × Int × Option Addr × Nat × Nat × List Int) (fun s => n - s.1) (fun s => [(0, .slice (some ⟨ba, oa, none⟩) l.length c), (2, .pointer (some ⟨_, 0, none⟩)), (4, .pointer (some ⟨_, 0, none⟩)), (5, .int .i64 k), (6, .int .i64 s.2.1)]) (fun s => [.own 0 (.slice s.2.2.1 s.2.2.2.2.1 s.2.2.2.1) 3 1 s.2.2.2.2.1 (flat isV s.2.2.2.2.2), .blk _ 24 [.int .i64 rf, .slice s.2.2.1 s.2.2.2.2.1 s.2.2.2.1] 2, .blk _ 106 [.int .i64 0, .slice none 0 0, .int .i64 0] 3]) (fun s => s.1 ≤ n ∧ s.2.1 = rf + s.1 ∧ s.2.2.2.2.2.length = s.2.2.2.2.1 ∧ s.2.2.2.2.2 ++ (List.replicate (n - s.1) lo ++ firstS (l.drop (k + 1))) = F ∧ s.2.2.2.2.1 ≤ 1402560 * k + s.1) ?_ sbT sbL ?_
        · exact ⟨Nat.zero_le _, by simp, h4, h5, h6⟩
        intro ⟨i, tt, au2, cu2, j2, o2⟩ ⟨i1, i2, i3, i4, i5⟩ ih2
        dsimp only at i1 i2 i3 i4 i5 ⊢
        subst i2
        by_cases hi : i < n
        · rw [show n - i = (n - (i + 1)) + 1 by omega, List.replicate_succ, List.cons_append, List.append_cons] at i4
          all_goals (refine goR ?_; and_intros <;> (try exact trivial) <;> intros)
          repeat' ((first | (apply J.regA (.q 0 <| .q 1 <| .q 2 <| .q 3 <| .q 4 <| .q 5 <| .q 6 <| .e 7 <| .r 8 <| .q 9 <| .r 10 <| .nil); exact Tryz.mixed; decide +kernel) | (apply G.sliceL; rfl; rfl; rfl; rfl; rfl; rfl; rfl; rfl; intro Bs) | (apply G.apV; rfl; rfl; rfl; (repeat (first | exact RAt.head | apply RAt.tail)); exact SrcV.blk (by exact mm) rfl rfl; exact flat1 isV o2 lo; omega; omega; intro a2 c2) | (apply G.s1 (v := .slice a2 (j2 + 1) c2); rfl; rfl; rfl; (repeat (first | exact RAt.head | apply RAt.tail)); exact ⟨rfl, rfl⟩; exact Nat.le_of_ble_eq_true rfl; rfl) | (apply J.regQ; exact Tryz.mixed; decide +kernel) | (apply J.regL'; exact Tryz.mixed; decide +kernel)) <;> (refine goR ?_; and_intros <;> (try exact trivial) <;> intros))
          exact J.fin (ih2 (i + 1, rf + i + 1, a2, c2, j2 + 1, o2 ++ [lo]) ⟨hi, by dsimp only; omega, by simp [i3], i4, by dsimp only; omega⟩ (by dsimp only; omega))
        · rw [show n - i = 0 by omega, List.replicate_zero, List.nil_append] at i4
          clear ih2
          all_goals (refine go ?_; and_intros <;> (try exact trivial) <;> intros)
          refine J.loop (c := _) () (fun s => 0) (fun s => [(0, .slice (some ⟨ba, oa, none⟩) l.length c), (2, .pointer (some ⟨_, 0, none⟩)), (4, .pointer (some ⟨_, 0, none⟩)), (5, .int .i64 k), (7, .int .i64 0)]) (fun s => [.own 0 (.slice au2 j2 cu2) 3 1 j2 (flat isV o2), .blk _ 24 [.int .i64 rf, .slice au2 j2 cu2] 2, .blk _ 106 [.int .i64 0, .slice none 0 0, .int .i64 0] 3]) (fun s => True) ?_ sbT sbL ?_
          · trivial
          intro _ _ ih2
          clear ih2
          all_goals (refine go ?_; and_intros <;> (try exact trivial) <;> intros)
          exact J.fin (ih (k + 1, rf, au2, cu2, j2, o2) ⟨hk, i3, i4, by dsimp only; omega, hfr2 rf (fun _ => rfl) (fun h => by omega)⟩ (by dsimp only; omega))
      · skip
        all_goals (refine go ?_; and_intros <;> (try exact trivial) <;> intros)
        refine J.loop (c := _) ((0, rf, au, cu, j, o) : Nat × Int × Option Addr × Nat × Nat × List Int) (fun s => n - s.1) (fun s => [(0, .slice (some ⟨ba, oa, none⟩) l.length c), (2, .pointer (some ⟨_, 0, none⟩)), (4, .pointer (some ⟨_, 0, none⟩)), (5, .int .i64 k), (6, .int .i64 s.2.1)]) (fun s => [.own 0 (.slice s.2.2.1 s.2.2.2.2.1 s.2.2.2.1) 3 1 s.2.2.2.2.1 (flat isV s.2.2.2.2.2), .blk _ 24 [.int .i64 fr, .slice s.2.2.1 s.2.2.2.2.1 s.2.2.2.1] 2, .blk _ 106 [.int .i64 0, .slice none 0 0, .int .i64 0] 3]) (fun s => s.1 ≤ n ∧ s.2.1 = rf + s.1 ∧ s.2.2.2.2.2.length = s.2.2.2.2.1 ∧ s.2.2.2.2.2 ++ (List.replicate (n - s.1) lo ++ firstS (l.drop (k + 1))) = F ∧ s.2.2.2.2.1 ≤ 1402560 * k + s.1) ?_ sbT sbL ?_
        · exact ⟨Nat.zero_le _, by simp, h4, h5, h6⟩
        intro ⟨i, tt, au2, cu2, j2, o2⟩ ⟨i1, i2, i3, i4, i5⟩ ih2
        dsimp only at i1 i2 i3 i4 i5 ⊢
        subst i2
        by_cases hi : i < n
        · rw [show n - i = (n - (i + 1)) + 1 by omega, List.replicate_succ, List.cons_append, List.append_cons] at i4
          all_goals (refine goR ?_; and_intros <;> (try exact trivial) <;> intros)
          repeat' ((first | (apply J.regA (.q 0 <| .q 1 <| .q 2 <| .q 3 <| .q 4 <| .q 5 <| .q 6 <| .e 7 <| .r 8 <| .q 9 <| .r 10 <| .nil); exact Tryz.mixed; decide +kernel) | (apply G.sliceL; rfl; rfl; rfl; rfl; rfl; rfl; rfl; rfl; intro Bs) | (apply G.apV; rfl; rfl; rfl; (repeat (first | exact RAt.head | apply RAt.tail)); exact SrcV.blk (by exact mm) rfl rfl; exact flat1 isV o2 lo; omega; omega; intro a2 c2) | (apply G.s1 (v := .slice a2 (j2 + 1) c2); rfl; rfl; rfl; (repeat (first | exact RAt.head | apply RAt.tail)); exact ⟨rfl, rfl⟩; exact Nat.le_of_ble_eq_true rfl; rfl) | (apply J.regQ; exact Tryz.mixed; decide +kernel) | (apply J.regL'; exact Tryz.mixed; decide +kernel)) <;> (refine goR ?_; and_intros <;> (try exact trivial) <;> intros))
          exact J.fin (ih2 (i + 1, rf + i + 1, a2, c2, j2 + 1, o2 ++ [lo]) ⟨hi, by dsimp only; omega, by simp [i3], i4, by dsimp only; omega⟩ (by dsimp only; omega))
        · rw [show n - i = 0 by omega, List.replicate_zero, List.nil_append] at i4
          clear ih2
          all_goals (refine go ?_; and_intros <;> (try exact trivial) <;> intros)
          refine J.loop (c := _) () (fun s => 0) (fun s => [(0, .slice (some ⟨ba, oa, none⟩) l.length c), (2, .pointer (some ⟨_, 0, none⟩)), (4, .pointer (some ⟨_, 0, none⟩)), (5, .int .i64 k), (7, .int .i64 0)]) (fun s => [.own 0 (.slice au2 j2 cu2) 3 1 j2 (flat isV o2), .blk _ 24 [.int .i64 fr, .slice au2 j2 cu2] 2, .blk _ 106 [.int .i64 0, .slice none 0 0, .int .i64 0] 3]) (fun s => True) ?_ sbT sbL ?_
          · trivial
          intro _ _ ih2
          clear ih2
          all_goals (refine go ?_; and_intros <;> (try exact trivial) <;> intros)
          exact J.fin (ih (k + 1, fr, au2, cu2, j2, o2) ⟨hk, i3, i4, by dsimp only; omega, hfr2 fr (fun h => by omega) (fun _ => rfl)⟩ (by dsimp only; omega))
    · rw [stagesR, if_neg h0] at h5
      obtain ⟨htt, _, hsum, _, _⟩ := oneE_tab hone h0
      clear hone hff h7 h8
      obtain ⟨rf, rt, tab, adr, cap, lo, hi⟩ := r
      have htab : SlAt w adr 2 (tab.map hoV) := htab
      dsimp only [rnV] at *
      obtain ⟨b2, o2, rfl, hra2⟩ := SlAt.all htab (by omega)
      rcases Nat.eq_zero_or_pos k with e | e
      · skip
        all_goals (refine go ?_; and_intros <;> (try exact trivial) <;> intros)
        repeat' ((first | (apply G.s1 (v := .int .i64 rf); rfl; rfl; rfl; (repeat (first | exact RAt.head | apply RAt.tail)); exact ⟨rfl, rfl⟩; exact Nat.le_of_ble_eq_true rfl; rfl)) <;> (refine go ?_; and_intros <;> (try exact trivial) <;> intros))
        refine J.loop (c := _) () (fun s => 0) (fun s => [(0, .slice (some ⟨ba, oa, none⟩) l.length c), (2, .pointer (some ⟨_, 0, none⟩)), (4, .pointer (some ⟨_, 0, none⟩)), (5, .int .i64 k), (6, .int .i64 rf)]) (fun s => [.own 0 (.slice au j cu) 3 1 j (flat isV o), .blk _ 24 [.int .i64 rf, .slice au j cu] 2, .blk _ 106 [.int .i64 0, .slice none 0 0, .int .i64 0] 3]) (fun s => True) ?_ sbT sbL ?_
        · trivial
        intro _ _ ih2
        clear ih2
        all_goals (refine go ?_; and_intros <;> (try exact trivial) <;> intros)
        refine J.loop (c := _) ((0, au, cu, j, o) : Nat × Option Addr × Nat × Nat × List Int) (fun s => tab.length - s.1) (fun s => [(0, .slice (some ⟨ba, oa, none⟩) l.length c), (2, .pointer (some ⟨_, 0, none⟩)), (4, .pointer (some ⟨_, 0, none⟩)), (5, .int .i64 k), (7, .int .i64 s.1)]) (fun s => [.own 0 (.slice s.2.1 s.2.2.2.1 s.2.2.1) 3 1 s.2.2.2.1 (flat isV s.2.2.2.2), .blk _ 24 [.int .i64 rf, .slice s.2.1 s.2.2.2.1 s.2.2.1] 2, .blk _ 106 [.int .i64 0, .slice none 0 0, .int .i64 0] 3]) (fun s => s.1 ≤ tab.length ∧ s.2.2.2.2.length = s.2.2.2.1 ∧ s.2.2.2.2 ++ (tabS (tab.drop s.1) ++ firstS (l.drop (k + 1))) = F ∧ (s.2.2.2.1 : Int) + sumT (tab.drop s.1) ≤ 1402560 * (k + 1)) ?_ sbT sbL ?_
        · exact ⟨Nat.zero_le _, h4, h5, by dsimp only; rw [List.drop_zero, hsum]; omega⟩
        intro ⟨i, au2, cu2, j2, o2⟩ ⟨i1, i3, i4, i5⟩ ih2
        dsimp only at i1 i3 i4 i5 ⊢
        by_cases hi : i < tab.length
        · have hri := hra2 i hi
          have hti := htt _ (List.getElem_mem hi)
          rw [List.drop_eq_getElem_cons hi, sumT] at i5
          rw [List.drop_eq_getElem_cons hi, tabS_cons, List.append_assoc] at i4
          generalize tab[i] = z at *
          obtain ⟨z, nz⟩ := z
          dsimp only [hoV] at hri hti i4 i5
          obtain ⟨n, rfl⟩ : ∃ n : Nat, nz = n := ⟨nz.toNat, by omega⟩
          rw [Int.toNat_natCast] at i4
          have hsu := sumT_nn (tab.drop (i + 1)) fun y hy => (htt y (List.mem_of_mem_drop hy)).2.1
          all_goals (refine go ?_; and_intros <;> (try exact trivial) <;> intros)
          repeat' ((first | (apply G.ix (i := k); rfl; rfl; rfl; omega; rfl)) <;> (refine go ?_; and_intros <;> (try exact trivial) <;> intros))
          refine J.loop (c := _) ((0, au2, cu2, j2, o2) : Nat × Option Addr × Nat × Nat × List Int) (fun s => n - s.1) (fun s => [(0, .slice (some ⟨ba, oa, none⟩) l.length c), (2, .pointer (some ⟨_, 0, none⟩)), (4, .pointer (some ⟨_, 0, none⟩)), (5, .int .i64 k), (7, .int .i64 i), (8, .int .i64 s.1)]) (fun s => [.own 0 (.slice s.2.1 s.2.2.2.1 s.2.2.1) 3 1 s.2.2.2.1 (flat isV s.2.2.2.2), .blk _ 24 [.int .i64 rf, .slice s.2.1 s.2.2.2.1 s.2.2.1] 2, .blk _ 106 [.int .i64 0, .slice none 0 0, .int .i64 0] 3]) (fun s => s.1 ≤ n ∧ s.2.2.2.2.length = s.2.2.2.1 ∧ s.2.2.2.2 ++ (List.replicate (n - s.1) z ++ (tabS (tab.drop (i + 1)) ++ firstS (l.drop (k + 1)))) = F ∧ (s.2.2.2.1 : Int) + (n - s.1) + sumT (tab.drop (i + 1)) ≤ 1402560 * (k + 1)) ?_ sbT sbL ?_
          · exact ⟨Nat.zero_le _, i3, i4, by dsimp only; omega⟩
          clear i3 i4 i5
          intro ⟨m, au3, cu3, j3, o3⟩ ⟨m1, m3, m4, m5⟩ ih3
          dsimp only at m1 m3 m4 m5 ⊢
          by_cases hm : m < n
          · rw [show n - m = (n - (m + 1)) + 1 by omega, List.replicate_succ, List.cons_append, List.append_cons] at m4
            all_goals (refine goR ?_; and_intros <;> (try exact trivial) <;> intros)
            repeat' ((first | (apply J.regA (.q 0 <| .q 1 <| .q 2 <| .q 3 <| .q 4 <| .q 5 <| .q 6 <| .q 7 <| .q 8 <| .q 9 <| .q 10 <| .e 11 <| .r 12 <| .q 13 <| .r 14 <| .nil); exact Tryz.mixed; decide +kernel) | (apply G.sliceL; rfl; rfl; rfl; rfl; rfl; rfl; rfl; rfl; intro Bs) | (apply G.apV; rfl; rfl; rfl; (repeat (first | exact RAt.head | apply RAt.tail)); exact SrcV.blk (by exact mm) rfl rfl; exact flat1 isV o3 z; omega; omega; intro a2 c2) | (apply G.s1 (v := .slice a2 (j3 + 1) c2); rfl; rfl; rfl; (repeat (first | exact RAt.head | apply RAt.tail)); exact ⟨rfl, rfl⟩; exact Nat.le_of_ble_eq_true rfl; rfl) | (apply J.regQ; exact Tryz.mixed; decide +kernel) | (apply J.regL'; exact Tryz.mixed; decide +kernel)) <;> (refine goR ?_; and_intros <;> (try exact trivial) <;> intros))
            exact J.fin (ih3 (m + 1, a2, c2, j3 + 1, o3 ++ [z]) ⟨hm, by simp [m3], m4, by dsimp only; omega⟩ (by dsimp only; omega))
          · rw [show n - m = 0 by omega, List.replicate_zero, List.nil_append] at m4
            clear ih3
            all_goals (refine go ?_; and_intros <;> (try exact trivial) <;> intros)
            exact J.fin (ih2 (i + 1, au3, cu3, j3, o3) ⟨hi, m3, m4, by dsimp only; omega⟩ (by dsimp only; omega))
        · rw [show tab.drop i = [] from List.drop_eq_nil_of_le (by omega)] at i4 i5
          clear ih2
          all_goals (refine go ?_; and_intros <;> (try exact trivial) <;> intros)
          exact J.fin (ih (k + 1, rf, au2, cu2, j2, o2) ⟨hk, i3, i4, by dsimp only; rw [sumT] at i5; omega, hfr2 rf (fun _ => rfl) (fun h => by omega)⟩ (by dsimp only; omega))
      · skip
        all_goals (refine go ?_; and_intros <;> (try exact trivial) <;> intros)
        refine J.loop (c := _) () (fun s => 0) (fun s => [(0, .slice (some ⟨ba, oa, none⟩) l.length c), (2, .pointer (some ⟨_, 0, none⟩)), (4, .pointer (some ⟨_, 0, none⟩)), (5, .int .i64 k), (6, .int .i64 rf)]) (fun s => [.own 0 (.slice au j cu) 3 1 j (flat isV o), .blk _ 24 [.int .i64 fr, .slice au j cu] 2, .blk _ 106 [.int .i64 0, .slice none 0 0, .int .i64 0] 3]) (fun s => True) ?_ sbT sbL ?_
        · trivial
        intro _ _ ih2
        clear ih2
        all_goals (refine go ?_; and_intros <;> (try exact trivial) <;> intros)
        refine J.loop (c := _) ((0, au, cu, j, o) : Nat × Option Addr × Nat × Nat × List Int) (fun s => tab.length - s.1) (fun s => [(0, .slice (some ⟨ba, oa, none⟩) l.length c), (2, .pointer (some ⟨_, 0, none⟩)), (4, .pointer (some ⟨_, 0, none⟩)), (5, .int .i64 k), (7, .int .i64 s.1)]) (fun s => [.own 0 (.slice s.2.1 s.2.2.2.1 s.2.2.1) 3 1 s.2.2.2.1 (flat isV s.2.2.2.2), .blk _ 24 [.int .i64 fr, .slice s.2.1 s.2.2.2.1 s.2.2.1] 2, .blk _ 106 [.int .i64 0, .slice none 0 0, .int .i64 0] 3]) (fun s => s.1 ≤ tab.length ∧ s.2.2.2.2.length = s.2.2.2.1 ∧ s.2.2.2.2 ++ (tabS (tab.drop s.1) ++ firstS (l.drop (k + 1))) = F ∧ (s.2.2.2.1 : Int) + sumT (tab.drop s.1) ≤ 1402560 * (k + 1)) ?_ sbT sbL ?_
        · exact ⟨Nat.zero_le _, h4, h5, by dsimp only; rw [List.drop_zero, hsum]; omega⟩
        intro ⟨i, au2, cu2, j2, o2⟩ ⟨i1, i3, i4, i5⟩ ih2
        dsimp only at i1 i3 i4 i5 ⊢
        by_cases hi : i < tab.length
        · have hri := hra2 i hi
          have hti := htt _ (List.getElem_mem hi)
          rw [List.drop_eq_getElem_cons hi, sumT] at i5
          rw [List.drop_eq_getElem_cons hi, tabS_cons, List.append_assoc] at i4
          generalize tab[i] = z at *
          obtain ⟨z, nz⟩ := z
          dsimp only [hoV] at hri hti i4 i5
          obtain ⟨n, rfl⟩ : ∃ n : Nat, nz = n := ⟨nz.toNat, by omega⟩
          rw [Int.toNat_natCast] at i4
          have hsu := sumT_nn (tab.drop (i + 1)) fun y hy => (htt y (List.mem_of_mem_drop hy)).2.1
          all_goals (refine go ?_; and_intros <;> (try exact trivial) <;> intros)
          repeat' ((first | (apply G.ix (i := k); rfl; rfl; rfl; omega; rfl)) <;> (refine go ?_; and_intros <;> (try exact trivial) <;> intros))
          refine J.loop (c := _) ((0, au2, cu2, j2, o2) : Nat × Option Addr × Nat × Nat × List Int) (fun s => n - s.1) (fun s => [(0, .slice (some ⟨ba, oa, none⟩) l.length c), (2, .pointer (some ⟨_, 0, none⟩)), (4, .pointer (some ⟨_, 0, none⟩)), (5, .int .i64 k), (7, .int .i64 i), (8, .int .i64 s.1)]) (fun s => [.own 0 (.slice s.2.1 s.2.2.2.1 s.2.2.1) 3 1 s.2.2.2.1 (flat isV s.2.2.2.2), .blk _ 24 [.int .i64 fr, .slice s.2.1 s.2.2.2.1 s.2.2.1] 2, .blk _ 106 [.int .i64 0, .slice none 0 0, .int .i64 0] 3]) (fun s => s.1 ≤ n ∧ s.2.2.2.2.length = s.2.2.2.1 ∧ s.2.2.2.2 ++ (List.replicate (n - s.1) z ++ (tabS (tab.drop (i + 1)) ++ firstS (l.drop (k + 1)))) = F ∧ (s.2.2.2.1 : Int) + (n - s.1) + sumT (tab.drop (i + 1)) ≤ 1402560 * (k + 1)) ?_ sbT sbL ?_
          · exact ⟨Nat.zero_le _, i3, i4, by dsimp only; omega⟩
          clear i3 i4 i5
          intro ⟨m, au3, cu3, j3, o3⟩ ⟨m1, m3, m4, m5⟩ ih3
          dsimp only at m1 m3 m4 m5 ⊢
          by_cases hm : m < n
          · rw [show n - m = (n - (m + 1)) + 1 by omega, List.replicate_succ, List.cons_append, List.append_cons] at m4
            all_goals (refine goR ?_; and_intros <;> (try exact trivial) <;> intros)
            repeat' ((first | (apply J.regA (.q 0 <| .q 1 <| .q 2 <| .q 3 <| .q 4 <| .q 5 <| .q 6 <| .q 7 <| .q 8 <| .q 9 <| .q 10 <| .e 11 <| .r 12 <| .q 13 <| .r 14 <| .nil); exact Tryz.mixed; decide +kernel) | (apply G.sliceL; rfl; rfl; rfl; rfl; rfl; rfl; rfl; rfl; intro Bs) | (apply G.apV; rfl; rfl; rfl; (repeat (first | exact RAt.head | apply RAt.tail)); exact SrcV.blk (by exact mm) rfl rfl; exact flat1 isV o3 z; omega; omega; intro a2 c2) | (apply G.s1 (v := .slice a2 (j3 + 1) c2); rfl; rfl; rfl; (repeat (first | exact RAt.head | apply RAt.tail)); exact ⟨rfl, rfl⟩; exact Nat.le_of_ble_eq_true rfl; rfl) | (apply J.regQ; exact Tryz.mixed; decide +kernel) | (apply J.regL'; exact Tryz.mixed; decide +kernel)) <;> (refine goR ?_; and_intros <;> (try exact trivial) <;> intros))
            exact J.fin (ih3 (m + 1, a2, c2, j3 + 1, o3 ++ [z]) ⟨hm, by simp [m3], m4, by dsimp only; omega⟩ (by dsimp only; omega))
          · rw [show n - m = 0 by omega, List.replicate_zero, List.nil_append] at m4
            clear ih3
            all_goals (refine go ?_; and_intros <;> (try exact trivial) <;> intros)
            exact J.fin (ih2 (i + 1, au3, cu3, j3, o3) ⟨hi, m3, m4, by dsimp only; omega⟩ (by dsimp only; omega))
        · rw [show tab.drop i = [] from List.drop_eq_nil_of_le (by omega)] at i4 i5
          clear ih2
          all_goals (refine go ?_; and_intros <;> (try exact trivial) <;> intros)
          exact J.fin (ih (k + 1, fr, au2, cu2, j2, o2) ⟨hk, i3, i4, by dsimp only; rw [sumT] at i5; omega, hfr2 fr (fun h => by omega) (fun _ => rfl)⟩ (by dsimp only; omega))
  · obtain rfl : k = l.length := by omega
    rw [List.drop_length, firstS, List.append_nil] at h5
    subst h5 h4
    have hfr : fr = firstF l := by
      rcases Nat.eq_zero_or_pos l.length with e | e
      · rw [h7 e]
        rw [List.length_eq_zero_iff.1 e]; rfl
      · exact h8 e
    subst hfr
    clear ih
    all_goals (refine go ?_; and_intros <;> (try exact trivial) <;> intros)
    refine ret1 Tryz.func60 Tryz.results60 ?_
    intro w' hw'
    have ho := hw'.hold (Row.own 0 (.slice au o.length cu) 3 1 o.length (flat isV o)) (by exact mm)
    refine ⟨au, cu, rfl, SlAt.ofOwn isV_len ho rfl, ?_, hw'.below⟩
    rintro p rfl
    exact ((hw'.old (Row.own 0 (.slice (some p) o.length cu) 3 1 o.length (flat isV o)) (by exact mm)).2 p.block rfl).1
end Go.Proofs.YthkdfpbjkpgckaaGreatDoor
/-
  Contract of the specification: whether two stages of a table run can be exchanged.
-/
namespace Go.Proofs.YthkdfpbjkpgckaaGreatDoor
open Go.RowKit Go.Sl Go.Num
/-- An exchange of two stages that makes a difference. -/
def movP (x : Rn) (l : List Spn) : Prop := ∃ (k : Nat) (h0 : 0 < x.tab.length) (hk : k < x.tab.length), 0 < k ∧ ∃ j : Nat, 0 < j ∧ x.from_ + j < x.to_ ∧ worthOf l x.from_ x.tab[0].1 + worthOf l (x.from_ + j) x.tab[k].1 ≠ worthOf l x.from_ x.tab[k].1 + worthOf l (x.from_ + j) x.tab[0].1
open Classical in
theorem moves_holds (x : Rn) (a : Option Addr) (l : List Spn) (c : Nat) (w : World) (hA : SpansAt w a l) (hT : TabAt w x) (hf : ∀ s ∈ l, fewS s) (hR : ∀ s ∈ l, RightS s) (hl : l.length ≤ 1000000) (hx : inT x = true) (hlen : x.tab.length ≤ 64) (hs : ∀ z ∈ x.tab, 0 ≤ z.1 ∧ z.1 ≤ 1000) :
    Calls Tryz.prog 59 #[rnA x, .slice a l.length c] w fun e w' => e = .returned (.bool (decide (movP x l))) ∧ Below w.heap.size w w' := by
  rw [inT, decide_eq_true_eq] at hx
  have hwo := fun t st (h1 : 0 ≤ st ∧ st ≤ 1000) w' (hb : Below w.heap.size w w') => worth_holds a l c t st w' (hA.below hb) hf hR hl h1.1 h1.2
  have hfw := fun t st (h1 : 0 ≤ st ∧ st ≤ 1000) => fewQ_worth (t := t) (st := st) hf hR h1.1 h1.2
  have hadd : ∀ t1 s1 t2 s2, (0 ≤ s1 ∧ s1 ≤ 1000) → (0 ≤ s2 ∧ s2 ≤ 1000) → ∀ w', Calls Tryz.prog 44 #[qA (rQ (worthOf l t1 s1)), qA (rQ (worthOf l t2 s2))] w' fun e w'' => e = .returned (qA (rQ (worthOf l t1 s1 + worthOf l t2 s2))) ∧ Below w'.heap.size w' w'' := fun t1 s1 t2 s2 h1 h2 w' => by
    have := sAdd_holds (rQ (worthOf l t1 s1)) (rQ (worthOf l t2 s2)) w' (fewQ_le (hfw t1 s1 h1) (by decide)).1 (fewQ_le (hfw t1 s1 h1) (by decide)).2 (fewQ_le (hfw t2 s2 h2) (by decide)).1 (fewQ_le (hfw t2 s2 h2) (by decide)).2
    rw [qR_rQ, qR_rQ] at this
    exact this
  generalize hD : movP x l = D at *
  obtain ⟨f, t, tab, adr, cap, lo, hi⟩ := x
  have hT : SlAt w adr 2 (tab.map hoV) := hT
  dsimp only at hx hlen hs
  refine enterA [(0, .agg #[.int .i64 f, .int .i64 t, .slice adr tab.length cap, .int .i64 lo, .int .i64 hi]), (1, .slice a l.length c)] Tryz.func59 Tryz.ntmps59 ?_
  all_goals (refine go ?_; and_intros <;> (try exact trivial) <;> intros)
  refine J.loop (c := _) (1 : Nat) (fun s => tab.length - s) (fun s => [(1, .slice a l.length c), (2, .pointer (some ⟨_, 0, none⟩)), (5, .int .i64 s)]) (fun s => [.blk _ 28 [.int .i64 f, .int .i64 t, .slice adr tab.length cap, .int .i64 lo, .int .i64 hi] 5]) (fun s => 1 ≤ s ∧ ∀ (k : Nat) (h0 : 0 < tab.length) (hk : k < tab.length), 0 < k → k < s → ∀ j : Nat, 0 < j → f + j < t → worthOf l f tab[0].1 + worthOf l (f + j) tab[k].1 = worthOf l f tab[k].1 + worthOf l (f + j) tab[0].1) ?_ sbT sbL ?_
  · exact ⟨Nat.le_refl _, fun k _ _ h1 h2 => by omega⟩
  intro k ⟨h1, h2⟩ ih
  by_cases hk : k < tab.length
  · obtain ⟨ba, oa, rfl, hra⟩ := SlAt.all hT (by omega)
    have hr0 := hra 0 (by omega)
    have hrk := hra k hk
    have hs0 := hs _ (List.getElem_mem (show 0 < tab.length by omega))
    have hsk := hs _ (List.getElem_mem hk)
    have hstep : (∀ j : Nat, 0 < j → f + j < t → worthOf l f (tab[0]'(by omega)).1 + worthOf l (f + j) tab[k].1 = worthOf l f tab[k].1 + worthOf l (f + j) (tab[0]'(by omega)).1) → ∀ (q : Nat) (h0 : 0 < tab.length) (hq : q < tab.length), 0 < q → q < k + 1 → ∀ j : Nat, 0 < j → f + j < t → worthOf l f tab[0].1 + worthOf l (f + j) tab[q].1 = worthOf l f tab[q].1 + worthOf l (f + j) tab[0].1 := fun h q h0 hq h3 h4 => by
      rcases Nat.lt_or_ge q k with h5 | h5
      · exact h2 q h0 hq h3 h5
      · obtain rfl : q = k := by omega
        exact h
    have hyes : ∀ j : Nat, 0 < j → f + j < t → worthOf l f (tab[0]'(by omega)).1 + worthOf l (f + j) tab[k].1 ≠ worthOf l f tab[k].1 + worthOf l (f + j) (tab[0]'(by omega)).1 → D := fun j h3 h4 h5 => by
      rw [← hD]
      exact ⟨k, by dsimp only; omega, hk, by omega, j, h3, h4, h5⟩
    clear h2 hra
    generalize tab[0] = z0 at *
    generalize tab[k] = zk at *
    obtain ⟨s0, n0⟩ := z0
    obtain ⟨sk, nk⟩ := zk
    dsimp only [hoV] at *
    all_goals (refine go ?_; and_intros <;> (try exact trivial) <;> intros)
    refine J.loop (c := _) ((1, f + 1) : Nat × Int) (fun s => (t - f).toNat - s.1) (fun s => [(1, .slice a l.length c), (2, .pointer (some ⟨_, 0, none⟩)), (5, .int .i64 k), (6, .int .i64 s.2)]) (fun s => [.blk _ 28 [.int .i64 f, .int .i64 t, .slice (some ⟨ba, oa, none⟩) tab.length cap, .int .i64 lo, .int .i64 hi] 5]) (fun s => s.2 = f + s.1 ∧ 1 ≤ s.1 ∧ ∀ j : Nat, 0 < j → j < s.1 → worthOf l f s0 + worthOf l (f + j) sk = worthOf l f sk + worthOf l (f + j) s0) ?_ sbT sbL ?_
    · exact ⟨rfl, Nat.le_refl _, fun j h3 h4 => by omega⟩
    intro ⟨j, tt⟩ ⟨j1, j2, j3⟩ ih2
    dsimp only at j1 j2 j3 ⊢
    subst j1
    by_cases hj : f + j < t
    · have hw1 := hwo f s0 hs0
      have hw2 := hwo (f + j) sk hsk
      have hw3 := hwo f sk hsk
      have hw4 := hwo (f + j) s0 hs0
      have ha1 := hadd f s0 (f + j) sk hs0 hsk
      have ha2 := hadd f sk (f + j) s0 hsk hs0
      have hyj := hyes j (by omega) hj
      by_cases hW : worthOf l f s0 + worthOf l (f + j) sk = worthOf l f sk + worthOf l (f + j) s0
      · have j3' : ∀ i : Nat, 0 < i → i < j + 1 → worthOf l f s0 + worthOf l (f + i) sk = worthOf l f sk + worthOf l (f + i) s0 := fun i g1 g2 => by
          rcases Nat.lt_or_ge i j with g3 | g3
          · exact j3 i g1 g3
          · obtain rfl : i = j := by omega
            exact hW
        have hin := ih2 (j + 1, f + j + 1) ⟨by dsimp only; omega, by dsimp only; omega, j3'⟩ (by dsimp only; omega)
        have hQ : rQ (worthOf l f s0 + worthOf l (f + j) sk) = rQ (worthOf l f sk + worthOf l (f + j) s0) := by rw [hW]
        clear ih ih2 j3 j3' hW hstep hyes hyj hwo hadd hfw
        generalize worthOf l f s0 = A at *
        generalize worthOf l (f + j) sk = B at *
        generalize worthOf l f sk = C at *
        generalize worthOf l (f + j) s0 = D2 at *
        all_goals (refine goR ?_; and_intros <;> (try exact trivial) <;> intros)
        repeat' ((first | (apply J.regA (.q 0 <| .q 1 <| .q 2 <| .q 3 <| .q 4 <| .q 5 <| .q 6 <| .q 7 <| .q 8 <| .q 9 <| .q 10 <| .q 11 <| .q 12 <| .q 13 <| .q 14 <| .q 15 <| .q 16 <| .q 17 <| .q 18 <| .e 19 <| .r 20 <| .nil); exact Tryz.mixed; decide +kernel) | (apply G.cV (g := 45) (vs := [.slice a l.length c, .int .i64 f, .int .i64 s0]); rfl; rfl; exact fun w' hw => hw1 w' hw.below) | (apply G.cV (g := 45) (vs := [.slice a l.length c, .int .i64 (f + j), .int .i64 sk]); rfl; rfl; exact fun w' hw => hw2 w' hw.below) | (apply G.cV (g := 45) (vs := [.slice a l.length c, .int .i64 f, .int .i64 sk]); rfl; rfl; exact fun w' hw => hw3 w' hw.below) | (apply G.cV (g := 45) (vs := [.slice a l.length c, .int .i64 (f + j), .int .i64 s0]); rfl; rfl; exact fun w' hw => hw4 w' hw.below) | (apply G.cV (g := 44) (vs := [qA (rQ A), qA (rQ B)]); rfl; rfl; exact fun w' _ => ha1 w') | (apply G.cV (g := 44) (vs := [qA (rQ C), qA (rQ D2)]); rfl; rfl; exact fun w' _ => ha2 w') | (apply G.neR (rQ (A + B)) (rQ (C + D2)); rfl; rfl; rfl; all_goals intro h; all_goals try (exact absurd hQ h)) | (apply J.regQ; exact Tryz.mixed; decide +kernel) | (apply J.regL'; exact Tryz.mixed; decide +kernel)) <;> (refine goR ?_; and_intros <;> (try exact trivial) <;> intros))
        exact J.fin hin
      · rw [decide_eq_true (hyj hW)]
        have hQ : rQ (worthOf l f s0 + worthOf l (f + j) sk) ≠ rQ (worthOf l f sk + worthOf l (f + j) s0) := fun h => hW (rQ_inj h)
        clear ih ih2 j3 hW hstep hyes hyj hwo hadd hfw
        generalize worthOf l f s0 = A at *
        generalize worthOf l (f + j) sk = B at *
        generalize worthOf l f sk = C at *
        generalize worthOf l (f + j) s0 = D2 at *
        all_goals (refine goR ?_; and_intros <;> (try exact trivial) <;> intros)
        repeat' ((first | (apply J.regA (.q 0 <| .q 1 <| .q 2 <| .q 3 <| .q 4 <| .q 5 <| .q 6 <| .q 7 <| .q 8 <| .q 9 <| .q 10 <| .q 11 <| .q 12 <| .q 13 <| .q 14 <| .q 15 <| .q 16 <| .q 17 <| .q 18 <| .e 19 <| .r 20 <| .nil); exact Tryz.mixed; decide +kernel) | (apply G.cV (g := 45) (vs := [.slice a l.length c, .int .i64 f, .int .i64 s0]); rfl; rfl; exact fun w' hw => hw1 w' hw.below) | (apply G.cV (g := 45) (vs := [.slice a l.length c, .int .i64 (f + j), .int .i64 sk]); rfl; rfl; exact fun w' hw => hw2 w' hw.below) | (apply G.cV (g := 45) (vs := [.slice a l.length c, .int .i64 f, .int .i64 sk]); rfl; rfl; exact fun w' hw => hw3 w' hw.below) | (apply G.cV (g := 45) (vs := [.slice a l.length c, .int .i64 (f + j), .int .i64 s0]); rfl; rfl; exact fun w' hw => hw4 w' hw.below) | (apply G.cV (g := 44) (vs := [qA (rQ A), qA (rQ B)]); rfl; rfl; exact fun w' _ => ha1 w') | (apply G.cV (g := 44) (vs := [qA (rQ C), qA (rQ D2)]); rfl; rfl; exact fun w' _ => ha2 w') | (apply G.neR (rQ (A + B)) (rQ (C + D2)); rfl; rfl; rfl; all_goals intro h; all_goals try (exact absurd h hQ)) | (apply J.regQ; exact Tryz.mixed; decide +kernel) | (apply J.regL'; exact Tryz.mixed; decide +kernel)) <;> (refine goR ?_; and_intros <;> (try exact trivial) <;> intros))
        all_goals refine ret1b Tryz.func59 Tryz.results59 ?_
        all_goals rfl
    · skip
      all_goals (refine go ?_; and_intros <;> (try exact trivial) <;> intros)
      exact J.fin (ih (k + 1) ⟨by omega, hstep fun i h3 h4 => j3 i h3 (by omega)⟩ (by omega))
  · rw [decide_eq_false (show ¬ D from fun hd => by
      rw [← hD] at hd
      obtain ⟨q, g0, gq, g1, j, g2, g3, g4⟩ := hd
      exact g4 (h2 q g0 gq g1 (by dsimp only at gq; omega) j g2 g3))]
    clear ih
    all_goals (refine go ?_; and_intros <;> (try exact trivial) <;> intros)
    all_goals refine ret1b Tryz.func59 Tryz.results59 ?_
    all_goals rfl
end Go.Proofs.YthkdfpbjkpgckaaGreatDoor
/-
  Contract of the specification: the exact volume of runs.
-/
namespace Go.Proofs.YthkdfpbjkpgckaaGreatDoor
open Go.RowKit Go.Sl Go.Num
/-- A run whose volume is not decided. -/
def badR (l : List Spn) (r : Rn) : Prop := (r.tab.length = 0 ∧ freeB r l = true) ∨ (r.tab.length ≠ 0 ∧ movP r l)
open Classical in
noncomputable def sExE (rs : List Rn) (l : List Spn) : Q3 × Int :=
  if runsErr rs ≠ 0 then (zero3, runsErr rs) else if spansErr l ≠ 0 then (zero3, spansErr l) else if l.any (outX rs) = true then (zero3, 19) else if ∃ r ∈ rs, badR l r then (zero3, 29) else volE (firstF rs) (firstS rs) l
theorem slInt {w0 w : World} {M : List Row} {N : Nat} {a : Option Addr} {L : List Int} (hw : Sat w0 M w) (hm : slRow N a 1 (L.map isV) ∈ M := by (repeat (first | exact List.Mem.head _ | apply List.Mem.tail))) : SlAt w a 1 (L.map isV) := hw.sl hm
theorem firstS_len : ∀ (rs : List Rn), (∀ r ∈ rs, inT r = true) → (∀ r ∈ rs, oneE r = 0) → (firstS rs).length ≤ 1402560 * rs.length
  | [], _, _ => Nat.le_refl _
  | r :: t, h1, h2 => by
    have h3 := firstS_len t (fun x hx => h1 x (List.mem_cons_of_mem _ hx)) fun x hx => h2 x (List.mem_cons_of_mem _ hx)
    have h4 := h1 r (List.mem_cons_self ..)
    have h5 := h2 r (List.mem_cons_self ..)
    rw [inT, decide_eq_true_eq] at h4
    rw [firstS, List.length_append, List.length_cons, Nat.mul_succ]
    have h6 : (stagesR r).length ≤ 1402560 := by
      rw [stagesR]
      split
      · rw [List.length_replicate]; omega
      · rename_i h0
        obtain ⟨e1, _, e3, _⟩ := oneE_tab h5 h0
        have : ∀ (t : List (Int × Int)), (∀ x ∈ t, 1 ≤ x.2) → ((tabS t).length : Int) = sumT t := by
          intro t
          induction t with
          | nil => intro _; rfl
          | cons x t ih =>
            intro h
            have := ih fun y hy => h y (List.mem_cons_of_mem _ hy)
            have := h x (List.mem_cons_self ..)
            rw [tabS_cons, List.length_append, List.length_replicate, sumT]; omega
        have := this r.tab fun x hx => (e1 x hx).2.1
        omega
    omega
open Classical in
theorem sExact_holds (a b : Option Addr) (rs : List Rn) (l : List Spn) (c d : Nat) (w : World) (hA : RunsAt w a rs) (hB : SpansAt w b l) (hf : ∀ s ∈ l, fewS s) (hfr : ∀ r ∈ rs, r.tab.length ≤ 64) (hn : rs.length ≤ 400) :
    Calls Tryz.prog 25 #[.slice a rs.length c, .slice b l.length d] w fun e w' => e = .returned (madeA (sExE rs l)) ∧ Below w.heap.size w w' := by
  have hcr := fun w' (hb : Below w.heap.size w w') => rRuns_holds a rs c w' (hA.below hb) hfr
  have hcs := fun w' (hb : Below w.heap.size w w') => sCheck_holds b l d w' (hB.below hb) hf
  rw [sExE]
  by_cases h1 : runsErr rs = 0
  · have ⟨_, k5, _⟩ := runsErr_ok h1
    have k6 := runsErr_one h1
    rw [if_neg (fun e => e h1)]
    rw [h1] at hcr
    by_cases h2 : spansErr l = 0
    · have ⟨k1, k2⟩ := spansErr_ok h2
      rw [if_neg (fun e => e h2)]
      rw [h2] at hcs
      refine enterA [(0, .slice a rs.length c), (1, .slice b l.length d)] Tryz.func25 Tryz.ntmps25 ?_
      all_goals (refine go ?_; and_intros <;> (try exact trivial) <;> intros)
      repeat' ((first | (refine G.cvb hcr ?_) | (refine G.cvb hcs ?_)) <;> (refine go ?_; and_intros <;> (try exact trivial) <;> intros))
      refine J.loop (c := _) (0 : Nat) (fun s => l.length - s) (fun s => [(0, .slice a rs.length c), (1, .slice b l.length d), (4, .pointer (some ⟨_, 0, none⟩)), (6, .int .i64 s)]) (fun s => [.blk _ 43 [.bool false, .string (bs []), .string (bs []), .int .i64 0] 4]) (fun s => s ≤ l.length ∧ ∀ i (hi : i < l.length), i < s → outX rs l[i] = false) ?_ sbT sbL ?_
      · exact ⟨Nat.zero_le _, fun i hi h => absurd h (Nat.not_lt_zero _)⟩
      intro k ⟨h3, h4⟩ ih
      by_cases hk : k < l.length
      · obtain ⟨bb, ob, rfl, hrb⟩ := SlAt.all hB.1 (by omega)
        have hrk := hrb k hk
        by_cases hq : outX rs l[k] = true
        · rw [if_pos (List.any_eq_true.2 ⟨_, List.getElem_mem hk, hq⟩)]
          clear ih h4
          rcases Nat.eq_zero_or_pos rs.length with hz | hz
          · generalize l[k] = s at *
            obtain ⟨fr, tt, wt, dt, pts, adr, cap⟩ := s
            dsimp only [spV] at *
            all_goals (refine go ?_; and_intros <;> (try exact trivial) <;> intros)
            all_goals refine ret1b Tryz.func25 Tryz.results25 ?_
            all_goals rfl
          · obtain ⟨ba, oa, rfl, hra⟩ := SlAt.all hA.1 hz
            have hr0 := hra 0 hz
            have hr1 := hra (rs.length - 1) (by omega)
            rw [outX, List.getElem?_eq_getElem hz, List.getElem?_eq_getElem (show rs.length - 1 < rs.length by omega)] at hq
            simp only [Bool.or_eq_true, decide_eq_true_eq] at hq
            generalize rs[0] = r0 at *
            generalize rs[rs.length - 1] = r1 at *
            generalize l[k] = s at *
            obtain ⟨fr, tt, wt, dt, pts, adr, cap⟩ := s
            dsimp only [spV, rnV] at *
            all_goals (refine go ?_; and_intros <;> (try exact trivial) <;> intros)
            repeat' ((first | (apply G.ix (i := rs.length - 1); rfl; rfl; omega; omega; rfl)) <;> (refine go ?_; and_intros <;> (try exact trivial) <;> intros))
            all_goals refine ret1b Tryz.func25 Tryz.results25 ?_
            all_goals rfl
        · have hq2 : outX rs l[k] = false := by simpa using hq
          have h4' : ∀ i (hi : i < l.length), i < k + 1 → outX rs l[i] = false := fun i hi h8 => by
            rcases Nat.lt_or_ge i k with h9 | h9
            · exact h4 i hi h9
            · obtain rfl : i = k := by omega
              exact hq2
          clear h4 hq
          rcases Nat.eq_zero_or_pos rs.length with hz | hz
          · exfalso
            rw [outX, List.getElem?_eq_none (by omega)] at hq2
            cases hq2
          · obtain ⟨ba, oa, rfl, hra⟩ := SlAt.all hA.1 hz
            have hr0 := hra 0 hz
            have hr1 := hra (rs.length - 1) (by omega)
            rw [outX, List.getElem?_eq_getElem hz, List.getElem?_eq_getElem (show rs.length - 1 < rs.length by omega)] at hq2
            simp only [Bool.or_eq_false_iff, decide_eq_false_iff_not] at hq2
            generalize rs[0] = r0 at *
            generalize rs[rs.length - 1] = r1 at *
            generalize l[k] = s at *
            obtain ⟨fr, tt, wt, dt, pts, adr, cap⟩ := s
            dsimp only [spV, rnV] at *
            all_goals (refine go ?_; and_intros <;> (try exact trivial) <;> intros)
            repeat' ((first | (apply G.ix (i := rs.length - 1); rfl; rfl; omega; omega; rfl)) <;> (refine go ?_; and_intros <;> (try exact trivial) <;> intros))
            exact J.finS (ih (k + 1) ⟨hk, h4'⟩ (by omega))
      · rw [show l.any (outX rs) = false from List.any_eq_false.2 fun x hx => by
          obtain ⟨i, h8, rfl⟩ := List.getElem_of_mem hx
          rw [h4 i h8 (by omega)]; decide]
        rw [if_neg (by decide)]
        clear ih h4 hcr hcs
        all_goals (refine go ?_; and_intros <;> (try exact trivial) <;> intros)
        refine J.loop (c := _) (0 : Nat) (fun s => rs.length - s) (fun s => [(0, .slice a rs.length c), (1, .slice b l.length d), (4, .pointer (some ⟨_, 0, none⟩)), (7, .int .i64 s)]) (fun s => [.blk _ 43 [.bool false, .string (bs []), .string (bs []), .int .i64 0] 4]) (fun s => s ≤ rs.length ∧ ∀ i (hi : i < rs.length), i < s → ¬ badR l rs[i]) ?_ sbT sbL ?_
        · exact ⟨Nat.zero_le _, fun i hi h => absurd h (Nat.not_lt_zero _)⟩
        intro k ⟨h3, h4⟩ ih
        by_cases hk : k < rs.length
        · obtain ⟨ba, oa, rfl, hra⟩ := SlAt.all hA.1 (by omega)
          have hrk := hra k hk
          have hmem := List.getElem_mem hk
          have hti := k5 _ hmem
          have hone := k6 _ hmem
          have hlo : 0 ≤ rs[k].lo ∧ rs[k].lo ≤ 1000 ∧ 0 ≤ rs[k].hi ∧ rs[k].hi ≤ 1000 := by
            by_cases h0 : rs[k].tab.length = 0
            · have := oneE_gap hone h0; omega
            · have := (oneE_tab hone h0).2.2.2; omega
          have hst : ∀ z ∈ rs[k].tab, 0 ≤ z.1 ∧ z.1 ≤ 1000 := fun z hz => by
            by_cases h0 : rs[k].tab.length = 0
            · rw [List.length_eq_zero_iff.1 h0] at hz; cases hz
            · exact ((oneE_tab hone h0).1 z hz).1
          have hg := fun w' => rGap_holds rs[k] w'
          have hfe := fun w' (hb : Below w.heap.size w w') => free_holds rs[k] b l d w' (hB.below hb) hf k2 (by omega) hti ⟨hlo.1, hlo.2.1⟩ hlo.2.2
          have hmo := fun w' (hb : Below w.heap.size w w') => moves_holds rs[k] b l d w' (hB.below hb) ((hA.2 _ hmem).below hb) hf k2 (by omega) hti (hfr _ hmem) hst
          have hbad : badR l rs[k] → ∃ r ∈ rs, badR l r := fun h => ⟨_, hmem, h⟩
          have hyes : ¬ badR l rs[k] → ∀ i (hi : i < rs.length), i < k + 1 → ¬ badR l rs[i] := fun h i hi h8 => by
            rcases Nat.lt_or_ge i k with h9 | h9
            · exact h4 i hi h9
            · obtain rfl : i = k := by omega
              exact h
          have hbd : badR l rs[k] ↔ (if decide (rs[k].tab.length = 0) = true then freeB rs[k] l else decide (movP rs[k] l)) = true := by
            unfold badR
            by_cases h0 : rs[k].tab.length = 0
            · simp [h0]
            · simp [h0]
          clear h4 hra hmem hti hone hlo hst
          generalize decide (rs[k].tab.length = 0) = B1 at *
          generalize freeB rs[k] l = B2 at *
          generalize decide (movP rs[k] l) = B3 at *
          generalize badR l rs[k] = BB at *
          generalize rs[k] = r at *
          obtain ⟨rf, rt, tab, adr, cap, lo, hi⟩ := r
          dsimp only [rnV, rnA] at *
          by_cases hB0 : BB
          · rw [if_pos (hbad hB0)]
            have hbd := hbd.1 hB0
            clear ih hyes hbad
            cases B1 <;> cases B2 <;> cases B3 <;> first | (exfalso; revert hbd; decide) | skip
            all_goals
              all_goals (refine go ?_; and_intros <;> (try exact trivial) <;> intros)
              repeat' ((first | (apply G.cV (g := 57); rfl; rfl; exact fun w' _ => hg w') | (refine G.cvb hfe ?_) | (refine G.cvb hmo ?_)) <;> (refine go ?_; and_intros <;> (try exact trivial) <;> intros))
              all_goals refine ret1b Tryz.func25 Tryz.results25 ?_
              all_goals rfl
          · have hbd : ¬ _ := fun h => hB0 (hbd.2 h)
            have hin := ih (k + 1) ⟨hk, hyes hB0⟩ (by omega)
            clear ih hyes hbad
            cases B1 <;> cases B2 <;> cases B3 <;> first | (exfalso; revert hbd; decide) | skip
            all_goals
              all_goals (refine go ?_; and_intros <;> (try exact trivial) <;> intros)
              repeat' ((first | (apply G.cV (g := 57); rfl; rfl; exact fun w' _ => hg w') | (refine G.cvb hfe ?_) | (refine G.cvb hmo ?_)) <;> (refine go ?_; and_intros <;> (try exact trivial) <;> intros))
              exact J.finS hin
        · rw [if_neg (show ¬ ∃ r ∈ rs, badR l r from fun ⟨r, hr, hb⟩ => by
            obtain ⟨i, h8, rfl⟩ := List.getElem_of_mem hr
            exact h4 i h8 (by omega) hb)]
          clear ih h4
          have hlf := firstS_len rs k5 k6
          have hfi := fun w' (hb : Below w.heap.size w w') => first_holds a rs c w' (hA.below hb) hfr hn h1
          have hva := fun a' c' w' (hA' : SlAt w' a' 1 ((firstS rs).map isV)) (hb : Below w.heap.size w w') => sValue_holds (firstF rs) a' b (firstS rs) l c' d w' hA' (hB.below hb) hf (by omega)
          generalize firstS rs = FS at *
          generalize firstF rs = FF at *
          generalize volE FF FS l = V at *
          all_goals (refine go ?_; and_intros <;> (try exact trivial) <;> intros)
          repeat' ((first | (apply G.cN (g := 60) (fun a' c' => .agg #[.int .i64 FF, .slice a' FS.length c', .int .i64 0]) (FS.map isV); rfl; rfl; exact fun w' hw => hfi w' hw.below; intro a1 c1 hp1 hq1) | (apply G.cV (g := 12); rfl; rfl; exact fun w' hw => hva a1 c1 w' (slInt (N := w.heap.size) hw) hw.below)) <;> (refine go ?_; and_intros <;> (try exact trivial) <;> intros))
          all_goals refine ret1b Tryz.func25 Tryz.results25 ?_
          all_goals rfl
    · rw [if_pos h2]
      generalize spansErr l = E at *
      refine enterA [(0, .slice a rs.length c), (1, .slice b l.length d)] Tryz.func25 Tryz.ntmps25 ?_
      all_goals (refine go ?_; and_intros <;> (try exact trivial) <;> intros)
      repeat' ((first | (refine G.cvb hcr ?_) | (refine G.cvb hcs ?_)) <;> (refine go ?_; and_intros <;> (try exact trivial) <;> intros))
      all_goals refine ret1b Tryz.func25 Tryz.results25 ?_
      all_goals rfl
  · rw [if_pos h1]
    generalize runsErr rs = E at *
    refine enterA [(0, .slice a rs.length c), (1, .slice b l.length d)] Tryz.func25 Tryz.ntmps25 ?_
    all_goals (refine go ?_; and_intros <;> (try exact trivial) <;> intros)
    repeat' ((first | (refine G.cvb hcr ?_) | (refine G.cvb hcs ?_)) <;> (refine go ?_; and_intros <;> (try exact trivial) <;> intros))
    all_goals refine ret1b Tryz.func25 Tryz.results25 ?_
    all_goals rfl
end Go.Proofs.YthkdfpbjkpgckaaGreatDoor
/-
  Plain law: the exact volume by classes is the exact volume by ticks.
-/
namespace Go.Proofs.YthkdfpbjkpgckaaGreatDoor
open Go.RowKit Go.Sl Go.Num
/-- The place of the span that has a tick, counted from k; -1 for none. -/
def pl : Int → List Spn → Int → Int
  | _, [], _ => -1
  | k, s :: l, t => if inS t s = true then k else pl (k + 1) l t
/-- The sum over n ticks from one on. -/
def tS (g : Int → Rat) : Int → Nat → Rat
  | _, 0 => 0
  | f, n + 1 => g f + tS g (f + 1) n
theorem tS_congr {g h : Int → Rat} : ∀ (n : Nat) (f : Int), (∀ t, f ≤ t → t < f + n → g t = h t) → tS g f n = tS h f n
  | 0, _, _ => rfl
  | n + 1, f, H => by rw [tS, tS, H f (by omega) (by omega), tS_congr n (f + 1) fun t h1 h2 => H t (by omega) (by omega)]
theorem tS_add (g h : Int → Rat) : ∀ (n : Nat) (f : Int), tS (fun t => g t + h t) f n = tS g f n + tS h f n
  | 0, _ => by simp [tS, Rat.add_zero]
  | n + 1, f => by rw [tS, tS, tS, tS_add g h n]; grind
theorem tS_in (s : Spn) (c : Rat) : ∀ (n : Nat) (f : Int), tS (fun t => if inS t s = true then c else 0) f n = ((max 0 (min s.to_ (f + n) - max s.from_ f) : Int) : Rat) * c
  | 0, f => by
    rw [tS, show max 0 (min s.to_ (f + (0 : Nat)) - max s.from_ f) = (0 : Int) from by omega]; simp
  | n + 1, f => by
    rw [tS, tS_in s c n (f + 1)]
    by_cases h : inS f s = true
    · rw [if_pos h]
      simp only [inS, Bool.and_eq_true, decide_eq_true_eq] at h
      rw [show max 0 (min s.to_ (f + (n + 1 : Nat)) - max s.from_ f) = max 0 (min s.to_ (f + 1 + n) - max s.from_ (f + 1)) + 1 from by omega, Rat.intCast_add]
      grind
    · rw [if_neg h]
      simp only [inS, Bool.and_eq_true, decide_eq_true_eq] at h
      rw [show max 0 (min s.to_ (f + (n + 1 : Nat)) - max s.from_ f) = max 0 (min s.to_ (f + 1 + n) - max s.from_ (f + 1)) from by omega]
      grind
theorem pl_late : ∀ {l : List Spn} {x t : Int} (k : Int), InOrd x l → t < x → pl k l t = -1
  | [], _, _, _, _, _ => rfl
  | s :: l, x, t, k, h, ht => by
    rw [pl, if_neg (by have := h.1; simp [inS]; omega), pl_late (k + 1) h.2.2 (by have := h.1; have := h.2.1; omega)]
theorem pl_cons {g : Int → Rat} {s : Spn} {l : List Spn} {x t k : Int} (h : InOrd x (s :: l)) : g (pl k (s :: l) t) = (if inS t s = true then g k - g (-1) else 0) + g (pl (k + 1) l t) := by
  rw [pl]
  by_cases hi : inS t s = true
  · rw [if_pos hi, if_pos hi, pl_late (k + 1) h.2.2 (by simp only [inS, Bool.and_eq_true, decide_eq_true_eq] at hi; exact hi.2)]; grind
  · rw [if_neg hi, if_neg hi]; grind
/-- Summing over the ticks is summing over the classes. -/
theorem cls_sum {g : Int → Rat} {r : Rn} {n : Nat} (hn : r.to_ = r.from_ + n) : ∀ (l : List Spn) (x k q : Int), InOrd x l → 0 ≤ q → r.to_ - max x r.from_ ≤ q → tS (fun t => g (pl k l t)) r.from_ n + ((q - n : Int) : Rat) * g (-1) = wsum g (clsS r k q l)
  | [], x, k, q, _, hq, _ => by
    have h1 : tS (fun t => g (pl k [] t)) r.from_ n = (n : Rat) * g (-1) := by
      generalize r.from_ = f
      clear hn
      induction n generalizing f with
      | zero => simp [tS]
      | succ n ih => rw [tS, ih, pl, show ((n + 1 : Nat) : Rat) = (n : Rat) + 1 from by simp]; grind
    have e : ((n : Int) : Rat) = (n : Rat) := rfl
    rw [h1, clsS, Rat.intCast_sub, e]
    split
    · rw [wsum, wsum]; grind
    · rw [wsum, show q = 0 from by omega]; simp; grind
  | s :: l, x, k, q, h, hq, h1 => by
    rw [tS_congr n r.from_ (h := fun t => (if inS t s = true then g k - g (-1) else 0) + g (pl (k + 1) l t)) fun t _ _ => pl_cons h, tS_add, tS_in, clsS, ← hn]
    have := h.1
    have := h.2.1
    split
    · rename_i ho
      rw [ovl] at ho
      rw [← cls_sum hn l s.to_ (k + 1) q h.2.2 hq (by omega), show max 0 (min s.to_ r.to_ - max s.from_ r.from_) = (0 : Int) from by omega]
      simp; grind
    · rename_i ho
      rw [ovl] at ho
      rw [wsum, ← cls_sum hn l s.to_ (k + 1) (q - ovl r s) h.2.2 (by rw [ovl]; omega) (by rw [ovl]; omega)]
      show ((max 0 (min s.to_ r.to_ - max s.from_ r.from_) : Int) : Rat) * (g k - g (-1)) + tS (fun t => g (pl (k + 1) l t)) r.from_ n + ((q - n : Int) : Rat) * g (-1) = ((ovl r s : Int) : Rat) * g k + (tS (fun t => g (pl (k + 1) l t)) r.from_ n + ((q - ovl r s - n : Int) : Rat) * g (-1))
      rw [show max 0 (min s.to_ r.to_ - max s.from_ r.from_) = ovl r s from by rw [ovl]; omega, show q - ovl r s - n = (q - n) - ovl r s from by omega, Rat.intCast_sub (q - n)]
      grind
theorem tS_pos {P : Int → Prop} [DecidablePred P] : ∀ (n : Nat) (f : Int), 0 ≤ tS (fun t => if P t then 1 else 0) f n ∧ (0 < tS (fun t => if P t then 1 else 0) f n ↔ ∃ i : Nat, i < n ∧ P (f + i))
  | 0, f => ⟨Rat.le_refl, by simp [tS]⟩
  | n + 1, f => by
    have ⟨h1, h2⟩ := tS_pos (P := P) n (f + 1)
    rw [tS]
    have h3 : (∃ i : Nat, i < n + 1 ∧ P (f + i)) ↔ P f ∨ ∃ i : Nat, i < n ∧ P (f + 1 + i) := by
      constructor
      · rintro ⟨i, hi, hp⟩
        cases i with
        | zero => left; simpa using hp
        | succ i => right; exact ⟨i, by omega, by rw [show f + 1 + (i : Int) = f + (i + 1 : Nat) from by omega]; exact hp⟩
      · rintro (hp | ⟨i, hi, hp⟩)
        · exact ⟨0, by omega, by simpa using hp⟩
        · exact ⟨i + 1, by omega, by rw [show f + ((i + 1 : Nat) : Int) = f + 1 + (i : Int) from by omega]; exact hp⟩
    rw [h3, ← h2]
    split
    · rename_i hp; exact ⟨by grind, by constructor <;> intro _ <;> first | exact .inl hp | grind⟩
    · rename_i hp
      rw [Rat.zero_add]
      exact ⟨h1, by simp [hp]⟩
theorem wsum_pos {P : Int → Prop} [DecidablePred P] : ∀ (L : List (Int × Int)), (∀ e ∈ L, 0 < e.2) → 0 ≤ wsum (fun t => if P t then 1 else 0) L ∧ (0 < wsum (fun t => if P t then 1 else 0) L ↔ ∃ e ∈ L, P e.1)
  | [], _ => ⟨Rat.le_refl, by simp [wsum]⟩
  | (y, m) :: L, h => by
    have ⟨h1, h2⟩ := wsum_pos (P := P) L fun e he => h e (List.mem_cons_of_mem _ he)
    have h3 : (0 : Rat) < (m : Rat) := by have := h _ (List.mem_cons_self ..); exact_mod_cast this
    rw [wsum]
    have h4 : (∃ e ∈ (y, m) :: L, P e.1) ↔ P y ∨ ∃ e ∈ L, P e.1 := by simp
    rw [h4, ← h2]
    split
    · rename_i hp; exact ⟨by grind, by constructor <;> intro _ <;> first | exact .inl hp | grind⟩
    · rename_i hp
      rw [Rat.mul_zero, Rat.zero_add]
      exact ⟨h1, by simp [hp]⟩
theorem rn_to {r : Rn} (h : inT r = true) : r.to_ = r.from_ + (r.to_ - r.from_).toNat := by
  rw [inT, decide_eq_true_eq] at h; omega
theorem cls_pos {r : Rn} {l : List Spn} (h : inT r = true) (hR : ∀ s ∈ l, RightS s) : ∀ e ∈ clsL l r, 0 < e.2 := by
  rw [inT, decide_eq_true_eq] at h
  exact fun e he => (clsS_ok (l0 := l) l 0 (r.to_ - r.from_) (Int.le_refl _) (by omega) (by omega) (fun s hs => by have := (hR s hs).1; omega) e he).2.2.1
theorem clsL_sum {g : Int → Rat} {r : Rn} {l : List Spn} {x : Int} (h : inT r = true) (hl : InOrd x l) : tS (fun t => g (pl 0 l t)) r.from_ (r.to_ - r.from_).toNat = wsum g (clsL l r) := by
  have h1 := rn_to h
  rw [inT, decide_eq_true_eq] at h
  rw [clsL, ← cls_sum h1 l x 0 (r.to_ - r.from_) hl (by omega) (by omega), show r.to_ - r.from_ - ((r.to_ - r.from_).toNat : Int) = 0 from by omega]
  simp; grind
theorem clsL_ex {P : Int → Prop} {r : Rn} {l : List Spn} {x : Int} (h : inT r = true) (hl : InOrd x l) (hR : ∀ s ∈ l, RightS s) : (∃ e ∈ clsL l r, P e.1) ↔ ∃ i : Nat, i < (r.to_ - r.from_).toNat ∧ P (pl 0 l (r.from_ + i)) := by
  haveI : DecidablePred P := fun _ => Classical.propDecidable _
  rw [← (wsum_pos (P := P) (clsL l r) (cls_pos h hR)).2, ← clsL_sum h hl]
  exact (tS_pos (P := fun t => P (pl 0 l t)) _ _).2
theorem pl_worth {l : List Spn} {t st : Int} : worthOf l t st = ofR l (pl 0 l t) st := by
  have key : ∀ (m l0 : List Spn) (k : Nat), l0.drop k = m → (match m[spanAt m t]? with | none => 0 | some s => rateOf s st) = ofR l0 (pl k m t) st := by
    intro m
    induction m with
    | nil => intro l0 k _; rw [pl, ofR, if_pos (by decide)]; rfl
    | cons s m ih =>
      intro l0 k hd
      have hk : k < l0.length := by
        rcases Nat.lt_or_ge k l0.length with h | h
        · exact h
        · rw [List.drop_eq_nil_of_le h] at hd; cases hd
      rw [List.drop_eq_getElem_cons hk] at hd
      injection hd with h1 h2
      rw [pl]
      unfold spanAt at *
      rw [List.findIdx_cons]
      by_cases hi : inS t s = true
      · rw [if_pos hi, hi, ofR_at hk, h1]; rfl
      · rw [if_neg hi, Bool.eq_false_iff.2 hi, ← Int.natCast_succ, ← ih l0 (k + 1) h2]; rfl
  rw [worthOf]
  exact key l l 0 rfl
/-! ### the law of the volume -/
theorem volSum_app (l : List Spn) : ∀ (a b : List Int) (f : Int), volSum l f (a ++ b) = volSum l f a + volSum l (f + a.length) b
  | [], b, f => by rw [volSum, List.nil_append, Rat.zero_add]; simp
  | y :: a, b, f => by rw [List.cons_append, volSum, volSum, volSum_app l a b (f + 1), List.length_cons, show f + ((a.length + 1 : Nat) : Int) = f + 1 + a.length from by omega]; grind
theorem volSum_rep (l : List Spn) (x : Int) : ∀ (n : Nat) (f : Int), volSum l f (List.replicate n x) = tS (fun t => worthOf l t x) f n
  | 0, _ => rfl
  | n + 1, f => by rw [List.replicate_succ, volSum, tS, volSum_rep l x n]
theorem volSum_sep (l : List Spn) (A B : Int → Rat) : ∀ (hs : List Int) (f : Int), (∀ t, f ≤ t → t < f + hs.length → ∀ x ∈ hs, worthOf l t x = A x + B t) → volSum l f hs = segSum A hs + tS B f hs.length
  | [], _, _ => by rw [volSum, segSum]; simp [tS, Rat.add_zero]
  | y :: hs, f, h => by
    rw [volSum, segSum, List.length_cons, tS, h f (by omega) (by rw [List.length_cons]; omega) y (List.mem_cons_self ..), volSum_sep l A B hs (f + 1) fun t h1 h2 x hx => h t (by omega) (by rw [List.length_cons]; omega) x (List.mem_cons_of_mem _ hx)]
    grind
theorem segSum_app (g : Int → Rat) : ∀ (a b : List Int), segSum g (a ++ b) = segSum g a + segSum g b
  | [], b => by rw [List.nil_append, segSum, Rat.zero_add]
  | y :: a, b => by rw [List.cons_append, segSum, segSum, segSum_app g a b, Rat.add_assoc]
theorem segSum_rep (g : Int → Rat) (x : Int) : ∀ n : Nat, segSum g (List.replicate n x) = (n : Rat) * g x
  | 0 => by simp [segSum]
  | n + 1 => by rw [List.replicate_succ, segSum, segSum_rep g x n, show ((n + 1 : Nat) : Rat) = (n : Rat) + 1 from by simp]; grind
theorem segSum_tab (g : Int → Rat) : ∀ (t : List (Int × Int)), (∀ x ∈ t, 1 ≤ x.2) → segSum g (tabS t) = wsum g t
  | [], _ => rfl
  | (x, m) :: t, h => by
    have h1 := h _ (List.mem_cons_self ..)
    dsimp only at h1
    have e : ((m.toNat : Nat) : Rat) = (m : Rat) := by
      show ((m.toNat : Int) : Rat) = (m : Rat)
      rw [Int.toNat_of_nonneg (by omega)]
    rw [tabS_cons, segSum_app, segSum_rep, segSum_tab g t fun x hx => h x (List.mem_cons_of_mem _ hx), wsum, e]
theorem tabS_len : ∀ (t : List (Int × Int)), (∀ x ∈ t, 1 ≤ x.2) → ((tabS t).length : Int) = sumT t
  | [], _ => rfl
  | x :: t, h => by
    have h1 := tabS_len t fun y hy => h y (List.mem_cons_of_mem _ hy)
    have h2 := h x (List.mem_cons_self ..)
    rw [tabS_cons, List.length_append, List.length_replicate, sumT]; omega
theorem tabS_mem {t : List (Int × Int)} {x : Int} (h : x ∈ tabS t) : ∃ m, (x, m) ∈ t := by
  obtain ⟨⟨y, m⟩, h1, h2⟩ := List.mem_flatMap.1 h
  rw [List.mem_replicate] at h2
  exact ⟨m, h2.2 ▸ h1⟩
theorem stagesR_len {r : Rn} (h : inT r = true) (h1 : oneE r = 0) : ((stagesR r).length : Int) = r.to_ - r.from_ := by
  rw [inT, decide_eq_true_eq] at h
  rw [stagesR]
  split
  · rw [List.length_replicate]; omega
  · rename_i h0
    obtain ⟨e1, _, e3, _⟩ := oneE_tab h1 h0
    rw [tabS_len _ fun x hx => (e1 x hx).2.1, e3]
theorem stagesR_bd {r : Rn} (h1 : oneE r = 0) : ∀ x ∈ stagesR r, 0 ≤ x ∧ x ≤ 1000 := by
  rw [stagesR]
  split
  · rename_i h0
    obtain ⟨e1, e2, e3⟩ := oneE_gap h1 h0
    intro x hx
    rw [(List.mem_replicate.1 hx).2]; omega
  · rename_i h0
    intro x hx
    obtain ⟨m, hm⟩ := tabS_mem hx
    exact ((oneE_tab h1 h0).1 _ hm).1
theorem takeB_iff {l : List Spn} {r : Rn} {x : Int} (h : inT r = true) (hl : InOrd x l) (hR : ∀ s ∈ l, RightS s) : takeB l r ↔ ¬ badR l r := by
  have hT := h
  rw [inT, decide_eq_true_eq] at hT
  cases ht : r.tab with
  | nil =>
    have hb : badR l r ↔ freeB r l = true := by rw [badR, ht]; simp
    have he : takeB l r ↔ ¬ ∃ e ∈ clsL l r, ofR l e.1 r.lo ≠ ofR l e.1 r.hi := by
      unfold takeB okE
      rw [ht]
      constructor
      · rintro h1 ⟨e, he, h2⟩; exact h2 (h1 e he)
      · intro h1 e he; exact Classical.byContradiction fun h2 => h1 ⟨e, he, h2⟩
    rw [hb, he, clsL_ex (P := fun k => ofR l k r.lo ≠ ofR l k r.hi) h hl hR, freeB, List.any_eq_true]
    simp only [List.mem_range, decide_eq_true_eq, pl_worth]
  | cons y t =>
    have hb : badR l r ↔ movP r l := by rw [badR, ht]; simp
    rw [hb]
    have hd : ∀ (z : Int × Int), z ∈ r.tab → ∀ c : Rat, (∀ e ∈ clsL l r, ofR l e.1 z.1 - ofR l e.1 y.1 = c) ↔ ∀ i : Nat, i < (r.to_ - r.from_).toNat → worthOf l (r.from_ + i) z.1 - worthOf l (r.from_ + i) y.1 = c := by
      intro z _ c
      have := clsL_ex (P := fun k => ofR l k z.1 - ofR l k y.1 ≠ c) h hl hR
      simp only [pl_worth]
      constructor
      · intro h1 i hi
        exact Classical.byContradiction fun h2 => by obtain ⟨e, he, h3⟩ := this.2 ⟨i, hi, h2⟩; exact h3 (h1 e he)
      · intro h1 e he
        exact Classical.byContradiction fun h2 => by obtain ⟨i, hi, h3⟩ := this.1 ⟨e, he, h2⟩; exact h3 (h1 i hi)
    have hne : ∃ e ∈ clsL l r, True := (clsL_ex (P := fun _ => True) h hl hR).2 ⟨0, by omega, trivial⟩
    have hhd : (clsL l r).headD (0, 0) ∈ clsL l r := by
      obtain ⟨e, he, _⟩ := hne
      cases hc : clsL l r with
      | nil => rw [hc] at he; cases he
      | cons a b => exact List.mem_cons_self ..
    have hk : takeB l r ↔ ∀ z ∈ r.tab, ∃ c, ∀ e ∈ clsL l r, ofR l e.1 z.1 - ofR l e.1 y.1 = c := by
      unfold takeB okE
      rw [ht]
      constructor
      · intro h1 z hz
        exact ⟨ofR l ((clsL l r).headD (0, 0)).1 z.1 - ofR l ((clsL l r).headD (0, 0)).1 y.1, fun e he => by have := h1 e he z hz; grind⟩
      · intro h1 e he z hz
        obtain ⟨c, hc⟩ := h1 z hz
        have := hc e he
        have := hc _ hhd
        grind
    have hm : (¬ movP r l) ↔ ∀ z ∈ r.tab, ∀ i : Nat, i < (r.to_ - r.from_).toNat → worthOf l (r.from_ + i) z.1 - worthOf l (r.from_ + i) y.1 = worthOf l r.from_ z.1 - worthOf l r.from_ y.1 := by
      have hp : 0 < r.tab.length := by rw [ht]; exact Nat.zero_lt_succ _
      have h0 : r.tab[0] = y := by simp [ht]
      constructor
      · intro h1 z hz i hi
        obtain ⟨k, hk, rfl⟩ := List.getElem_of_mem hz
        refine Classical.byContradiction fun h2 => h1 ⟨k, hp, hk, ?_, i, ?_, by omega, ?_⟩
        · rcases Nat.eq_zero_or_pos k with rfl | h3
          · exact absurd (by rw [h0]; grind) h2
          · exact h3
        · rcases Nat.eq_zero_or_pos i with rfl | h3
          · exact absurd (by simp) h2
          · exact h3
        · rw [h0]
          intro h3; apply h2; grind
      · rintro h1 ⟨k, _, hk, _, j, _, hj, h2⟩
        have := h1 _ (List.getElem_mem hk) j (by omega)
        rw [h0] at h2
        apply h2; grind
    rw [hk, hm]
    constructor
    · intro h1 z hz i hi
      obtain ⟨c, hc⟩ := h1 z hz
      have h2 := (hd z hz c).1 hc
      have := h2 i hi
      have := h2 0 (by omega)
      simp only [Int.natCast_zero, Int.add_zero] at this
      grind
    · intro h1 z hz
      exact ⟨_, (hd z hz _).2 (h1 z hz)⟩
theorem takeV_eq {l : List Spn} {r : Rn} {x : Int} (h : inT r = true) (h1 : oneE r = 0) (hl : InOrd x l) (hb : takeB l r) (hR : ∀ s ∈ l, RightS s) : takeV l r = volSum l r.from_ (stagesR r) := by
  have hT := h
  rw [inT, decide_eq_true_eq] at hT
  cases ht : r.tab with
  | nil =>
    rw [takeV, ht, stagesR, if_pos (by rw [ht]; rfl), volSum_rep]
    simp only [pl_worth]
    exact (clsL_sum (g := fun k => ofR l k r.lo) h hl).symm
  | cons y t =>
    have h0 : r.tab.length ≠ 0 := by rw [ht]; exact Nat.succ_ne_zero _
    obtain ⟨e1, _, e3, _⟩ := oneE_tab h1 h0
    have hlen := tabS_len _ fun x hx => (e1 x hx).2.1
    unfold takeB okE at hb
    rw [ht] at hb
    dsimp only at hb
    rw [takeV, ht, stagesR, if_neg h0]
    dsimp only
    rw [← ht, ← segSum_tab _ _ fun x hx => (e1 x hx).2.1, ← clsL_sum h hl, show (r.to_ - r.from_).toNat = (tabS r.tab).length from by omega]
    rw [volSum_sep l (ofR l ((clsL l r).headD (0, 0)).1) (fun t => ofR l (pl 0 l t) y.1 - ofR l ((clsL l r).headD (0, 0)).1 y.1)]
    intro t ht1 ht2 z hz
    obtain ⟨m, hm⟩ := tabS_mem hz
    have hall : ¬ ∃ e ∈ clsL l r, ofR l e.1 z - ofR l ((clsL l r).headD (0, 0)).1 z ≠ ofR l e.1 y.1 - ofR l ((clsL l r).headD (0, 0)).1 y.1 := by
      rintro ⟨e, he, h5⟩
      exact h5 (hb e he (z, m) (ht ▸ hm))
    rw [clsL_ex (P := fun k => ofR l k z - ofR l ((clsL l r).headD (0, 0)).1 z ≠ ofR l k y.1 - ofR l ((clsL l r).headD (0, 0)).1 y.1) h hl hR] at hall
    have h6 := Classical.byContradiction fun h7 => hall ⟨(t - r.from_).toNat, by omega, h7⟩
    rw [show r.from_ + ((t - r.from_).toNat : Int) = t from by omega] at h6
    rw [pl_worth]; grind
/-! ### the runs together -/
/-- The runs follow one another from a tick on. -/
def Chn : Int → List Rn → Prop
  | _, [] => True
  | f, r :: t => r.from_ = f ∧ Chn r.to_ t
theorem chn_of : ∀ {l : List Rn} {p : Option Rn}, rnErr p l = 0 → Chn (match p with | none => firstF l | some q => q.to_) l
  | [], _, _ => trivial
  | r :: t, p, h => by
    have h5 : rnErr (some r) t = 0 ∧ ∀ q, p = some q → r.from_ = q.to_ := by
      cases p with
      | none =>
        have h6 : (if inT r = false then 3 else if false = true then 1 else if oneE r ≠ 0 then oneE r else rnErr (some r) t) = 0 := h
        split at h6
        · cases h6
        rw [if_neg (by decide)] at h6
        split at h6
        · rename_i h3; exact absurd h6 h3
        exact ⟨h6, fun q e => by cases e⟩
      | some q =>
        have h6 : (if inT r = false then 3 else if decide (r.from_ ≠ q.to_) = true then 1 else if oneE r ≠ 0 then oneE r else rnErr (some r) t) = 0 := h
        split at h6
        · cases h6
        split at h6
        · cases h6
        rename_i h2
        split at h6
        · rename_i h3; exact absurd h6 h3
        exact ⟨h6, fun q' e => by cases e; simpa using h2⟩
    refine ⟨?_, chn_of (p := some r) h5.1⟩
    cases p with
    | none => rfl
    | some q => exact h5.2 q rfl
theorem takeS_eq {l : List Spn} {x : Int} (hl : InOrd x l) (hR : ∀ s ∈ l, RightS s) : ∀ (rs : List Rn) (f : Int), Chn f rs → (∀ r ∈ rs, inT r = true) → (∀ r ∈ rs, oneE r = 0) → (∀ r ∈ rs, takeB l r) → takeS l rs = volSum l f (firstS rs)
  | [], _, _, _, _, _ => rfl
  | r :: t, f, h, h1, h2, h3 => by
    have m := List.mem_cons_self (a := r) (l := t)
    rw [takeS, firstS, volSum_app, takeV_eq (h1 r m) (h2 r m) hl (h3 r m) hR, takeS_eq hl hR t r.to_ h.2 (fun y hy => h1 y (List.mem_cons_of_mem _ hy)) (fun y hy => h2 y (List.mem_cons_of_mem _ hy)) (fun y hy => h3 y (List.mem_cons_of_mem _ hy)),
      stagesR_len (h1 r m) (h2 r m), h.1]
    congr 2; have := h.1; omega
theorem firstS_end : ∀ (rs : List Rn) (f : Int) (hp : 0 < rs.length), Chn f rs → (∀ r ∈ rs, inT r = true) → (∀ r ∈ rs, oneE r = 0) → f + (firstS rs).length = (rs[rs.length - 1]).to_
  | [r], f, _, h, h1, h2 => by
    have m := List.mem_cons_self (a := r) (l := [])
    have := stagesR_len (h1 r m) (h2 r m)
    have := h.1
    simp only [firstS, List.append_nil, List.length_singleton, Nat.sub_self, List.getElem_cons_zero]
    omega
  | r :: s :: t, f, _, h, h1, h2 => by
    have m := List.mem_cons_self (a := r) (l := s :: t)
    have h3 := stagesR_len (h1 r m) (h2 r m)
    have h4 := h.1
    have h5 := firstS_end (s :: t) r.to_ (Nat.zero_lt_succ _) h.2 (fun y hy => h1 y (List.mem_cons_of_mem _ hy)) (fun y hy => h2 y (List.mem_cons_of_mem _ hy))
    rw [firstS, List.length_append]
    simp only [List.length_cons, Nat.add_sub_cancel, List.getElem_cons_succ] at h5 ⊢
    omega
theorem firstS_bd {rs : List Rn} (h : ∀ r ∈ rs, oneE r = 0) : ∀ x ∈ firstS rs, 0 ≤ x ∧ x ≤ 1000 := by
  induction rs with
  | nil => intro x hx; cases hx
  | cons r t ih =>
    intro x hx
    rw [firstS, List.mem_append] at hx
    rcases hx with hx | hx
    · exact stagesR_bd (h r (List.mem_cons_self ..)) x hx
    · exact ih (fun y hy => h y (List.mem_cons_of_mem _ hy)) x hx
theorem exE_eq (rs : List Rn) (l : List Spn) : exE rs l = sExE rs l := by
  rw [exE, sExE]
  split
  · rfl
  rename_i h1
  rw [Decidable.not_not] at h1
  split
  · rfl
  rename_i h2
  rw [Decidable.not_not] at h2
  split
  · rfl
  rename_i h3
  have ⟨_, k5, k7⟩ := runsErr_ok h1
  have k6 := runsErr_one h1
  have hch : Chn (firstF rs) rs := chn_of (p := none) (runsErr_rn h1)
  have ⟨h4, hR⟩ := spansErr_ok h2
  have hl : InOrd 0 l := inOrd_of (by rw [spansErr] at h2; split at h2 <;> first | cases h2 | exact h2)
  have hB : (∃ r ∈ rs, badR l r) ↔ ¬ ∀ r ∈ rs, takeB l r := by
    constructor
    · rintro ⟨r, hr, hb⟩ h; exact (takeB_iff (k5 r hr) hl hR).1 (h r hr) hb
    · intro h
      exact Classical.byContradiction fun h5 => h fun r hr => (takeB_iff (k5 r hr) hl hR).2 fun hb => h5 ⟨r, hr, hb⟩
  by_cases h5 : ∀ r ∈ rs, takeB l r
  · rw [if_pos h5, if_neg (by rw [hB]; exact fun h => h h5), takeS_eq hl hR rs _ hch k5 k6 h5, volE, if_neg (fun e => e h2)]
    have hbd := firstS_bd k6
    have hrt : rightH (firstF rs) (firstS rs) = true ∧ l.any (outH (firstF rs) (firstS rs).length) = false := by
      rcases Nat.eq_zero_or_pos rs.length with hz | hz
      · obtain rfl := List.length_eq_zero_iff.1 hz
        refine ⟨by decide, ?_⟩
        cases l with
        | nil => rfl
        | cons s l => exact absurd (by simp [outX]) h3
      · have he := firstS_end rs _ hz hch k5 k6
        have hf : firstF rs = rs[0].from_ := by
          cases rs with
          | nil => exact absurd hz (Nat.lt_irrefl _)
          | cons r t => rfl
        have hlast := k5 _ (List.getElem_mem (show rs.length - 1 < rs.length by omega))
        have hfst := k5 _ (List.getElem_mem hz)
        rw [inT, decide_eq_true_eq] at hlast hfst
        rw [lenT, List.getElem?_eq_getElem hz, List.getElem?_eq_getElem (show rs.length - 1 < rs.length by omega)] at k7
        dsimp only at k7
        constructor
        · rw [rightH, Bool.and_eq_true, decide_eq_true_eq]
          refine ⟨by omega, ?_⟩
          rw [Bool.not_eq_true', List.any_eq_false]
          intro x hx
          have := hbd x hx
          simp [badSt]; omega
        · rw [List.any_eq_false]
          intro s hs
          have h6 : ¬ outX rs s = true := fun h => h3 (List.any_eq_true.2 ⟨s, hs, h⟩)
          rw [outX, List.getElem?_eq_getElem hz, List.getElem?_eq_getElem (show rs.length - 1 < rs.length by omega)] at h6
          simp only [Bool.or_eq_true, decide_eq_true_eq, not_or] at h6
          simp only [outH, Bool.or_eq_true, decide_eq_true_eq, not_or]
          omega
    rw [hrt.1, hrt.2, if_neg (by decide), if_neg (by decide)]
  · rw [if_neg h5, if_pos (hB.2 h5)]
end Go.Proofs.YthkdfpbjkpgckaaGreatDoor
/-
  Contracts of the law's small functions: long, of, is, few, spans.
-/
namespace Go.Proofs.YthkdfpbjkpgckaaGreatDoor
open Go.RowKit Go.Sl Go.Num
theorem long_holds (f : Int) (a : Option Addr) (hs : List Int) (c : Nat) (w : World) :
    Calls Tryz.prog 8 #[.agg #[.int .i64 f, .slice a hs.length c]] w fun e w' => e = .returned (.bool (decide (60 < hs.length))) ∧ Below w.heap.size w w' := by
  refine enterA [(0, .agg #[.int .i64 f, .slice a hs.length c])] Tryz.func8 Tryz.ntmps8 ?_
  all_goals (refine go ?_; and_intros <;> (try exact trivial) <;> intros)
  all_goals refine ret1b Tryz.func8 Tryz.results8 ?_
  all_goals first | rw [decide_eq_true (by omega)] | rw [decide_eq_false (by omega)]
theorem lof_holds (m n : Int) (w : World) (h1 : -999999999999999 ≤ m) (h2 : m ≤ 999999999999999) (h3 : -999999999999999 ≤ n) (h4 : n ≤ 999999999999999) (h0 : n ≠ 0) :
    Calls Tryz.prog 39 #[.int .i64 m, .int .i64 n] w fun e w' => e = .returned (qA (rQ ((m : Rat) / (n : Rat)))) ∧ Below w.heap.size w w' := by
  have hm := fun w' (_ : Below w.heap.size w w') => make_holds m n w' h1 h2 h3 h4 h0
  generalize rQ ((m : Rat) / (n : Rat)) = Q at *
  refine enterA [(0, .int .i64 m), (1, .int .i64 n)] Tryz.func39 Tryz.ntmps39 ?_
  all_goals (refine go ?_; and_intros <;> (try exact trivial) <;> intros)
  repeat' ((first | (refine G.cvb hm ?_)) <;> (refine go ?_; and_intros <;> (try exact trivial) <;> intros))
  all_goals refine ret1b Tryz.func39 Tryz.results39 ?_
  all_goals rfl
theorem is_holds (a : Q3) (e n : Int) (w : World) (h1 : -999999999999999 ≤ n) (h2 : n ≤ 999999999999999) :
    Calls Tryz.prog 41 #[qA a, .int .i64 e, .int .i64 n] w fun r w' => r = .returned (.bool (decide (e = 0 ∧ a = rQ (n : Rat)))) ∧ Below w.heap.size w w' := by
  have hi := fun w' (_ : Below w.heap.size w w') => int_holds n w' h1 h2
  generalize rQ (n : Rat) = Q at *
  by_cases h3 : e = 0
  · subst h3
    by_cases h4 : a = Q
    · skip
      refine enterA [(0, qA a), (1, .int .i64 0), (2, .int .i64 n)] Tryz.func41 Tryz.ntmps41 ?_
      all_goals (refine go ?_; and_intros <;> (try exact trivial) <;> intros)
      repeat' ((first | (refine G.cvb hi ?_) | (apply G.eqR a Q; rfl; rfl; rfl; all_goals intro h; all_goals try (exact absurd h4 h))) <;> (refine go ?_; and_intros <;> (try exact trivial) <;> intros))
      all_goals refine ret1b Tryz.func41 Tryz.results41 ?_
      all_goals simp [h4]
    · skip
      refine enterA [(0, qA a), (1, .int .i64 0), (2, .int .i64 n)] Tryz.func41 Tryz.ntmps41 ?_
      all_goals (refine go ?_; and_intros <;> (try exact trivial) <;> intros)
      repeat' ((first | (refine G.cvb hi ?_) | (apply G.eqR a Q; rfl; rfl; rfl; all_goals intro h; all_goals try (exact absurd h h4))) <;> (refine go ?_; and_intros <;> (try exact trivial) <;> intros))
      all_goals refine ret1b Tryz.func41 Tryz.results41 ?_
      all_goals simp [h4]
  · skip
    refine enterA [(0, qA a), (1, .int .i64 e), (2, .int .i64 n)] Tryz.func41 Tryz.ntmps41 ?_
    all_goals (refine go ?_; and_intros <;> (try exact trivial) <;> intros)
    repeat' ((first | (refine G.cvb hi ?_)) <;> (refine go ?_; and_intros <;> (try exact trivial) <;> intros))
    all_goals refine ret1b Tryz.func41 Tryz.results41 ?_
    all_goals simp [h3]
theorem fewLR_holds (a b : Option Addr) (l : List Spn) (rs : List Rn) (c d : Nat) (w : World) (hA : SpansAt w a l) (hB : RunsAt w b rs) :
    Calls Tryz.prog 9 #[.slice a l.length c, .slice b rs.length d] w fun r w' => r = .returned (.bool (decide (fewL 12 l ∧ fewR 12 60 rs))) ∧ Below w.heap.size w w' := by
  have h1 := fun w' (hb : Below w.heap.size w w') => few_holds a l c 12 w' (hA.below hb)
  have h2 := fun w' (hb : Below w.heap.size w w') => rFew_holds b rs d 12 60 w' (hB.below hb) (by decide)
  rw [show decide (fewL 12 l ∧ fewR 12 60 rs) = (decide (fewL 12 l) && decide (fewR 12 60 rs)) from Bool.decide_and ..]
  generalize decide (fewL 12 l) = B1 at *
  generalize decide (fewR 12 60 rs) = B2 at *
  cases B1 <;> cases B2
  all_goals
    refine enterA [(0, .slice a l.length c), (1, .slice b rs.length d)] Tryz.func9 Tryz.ntmps9 ?_
    all_goals (refine go ?_; and_intros <;> (try exact trivial) <;> intros)
    repeat' ((first | (refine G.cvb h1 ?_) | (refine G.cvb h2 ?_)) <;> (refine go ?_; and_intros <;> (try exact trivial) <;> intros))
    all_goals refine ret1b Tryz.func9 Tryz.results9 ?_
    all_goals rfl
theorem blkSlA {w0 w : World} {M : List Row} {A : Type} {f : A → List Value} {sz b tot : Nat} {e : TypeId} {l : List A} (hw : Sat w0 M w) (hf : ∀ x, (f x).length = sz) (hm : Row.blk b e (flat f l) tot ∈ M := by (repeat (first | exact List.Mem.head _ | apply List.Mem.tail))) : SlAt w (some ⟨b, 0, none⟩) sz (l.map f) ∧ w0.heap.size ≤ b := ⟨SlAt.ofBlk hf hw hm, ((hw.old _ hm).2 _ rfl).1⟩
/-- The points of the documentation's curve, and its spans. -/
def hPts : List Pnt := [(0, zero3), (10, rQ ((100 : Int) : Rat))]
def hSp1 (x : Option Addr) (y : Nat) : Spn := ⟨10, 14, rQ ((1 : Int) : Rat), 0, hPts, x, y⟩
def hSp2 (u : Q3) (x : Option Addr) (y : Nat) : Spn := ⟨14, 20, u, 1, hPts, x, y⟩
def hSpans (u : Q3) (x : Option Addr) (y : Nat) : List Spn := [hSp1 x y, hSp2 u x y]
theorem spans_holds (u : Q3) (w : World) :
    Calls Tryz.prog 38 #[qA u] w fun r w' => ∃ (a x : Nat), r = .returned (.slice (some ⟨a, 0, none⟩) 2 2) ∧ SpansAt w' (some ⟨a, 0, none⟩) (hSpans u (some ⟨x, 0, none⟩) 2) ∧ w.heap.size ≤ a ∧ w.heap.size ≤ x ∧ Below w.heap.size w w' := by
  have hi1 := fun w' (_ : Below w.heap.size w w') => int_holds 1 w' (by decide) (by decide)
  have hi2 := fun w' (_ : Below w.heap.size w w') => int_holds 100 w' (by decide) (by decide)
  unfold hSpans hSp1 hSp2 hPts
  generalize rQ ((1 : Int) : Rat) = Q1 at *
  generalize rQ ((100 : Int) : Rat) = Q2 at *
  refine enterA [(0, qA u)] Tryz.func38 Tryz.ntmps38 ?_
  all_goals (refine goR ?_; and_intros <;> (try exact trivial) <;> intros)
  repeat' ((first | (refine G.cvb (vs := [.int .i64 1]) hi1 ?_) | (refine G.cvb (vs := [.int .i64 100]) hi2 ?_) | (apply G.sliceL; rfl; rfl; rfl; rfl; rfl; rfl; rfl; rfl; intro Bs) | (apply J.regA (.q 0 <| .q 1 <| .q 2 <| .q 3 <| .q 4 <| .q 5 <| .r 6 <| .q 7 <| .nil); exact Tryz.mixed; decide +kernel) | (apply J.regQ; exact Tryz.mixed; decide +kernel) | (apply J.regL'; exact Tryz.mixed; decide +kernel)) <;> (refine goR ?_; and_intros <;> (try exact trivial) <;> intros))
  (refine ret1 Tryz.func38 Tryz.results38 ?_; intro w' hw)
  rename_i B1 B2 B3
  have ⟨m1, m2⟩ := blkSlA (f := spV) (sz := 7) (b := Bs) (e := 59) (tot := 14) (l := [⟨10, 14, Q1, 0, [(0, zero3), (10, Q2)], some ⟨B2, 0, none⟩, 2⟩, ⟨14, 20, u, 1, [(0, zero3), (10, Q2)], some ⟨B2, 0, none⟩, 2⟩]) hw (fun _ => rfl)
  have ⟨m3, m4⟩ := blkSlA (f := ptV) (sz := 4) (b := B2) (e := 126) (tot := 8) (l := [(0, zero3), (10, Q2)]) hw (fun _ => rfl)
  refine ⟨Bs, B2, rfl, ⟨m1, fun s hs => ?_⟩, m2, m4, hw.below⟩
  rcases List.mem_cons.1 hs with rfl | hs
  · exact m3
  · rw [List.mem_singleton.1 hs]; exact m3
end Go.Proofs.YthkdfpbjkpgckaaGreatDoor
/-
  Plain law: the examples of the documentation.
-/
namespace Go.Proofs.YthkdfpbjkpgckaaGreatDoor
open Go.RowKit Go.Sl Go.Num
def half : Q3 := rQ (((1 : Int) : Rat) / ((2 : Int) : Rat))
def one1 : Q3 := rQ ((1 : Int) : Rat)
def hHs : List Int := [1, 2, 3, 4, 5, 5, 5, 5, 5, 5]
theorem ex1 : rateE (hSp2 half none 0) 3 = (rQ ((20 : Int) : Rat), 0) := by decide +kernel
theorem ex2 : volE 10 hHs (hSpans half none 0) = (rQ ((280 : Int) : Rat), 0) := by decide +kernel
theorem ex3 : volE 11 hHs (hSpans half none 0) = (zero3, 19) := by decide +kernel
theorem ex4 : tableE ⟨10, 14, [(1, 3), (7, 1)], none, 0, 0, 0⟩ (hSp1 none 0) = (rQ ((100 : Int) : Rat), 0) := by decide +kernel
theorem ex5 : tableE ⟨10, 15, [(1, 5)], none, 0, 0, 0⟩ (hSp1 none 0) = (zero3, 3) := by decide +kernel
theorem ex6 : tableE ⟨10, 12, [], none, 0, 3, 3⟩ (hSp1 none 0) = (rQ ((60 : Int) : Rat), 0) := by decide +kernel
theorem ex7 : tableE ⟨10, 12, [], none, 0, 3, 4⟩ (hSp1 none 0) = (zero3, 29) := by decide +kernel
theorem ex8 : exE [⟨10, 14, [(1, 3), (7, 1)], none, 0, 0, 0⟩, ⟨14, 20, [(2, 6)], none, 0, 0, 0⟩] (hSpans half none 0) = (rQ ((190 : Int) : Rat), 0) := by decide +kernel
theorem ex9 : exE [⟨10, 20, [(1, 9), (7, 1)], none, 0, 0, 0⟩] (hSpans half none 0) = (zero3, 29) := by decide +kernel
theorem ex10 : exE [⟨10, 20, [(1, 9), (7, 1)], none, 0, 0, 0⟩] (hSpans one1 none 0) = (rQ ((220 : Int) : Rat), 0) := by decide +kernel
theorem ex11 : spansErr (hSpans half none 0) = 0 := by decide +kernel
theorem ex12 : ∀ s ∈ hSpans half none 0, fewS s := by decide +kernel
theorem ex12b : ∀ s ∈ hSpans one1 none 0, fewS s := by decide +kernel
/-! ### where the points and tables lie does not matter -/
def bare (s : Spn) : Spn := { s with adr := none, cap := 0 }
def rbare (r : Rn) : Rn := { r with adr := none, cap := 0 }
theorem spErr_bare : ∀ (l : List Spn) (x : Int), spErr x (l.map bare) = spErr x l
  | [], _ => rfl
  | s :: l, x => by
    show (if (!decide (RightS (bare s)) || decide (s.from_ < x)) = true then 1 else spErr s.to_ (l.map bare)) = _
    rw [spErr_bare l]; rfl
theorem spansErr_bare (l : List Spn) : spansErr (l.map bare) = spansErr l := by rw [spansErr, spansErr, spErr_bare, List.length_map]
theorem worthOf_bare (l : List Spn) (t x : Int) : worthOf (l.map bare) t x = worthOf l t x := by
  unfold worthOf spanAt
  rw [List.findIdx_map, List.getElem?_map]
  show (match (l[List.findIdx (inS t) l]?).map bare with | none => 0 | some s => rateOf s x) = _
  cases l[List.findIdx (inS t) l]? <;> rfl
theorem volSum_bare (l : List Spn) : ∀ (hs : List Int) (f : Int), volSum (l.map bare) f hs = volSum l f hs
  | [], _ => rfl
  | y :: hs, f => by rw [volSum, volSum, worthOf_bare, volSum_bare l hs]
theorem volE_bare (l : List Spn) (f : Int) (hs : List Int) : volE f hs (l.map bare) = volE f hs l := by
  unfold volE
  rw [spansErr_bare, List.any_map, volSum_bare]; rfl
theorem rnErr_bare : ∀ (l : List Rn) (p : Option Rn), rnErr (p.map rbare) (l.map rbare) = rnErr p l
  | [], _ => rfl
  | r :: l, p => by
    have := rnErr_bare l (some r)
    cases p with
    | none =>
      show (if inT r = false then 3 else if false = true then 1 else if oneE r ≠ 0 then oneE r else rnErr ((some r).map rbare) (l.map rbare)) = _
      rw [this]; rfl
    | some q =>
      show (if inT r = false then 3 else if decide (r.from_ ≠ q.to_) = true then 1 else if oneE r ≠ 0 then oneE r else rnErr ((some r).map rbare) (l.map rbare)) = _
      rw [this]; rfl
theorem lenT_bare (l : List Rn) : lenT (l.map rbare) = lenT l := by
  unfold lenT
  rw [List.getElem?_map, List.getElem?_map, List.length_map]
  cases l[0]? <;> cases l[l.length - 1]? <;> rfl
theorem runsErr_bare (l : List Rn) : runsErr (l.map rbare) = runsErr l := by
  have := rnErr_bare l none
  rw [Option.map_none] at this
  rw [runsErr, runsErr, this, lenT_bare, List.length_map]
theorem firstS_bare : ∀ l : List Rn, firstS (l.map rbare) = firstS l
  | [] => rfl
  | r :: l => by rw [List.map_cons, firstS, firstS, firstS_bare l]; rfl
theorem firstF_bare (l : List Rn) : firstF (l.map rbare) = firstF l := by cases l <;> rfl
theorem outX_bare (rs : List Rn) (s : Spn) : outX (rs.map rbare) (bare s) = outX rs s := by
  unfold outX
  rw [List.getElem?_map, List.getElem?_map, List.length_map]
  cases rs[0]? <;> cases rs[rs.length - 1]? <;> rfl
theorem badR_bare (l : List Spn) (r : Rn) : badR (l.map bare) (rbare r) ↔ badR l r := by
  unfold badR freeB movP
  simp only [worthOf_bare]
  exact Iff.rfl
theorem exE_bare (rs : List Rn) (l : List Spn) : exE (rs.map rbare) (l.map bare) = exE rs l := by
  rw [exE_eq, exE_eq]
  unfold sExE
  have h1 : (l.map bare).any (outX (rs.map rbare)) = l.any (outX rs) := by
    rw [List.any_map]; congr 1; funext s; exact outX_bare rs s
  have h2 : (∃ r ∈ rs.map rbare, badR (l.map bare) r) ↔ ∃ r ∈ rs, badR l r := by
    constructor
    · rintro ⟨r, hr, hb⟩
      obtain ⟨q, hq, rfl⟩ := List.mem_map.1 hr
      exact ⟨q, hq, (badR_bare l q).1 hb⟩
    · rintro ⟨r, hr, hb⟩
      exact ⟨_, List.mem_map_of_mem hr, (badR_bare l r).2 hb⟩
  rw [runsErr_bare, spansErr_bare, h1, firstS_bare, firstF_bare, volE_bare]
  by_cases hb : ∃ r ∈ rs, badR l r
  · rw [if_pos hb, if_pos (h2.2 hb)]
  · rw [if_neg hb, if_neg fun h => hb (h2.1 h)]
theorem tableE_bare (r : Rn) (s : Spn) : tableE (rbare r) (bare s) = tableE r s := by
  have h := runsErr_bare [r]
  rw [List.map_cons, List.map_nil] at h
  unfold tableE
  rw [h]; rfl
theorem hSpans_bare (u : Q3) (x : Option Addr) (y : Nat) : (hSpans u x y).map bare = hSpans u none 0 := rfl
theorem few_h (x : Option Addr) (y : Nat) : ∀ s ∈ hSpans half x y, fewS s := fun s hs => ex12 (bare s) (by rw [← hSpans_bare half x y]; exact List.mem_map_of_mem hs)
theorem few_h1 (x : Option Addr) (y : Nat) : ∀ s ∈ hSpans one1 x y, fewS s := fun s hs => ex12b (bare s) (by rw [← hSpans_bare one1 x y]; exact List.mem_map_of_mem hs)
theorem hs_val (x : Option Addr) (y : Nat) : volE 10 hHs (hSpans half x y) = (rQ ((280 : Int) : Rat), 0) := by rw [← volE_bare]; exact ex2
theorem hs_gap (x : Option Addr) (y : Nat) : volE 11 hHs (hSpans half x y) = (zero3, 19) := by rw [← volE_bare]; exact ex3
theorem hs_chk (x : Option Addr) (y : Nat) : spansErr (hSpans half x y) = 0 := by rw [← spansErr_bare]; exact ex11
theorem hs_t1 (a x : Option Addr) (c y : Nat) : tableE ⟨10, 14, [(1, 3), (7, 1)], a, c, 0, 0⟩ (hSp1 x y) = (rQ ((100 : Int) : Rat), 0) := by rw [← tableE_bare]; exact ex4
theorem hs_t2 (a x : Option Addr) (c y : Nat) : tableE ⟨10, 15, [(1, 5)], a, c, 0, 0⟩ (hSp1 x y) = (zero3, 3) := by rw [← tableE_bare]; exact ex5
theorem hs_t3 (a x : Option Addr) (c y : Nat) : tableE ⟨10, 12, [], a, c, 3, 3⟩ (hSp1 x y) = (rQ ((60 : Int) : Rat), 0) := by rw [← tableE_bare]; exact ex6
theorem hs_t4 (a x : Option Addr) (c y : Nat) : tableE ⟨10, 12, [], a, c, 3, 4⟩ (hSp1 x y) = (zero3, 29) := by rw [← tableE_bare]; exact ex7
theorem hs_e1 (a b x : Option Addr) (c d y : Nat) : exE [⟨10, 14, [(1, 3), (7, 1)], a, c, 0, 0⟩, ⟨14, 20, [(2, 6)], b, d, 0, 0⟩] (hSpans half x y) = (rQ ((190 : Int) : Rat), 0) := by rw [← exE_bare]; exact ex8
theorem hs_e2 (a x : Option Addr) (c y : Nat) : exE [⟨10, 20, [(1, 9), (7, 1)], a, c, 0, 0⟩] (hSpans half x y) = (zero3, 29) := by rw [← exE_bare]; exact ex9
theorem hs_e3 (a x : Option Addr) (c y : Nat) : exE [⟨10, 20, [(1, 9), (7, 1)], a, c, 0, 0⟩] (hSpans one1 x y) = (rQ ((220 : Int) : Rat), 0) := by rw [← exE_bare]; exact ex10
theorem hs_cut (x : Option Addr) (y : Nat) : cutE 12 15 (hSpans half x y) = ([{ hSp1 x y with from_ := 12 }, { hSp2 half x y with to_ := 15 }], 0) := by
  rw [cutE, if_neg (fun e => e (hs_chk x y)), if_neg (by decide)]; rfl
theorem ex13 : qR (rQ ((2 : Int) : Rat)) * qR half = ((1 : Int) : Rat) := by decide +kernel
theorem ex13b : rQ (qR (rQ ((1 : Int) : Rat)) * qR (rQ ((2 : Int) : Rat))) = rQ ((2 : Int) : Rat) := by decide +kernel
theorem ex13c : rQ (qR half * qR (rQ ((2 : Int) : Rat))) = one1 := by decide +kernel
theorem ex14 : validQ (rQ ((2 : Int) : Rat)) := by decide +kernel
theorem hs_scale (x : Option Addr) (y : Nat) : scaleE (rQ ((2 : Int) : Rat)) (hSpans half x y) = ([{ hSp1 x y with wt := rQ ((2 : Int) : Rat) }, hSp2 one1 x y], 0) := by
  rw [scaleE, if_neg (fun e => e (hs_chk x y)), if_neg (fun e => e ex14)]
  show ([{ hSp1 x y with wt := rQ (qR (rQ ((1 : Int) : Rat)) * qR (rQ ((2 : Int) : Rat))) }, { hSp2 half x y with wt := rQ (qR half * qR (rQ ((2 : Int) : Rat))) }], (0 : Int)) = _
  rw [ex13b, ex13c]; rfl
theorem ex15 : fewQ 40 (rQ ((2 : Int) : Rat)) := by decide +kernel
end Go.Proofs.YthkdfpbjkpgckaaGreatDoor
/-
  Contract of the law's sanity.
-/
namespace Go.Proofs.YthkdfpbjkpgckaaGreatDoor
open Go.RowKit Go.Sl Go.Num
theorem G.spn {C : Ctx} {st : List (Nat × Value)} {M : List Row} {k : List Item} {q q' : Md} {all rest : List Oper} {d : Nat} {ty : TypeId} {pos : String} {after : Array Edge} {gd : Option (Nat × Bool)} {args : List Operand} {at_ : Array TypeId} (u : Q3)
    (h : ∀ a x : Nat, G q' C all ((d, .slice (some ⟨a, 0, none⟩) 2 2) :: st) (slRow C.w0.heap.size (some ⟨a, 0, none⟩) 7 ((hSpans u (some ⟨x, 0, none⟩) 2).map spV) :: slRow C.w0.heap.size (some ⟨x, 0, none⟩) 4 (hPts.map ptV) :: M) rest k)
    (hP : C.P = Tryz.prog := by rfl) (ha : evL st args = some [qA u] := by rfl) (hs : sideB all st gd d C.N q.ext = some q' := by rfl) :
    G q C all st M ({ dst := some d, op := .call { callee := .value (.func 38), args := args.toArray, argTypes := at_ }, type := ty, pos, after, guard := gd } :: rest) k := by
  obtain ⟨P, b, PHI, N0, w0, D⟩ := C
  dsimp only at hP; subst hP
  obtain ⟨g1, g2, g3⟩ := sideB_ok hs
  refine G.call0 (X := Nat × Nat) (v := fun x => .slice (some ⟨x.1, 0, none⟩) 2 2) (Mn := fun y => [slRow w0.heap.size (some ⟨y.1, 0, none⟩) 7 ((hSpans u (some ⟨y.2, 0, none⟩) 2).map spV), slRow w0.heap.size (some ⟨y.2, 0, none⟩) 4 (hPts.map ptV)]) g1 g2 g3 ha (fun w hw => (spans_holds u w).mono fun e w' he => ?_) fun y => h y.1 y.2
  obtain ⟨a, x, rfl, ⟨h1, h2⟩, f1, f2, h3⟩ := he
  have nl : ∀ {b : Nat}, w.heap.size ≤ b → ∀ p, some (⟨b, 0, none⟩ : Addr) = some p → ∀ r ∈ M, ¬ r.lock p.block := fun hf p hp r hr hl => by
    cases hp
    have := ((hw.old r hr).2 _ (Row.lock_sup hl)).2
    dsimp only at this
    omega
  have k1 := (hw.ext h3).addSl (h2 _ (List.mem_cons_self ..)) (nl f2)
  refine ⟨(a, x), rfl, k1.addSl h1 fun p hp r hr => ?_⟩
  rcases List.mem_cons.1 hr with rfl | hr
  · exact fun h => h
  · exact nl f1 p hp r hr
theorem spOf {w0 w : World} {M : List Row} {N a x : Nat} {u : Q3} (hw : Sat w0 M w) (h1 : slRow N (some ⟨a, 0, none⟩) 7 ((hSpans u (some ⟨x, 0, none⟩) 2).map spV) ∈ M := by (repeat (first | exact List.Mem.head _ | apply List.Mem.tail))) (h2 : slRow N (some ⟨x, 0, none⟩) 4 (hPts.map ptV) ∈ M := by (repeat (first | exact List.Mem.head _ | apply List.Mem.tail))) : SpansAt w (some ⟨a, 0, none⟩) (hSpans u (some ⟨x, 0, none⟩) 2) := by
  refine ⟨hw.sl h1, fun s hs => ?_⟩
  rcases List.mem_cons.1 hs with rfl | hs
  · exact hw.sl h2
  · rw [List.mem_singleton.1 hs]; exact hw.sl h2
theorem ofHalf (w : World) : Calls Tryz.prog 39 #[.int .i64 1, .int .i64 2] w fun e w' => e = .returned (qA half) ∧ Below w.heap.size w w' := lof_holds 1 2 w (by decide) (by decide) (by decide) (by decide) (by decide)
theorem int1 (w : World) : Calls Tryz.prog 40 #[.int .i64 1] w fun e w' => e = .returned (qA one1) ∧ Below w.heap.size w w' := int_holds 1 w (by decide) (by decide)
theorem ex1' {x : Option Addr} {y : Nat} : rateE (hSp2 half x y) 3 = (rQ ((20 : Int) : Rat), 0) := ex1
theorem ldS0 {C : Ctx} {M : List Row} {a x N : Nat} (hP : C.P = Tryz.prog := by rfl) (h1 : slRow N (some ⟨a, 0, none⟩) 7 ((hSpans half (some ⟨x, 0, none⟩) 2).map spV) ∈ M := by (repeat (first | exact List.Mem.head _ | apply List.Mem.tail))) : LdV C M 59 ⟨a, 0 + 0 * 7, none⟩ (spA (hSp1 (some ⟨x, 0, none⟩) 2)) := by
  obtain ⟨P, b, PHI, N0, w0, D⟩ := C
  dsimp only at hP; subst hP
  exact LdV.aggSl (i := 0) h1 (show 0 < 2 by decide) rfl
theorem ldS1 {C : Ctx} {M : List Row} {a x N : Nat} (hP : C.P = Tryz.prog := by rfl) (h1 : slRow N (some ⟨a, 0, none⟩) 7 ((hSpans half (some ⟨x, 0, none⟩) 2).map spV) ∈ M := by (repeat (first | exact List.Mem.head _ | apply List.Mem.tail))) : LdV C M 59 ⟨a, 0 + 1 * 7, none⟩ (spA (hSp2 half (some ⟨x, 0, none⟩) 2)) := by
  obtain ⟨P, b, PHI, N0, w0, D⟩ := C
  dsimp only at hP; subst hP
  exact LdV.aggSl (i := 1) h1 (show 1 < 2 by decide) rfl
theorem cvIs {a : Q3} {n : Int} (h : a = rQ ((n : Int) : Rat)) (h1 : -999999999999999 ≤ n) (h2 : n ≤ 999999999999999) (w : World) : Calls Tryz.prog 41 #[qA a, .int .i64 0, .int .i64 n] w fun e w' => e = .returned (.bool true) ∧ Below w.heap.size w w' := by
  have := is_holds a 0 n w h1 h2
  rw [decide_eq_true ⟨rfl, h⟩] at this; exact this
theorem cvRate {w0 w : World} {M : List Row} {N x : Nat} {Q : Q3} (hQ : rateE (hSp2 half (some ⟨x, 0, none⟩) 2) 3 = (Q, 0)) (hw : Sat w0 M w) (h2 : slRow N (some ⟨x, 0, none⟩) 4 (hPts.map ptV) ∈ M := by (repeat (first | exact List.Mem.head _ | apply List.Mem.tail))) :
    Calls Tryz.prog 20 #[spA (hSp2 half (some ⟨x, 0, none⟩) 2), .int .i64 3] w fun e w' => e = .returned (.tuple #[qA Q, .int .i64 0]) ∧ Below w.heap.size w w' := by
  have := vRate_holds (hSp2 half (some ⟨x, 0, none⟩) 2) 3 w (hw.sl h2) (few_h (some ⟨x, 0, none⟩) 2 _ (List.mem_cons_of_mem _ (List.mem_cons_self ..)))
  rw [hQ] at this; exact this
theorem cvVal {w0 w : World} {M : List Row} {N a x b tot : Nat} {f E : Int} {Q : Q3} (hQ : volE f hHs (hSpans half (some ⟨x, 0, none⟩) 2) = (Q, E)) (hw : Sat w0 M w) (h1 : slRow N (some ⟨a, 0, none⟩) 7 ((hSpans half (some ⟨x, 0, none⟩) 2).map spV) ∈ M := by (repeat (first | exact List.Mem.head _ | apply List.Mem.tail))) (h2 : slRow N (some ⟨x, 0, none⟩) 4 (hPts.map ptV) ∈ M := by (repeat (first | exact List.Mem.head _ | apply List.Mem.tail))) (h3 : Row.blk b 3 (flat isV hHs) tot ∈ M := by (repeat (first | exact List.Mem.head _ | apply List.Mem.tail))) :
    Calls Tryz.prog 11 #[.agg #[.int .i64 f, .slice (some ⟨b, 0, none⟩) 10 10], .slice (some ⟨a, 0, none⟩) 2 2] w fun e w' => e = .returned (.tuple #[qA Q, .int .i64 E]) ∧ Below w.heap.size w w' := by
  have := val_holds f (some ⟨b, 0, none⟩) (some ⟨a, 0, none⟩) hHs (hSpans half (some ⟨x, 0, none⟩) 2) 10 2 w (SlAt.ofBlk (fun _ => rfl) hw h3) (spOf hw h1 h2) (few_h _ _) (by decide) (by decide)
  rw [hQ] at this; exact this
theorem cvTab {w0 w : World} {M : List Row} {N x b tot : Nat} {f t E : Int} {T : List (Int × Int)} {Q : Q3} (hQ : tableE ⟨f, t, T, some ⟨b, 0, none⟩, T.length, 0, 0⟩ (hSp1 (some ⟨x, 0, none⟩) 2) = (Q, E)) (hT : T.length ≤ 64) (hw : Sat w0 M w) (h2 : slRow N (some ⟨x, 0, none⟩) 4 (hPts.map ptV) ∈ M := by (repeat (first | exact List.Mem.head _ | apply List.Mem.tail))) (h3 : Row.blk b 88 (flat hoV T) tot ∈ M := by (repeat (first | exact List.Mem.head _ | apply List.Mem.tail))) :
    Calls Tryz.prog 22 #[rnA ⟨f, t, T, some ⟨b, 0, none⟩, T.length, 0, 0⟩, spA (hSp1 (some ⟨x, 0, none⟩) 2)] w fun e w' => e = .returned (.tuple #[qA Q, .int .i64 E]) ∧ Below w.heap.size w w' := by
  have := vTable_holds ⟨f, t, T, some ⟨b, 0, none⟩, T.length, 0, 0⟩ (hSp1 (some ⟨x, 0, none⟩) 2) w (SlAt.ofBlk (f := hoV) (fun _ => rfl) hw h3) (hw.sl h2) hT (few_h (some ⟨x, 0, none⟩) 2 _ (List.mem_cons_self ..))
  rw [hQ] at this; exact this
theorem cvGap {w0 w : World} {M : List Row} {N x : Nat} {f t lo hi E : Int} {Q : Q3} (hQ : tableE ⟨f, t, [], none, 0, lo, hi⟩ (hSp1 (some ⟨x, 0, none⟩) 2) = (Q, E)) (hw : Sat w0 M w) (h2 : slRow N (some ⟨x, 0, none⟩) 4 (hPts.map ptV) ∈ M := by (repeat (first | exact List.Mem.head _ | apply List.Mem.tail))) :
    Calls Tryz.prog 22 #[rnA ⟨f, t, [], none, 0, lo, hi⟩, spA (hSp1 (some ⟨x, 0, none⟩) 2)] w fun e w' => e = .returned (.tuple #[qA Q, .int .i64 E]) ∧ Below w.heap.size w w' := by
  have := vTable_holds ⟨f, t, [], none, 0, lo, hi⟩ (hSp1 (some ⟨x, 0, none⟩) 2) w (fun h => absurd h (Nat.lt_irrefl 0)) (hw.sl h2) (Nat.zero_le _) (few_h (some ⟨x, 0, none⟩) 2 _ (List.mem_cons_self ..))
  rw [hQ] at this; exact this
theorem cvEx2 {w0 w : World} {M : List Row} {N a x b b1 b2 tot t1 t2 : Nat} {f m t E : Int} {T1 T2 : List (Int × Int)} {u Q : Q3} (hQ : exE [⟨f, m, T1, some ⟨b1, 0, none⟩, T1.length, 0, 0⟩, ⟨m, t, T2, some ⟨b2, 0, none⟩, T2.length, 0, 0⟩] (hSpans u (some ⟨x, 0, none⟩) 2) = (Q, E)) (hT1 : T1.length ≤ 64) (hT2 : T2.length ≤ 64) (hf : ∀ s ∈ hSpans u (some ⟨x, 0, none⟩) 2, fewS s) (hw : Sat w0 M w) (h1 : slRow N (some ⟨a, 0, none⟩) 7 ((hSpans u (some ⟨x, 0, none⟩) 2).map spV) ∈ M := by (repeat (first | exact List.Mem.head _ | apply List.Mem.tail))) (h2 : slRow N (some ⟨x, 0, none⟩) 4 (hPts.map ptV) ∈ M := by (repeat (first | exact List.Mem.head _ | apply List.Mem.tail)))
    (h3 : Row.blk b 28 (flat rnV [⟨f, m, T1, some ⟨b1, 0, none⟩, T1.length, 0, 0⟩, ⟨m, t, T2, some ⟨b2, 0, none⟩, T2.length, 0, 0⟩]) tot ∈ M := by (repeat (first | exact List.Mem.head _ | apply List.Mem.tail))) (h4 : Row.blk b1 88 (flat hoV T1) t1 ∈ M := by (repeat (first | exact List.Mem.head _ | apply List.Mem.tail))) (h5 : Row.blk b2 88 (flat hoV T2) t2 ∈ M := by (repeat (first | exact List.Mem.head _ | apply List.Mem.tail))) :
    Calls Tryz.prog 24 #[.slice (some ⟨b, 0, none⟩) 2 2, .slice (some ⟨a, 0, none⟩) 2 2] w fun e w' => e = .returned (.tuple #[qA Q, .int .i64 E]) ∧ Below w.heap.size w w' := by
  have := exact_holds (some ⟨b, 0, none⟩) (some ⟨a, 0, none⟩) [⟨f, m, T1, some ⟨b1, 0, none⟩, T1.length, 0, 0⟩, ⟨m, t, T2, some ⟨b2, 0, none⟩, T2.length, 0, 0⟩] (hSpans u (some ⟨x, 0, none⟩) 2) 2 2 w ⟨SlAt.ofBlk (fun _ => rfl) hw h3, fun r hr => by
    rcases List.mem_cons.1 hr with rfl | hr
    · exact SlAt.ofBlk (f := hoV) (fun _ => rfl) hw h4
    · rw [List.mem_singleton.1 hr]; exact SlAt.ofBlk (f := hoV) (fun _ => rfl) hw h5⟩ (spOf hw h1 h2) hf (fun r hr => by
    rcases List.mem_cons.1 hr with rfl | hr
    · exact hT1
    · rw [List.mem_singleton.1 hr]; exact hT2) (by simp)
  rw [hQ] at this; exact this
theorem cvEx1 {w0 w : World} {M : List Row} {N a x b b1 tot t1 : Nat} {f m E : Int} {T1 : List (Int × Int)} {u Q : Q3} (hQ : exE [⟨f, m, T1, some ⟨b1, 0, none⟩, T1.length, 0, 0⟩] (hSpans u (some ⟨x, 0, none⟩) 2) = (Q, E)) (hT1 : T1.length ≤ 64) (hf : ∀ s ∈ hSpans u (some ⟨x, 0, none⟩) 2, fewS s) (hw : Sat w0 M w) (h1 : slRow N (some ⟨a, 0, none⟩) 7 ((hSpans u (some ⟨x, 0, none⟩) 2).map spV) ∈ M := by (repeat (first | exact List.Mem.head _ | apply List.Mem.tail))) (h2 : slRow N (some ⟨x, 0, none⟩) 4 (hPts.map ptV) ∈ M := by (repeat (first | exact List.Mem.head _ | apply List.Mem.tail)))
    (h3 : Row.blk b 28 (flat rnV [⟨f, m, T1, some ⟨b1, 0, none⟩, T1.length, 0, 0⟩]) tot ∈ M := by (repeat (first | exact List.Mem.head _ | apply List.Mem.tail))) (h4 : Row.blk b1 88 (flat hoV T1) t1 ∈ M := by (repeat (first | exact List.Mem.head _ | apply List.Mem.tail))) :
    Calls Tryz.prog 24 #[.slice (some ⟨b, 0, none⟩) 1 1, .slice (some ⟨a, 0, none⟩) 2 2] w fun e w' => e = .returned (.tuple #[qA Q, .int .i64 E]) ∧ Below w.heap.size w w' := by
  have := exact_holds (some ⟨b, 0, none⟩) (some ⟨a, 0, none⟩) [⟨f, m, T1, some ⟨b1, 0, none⟩, T1.length, 0, 0⟩] (hSpans u (some ⟨x, 0, none⟩) 2) 1 2 w ⟨SlAt.ofBlk (fun _ => rfl) hw h3, fun r hr => by
    rw [List.mem_singleton.1 hr]; exact SlAt.ofBlk (f := hoV) (fun _ => rfl) hw h4⟩ (spOf hw h1 h2) hf (fun r hr => by
    rw [List.mem_singleton.1 hr]; exact hT1) (by simp)
  rw [hQ] at this; exact this
theorem cvChk {w0 w : World} {M : List Row} {N a x : Nat} (hw : Sat w0 M w) (h1 : slRow N (some ⟨a, 0, none⟩) 7 ((hSpans half (some ⟨x, 0, none⟩) 2).map spV) ∈ M := by (repeat (first | exact List.Mem.head _ | apply List.Mem.tail))) (h2 : slRow N (some ⟨x, 0, none⟩) 4 (hPts.map ptV) ∈ M := by (repeat (first | exact List.Mem.head _ | apply List.Mem.tail))) :
    Calls Tryz.prog 17 #[.slice (some ⟨a, 0, none⟩) 2 2] w fun e w' => e = .returned (.int .i64 0) ∧ Below w.heap.size w w' := by
  have := vCheck_holds (some ⟨a, 0, none⟩) (hSpans half (some ⟨x, 0, none⟩) 2) 2 w (spOf hw h1 h2) (few_h _ _)
  rw [hs_chk] at this; exact this
theorem cvCut {w0 w : World} {M : List Row} {N a x : Nat} (hw : Sat w0 M w) (h1 : slRow N (some ⟨a, 0, none⟩) 7 ((hSpans half (some ⟨x, 0, none⟩) 2).map spV) ∈ M := by (repeat (first | exact List.Mem.head _ | apply List.Mem.tail))) (h2 : slRow N (some ⟨x, 0, none⟩) 4 (hPts.map ptV) ∈ M := by (repeat (first | exact List.Mem.head _ | apply List.Mem.tail))) :
    Calls Tryz.prog 13 #[.slice (some ⟨a, 0, none⟩) 2 2, .agg #[.int .i64 12, .int .i64 15]] w (RetO Tryz.prog w 59 7 2 [.int .i64 12, .int .i64 14, .bool (rQ ((1 : Int) : Rat)).neg, .string (bs (rQ ((1 : Int) : Rat)).num), .string (bs (rQ ((1 : Int) : Rat)).den), .int .i64 0, .slice (some ⟨x, 0, none⟩) 2 2, .int .i64 14, .int .i64 15, .bool half.neg, .string (bs half.num), .string (bs half.den), .int .i64 1, .slice (some ⟨x, 0, none⟩) 2 2] (fun u => .tuple #[u, .int .i64 0])) := by
  have := vCut_holds (some ⟨a, 0, none⟩) (hSpans half (some ⟨x, 0, none⟩) 2) 2 12 15 w (spOf hw h1 h2) (few_h _ _)
  rw [hs_cut] at this; exact this
theorem cvScale {w0 w : World} {M : List Row} {N a x : Nat} (hw : Sat w0 M w) (h1 : slRow N (some ⟨a, 0, none⟩) 7 ((hSpans half (some ⟨x, 0, none⟩) 2).map spV) ∈ M := by (repeat (first | exact List.Mem.head _ | apply List.Mem.tail))) (h2 : slRow N (some ⟨x, 0, none⟩) 4 (hPts.map ptV) ∈ M := by (repeat (first | exact List.Mem.head _ | apply List.Mem.tail))) :
    Calls Tryz.prog 15 #[.slice (some ⟨a, 0, none⟩) 2 2, qA (rQ ((2 : Int) : Rat))] w (RetO Tryz.prog w 59 7 2 [.int .i64 10, .int .i64 14, .bool (rQ ((2 : Int) : Rat)).neg, .string (bs (rQ ((2 : Int) : Rat)).num), .string (bs (rQ ((2 : Int) : Rat)).den), .int .i64 0, .slice (some ⟨x, 0, none⟩) 2 2, .int .i64 14, .int .i64 20, .bool one1.neg, .string (bs one1.num), .string (bs one1.den), .int .i64 1, .slice (some ⟨x, 0, none⟩) 2 2] (fun u => .tuple #[u, .int .i64 0])) := by
  have := vScale_holds (some ⟨a, 0, none⟩) (hSpans half (some ⟨x, 0, none⟩) 2) 2 (rQ ((2 : Int) : Rat)) w (spOf hw h1 h2) (few_h _ _) ex15
  rw [hs_scale] at this; exact this
end Go.Proofs.YthkdfpbjkpgckaaGreatDoor
