/-
  Contracts of rights: what the program's Allot leans on.
-/
import Derived.Test.YtcdgibkbbcekhaaGreatDoorGR9
set_option linter.unusedVariables false
set_option linter.unusedSimpArgs false
set_option linter.unusedSectionVars false
namespace Go.Proofs.YtcdgibkbbcekhaaGreatDoor
open Go.RowKit Go.Sl Go.Num
theorem allT_len {R : List Rch} {Gs : List Rat} {L : List Cm} : ∀ r, (allT R Gs L r).length = L.length
  | 0 => gl_len _ _
  | r + 1 => (rkT_zip (allT_len r) r).2
theorem allT_skip {R : List Rch} {Gs : List Rat} {L : List Cm} (r : Nat) : ∀ d, (∀ c ∈ L, ¬ (r ≤ c.rk ∧ c.rk < r + d)) → allT R Gs L (r + d) = allT R Gs L r
  | 0, _ => rfl
  | d + 1, h => by
    have ih := allT_skip (R := R) (Gs := Gs) r d fun c hc hh => h c hc ⟨hh.1, by omega⟩
    have h1 : rankZ (onR R) R.length (fsq Gs) (r + d) (L.zip (allT R Gs L (r + d))) = L.zip (allT R Gs L (r + d)) := rankZ_none fun z hz => fun e => h _ (List.of_mem_zip hz).1 ⟨by omega, by omega⟩
    show rkT R Gs L (r + d) (allT R Gs L (r + d)) = _
    rw [rkT, h1, List.map_snd_zip (by rw [allT_len]; exact Nat.le_refl _), ih]
theorem qs_range {α : Type} (f : α → Rat) (L : List α) : ∀ k, k ≤ L.length → qs (L.take k) f = qs (List.range k) fun i => (L.map f).getD i 0
  | 0, _ => rfl
  | k + 1, h => by
    rw [qs_take f (show k < L.length by omega), qs_range f L k (by omega), List.range_succ, qs_app, qs_cons, qs_nil, Rat.add_zero]
    congr 1
    rw [List.getD_eq_getElem?_getD, List.getElem?_map, List.getElem?_eq_getElem (show k < L.length by omega)]; rfl
/-- The amount of the k-th claim. -/
def amK (L : List Cm) (k : Nat) : Rat := (L.map (·.am)).getD k 0
theorem amK_at {L : List Cm} {k : Nat} (h : k < L.length) : amK L k = L[k].am := by
  rw [amK, List.getD_eq_getElem?_getD, List.getElem?_map, List.getElem?_eq_getElem h]; rfl
theorem sI_at {on : Nat → Nat → Bool} {L : List Cm} {o : Nat → Bool} {nm : Nat → Rat} {n g : Nat} : sIt on (atI L o nm n) g = qs (List.range n) fun i => if o i = true then (if on ((L.map (·.pl)).getD i 0) g = true then nm i else 0) else 0 := by
  rw [sIt, atI, qs_map, qs_filter]
theorem sI_unit {on : Nat → Nat → Bool} {L : List Cm} {T : List Rat} {O : List Bool} (h1 : T.length = L.length) (h2 : O.length = L.length) (g : Nat) : sIt on (atI L (fun k => O.getD k false) (amK L) L.length) g = unitZ on (zz L T O) g := by
  have h3 := qs_range (fun z : Cm × Rat × Bool => if (on z.1.pl g && z.2.2) = true then z.1.am else 0) (zz L T O) (zz L T O).length (Nat.le_refl _)
  rw [List.take_length] at h3
  rw [sI_at, unitZ, h3, zz_len h1 h2]
  refine qs_congr fun i hi => ?_
  have hil := List.mem_range.1 hi
  rw [amK_at hil]
  simp only [List.getD_eq_getElem?_getD, List.getElem?_map, List.getElem?_eq_getElem hil, List.getElem?_eq_getElem (show i < O.length by omega), List.getElem?_eq_getElem (show i < (zz L T O).length by rw [zz_len h1 h2]; exact hil), zz_get hil (show i < T.length by omega) (show i < O.length by omega), Option.map_some, Option.getD_some]
  cases O[i] <;> cases on L[i].pl g <;> rfl
theorem qmin_shift (c p x : Rat) : qmin (c - p) x = qmin c (p + x) - p := by unfold qmin; grind
theorem rsT_grow {R : List Rch} {Gs : List Rat} {L : List Cm} {r : Nat} {T : List Rat} {O : List Bool} {p : Rat} (h : Rnd R Gs L r T O p) (q : Rat) (g : Nat) : rsT R Gs L (grT L T O q) g = rsT R Gs L T g - unitZ (onR R) (zz L T O) g * (q - p) := by
  have h1 := used_mid (on := onR R) (p' := q) (fun z hz hp => (h.inv.op z hz hp).2.2) g
  rw [mid_zz h.lt h.lo, tks_zz (grT_len h.lt h.lo q) h.lo, tks_zz h.lt h.lo] at h1
  rw [rsT, rsT, h1]; grind
theorem atI_big {L : List Cm} {o : Nat → Bool} {nm : Nat → Rat} {k : Nat} (hk : 1 ≤ k) (hk2 : k ≤ 100000) (hl : L.length ≤ 205) (hn : ∀ i, fewQ k (rQ (nm i))) (on : Nat → Nat → Bool) (i g : Nat) : big (sIt on ((atI L o nm L.length).take i) g) := by
  refine fewQ.big (k := (k + 1) * ((atI L o nm L.length).take i).length + 1) ?_ ?_
  · refine few_qs hk fun x hx => ?_
    split
    · obtain ⟨j, _, rfl⟩ := List.mem_map.1 (List.mem_of_mem_take hx)
      exact hn j
    · exact fewQ_zero
  · have h1 : ((atI L o nm L.length).take i).length ≤ 205 := by
      rw [List.length_take, atI, List.length_map]
      have := List.length_filter_le o (List.range L.length)
      rw [List.length_range] at this
      omega
    have h2 : (k + 1) * ((atI L o nm L.length).take i).length ≤ 100001 * 205 := Nat.mul_le_mul (by omega) h1
    omega
theorem atI_pl {L : List Cm} {o : Nat → Bool} {nm : Nat → Rat} {n : Nat} (hC : ∀ c ∈ L, c.pl < n) {e : Nat × Rat} (he : e ∈ atI L o nm L.length) : e.1 < n ∧ ∃ i, e.2 = nm i := by
  obtain ⟨i, hi, rfl⟩ := List.mem_map.1 he
  have hil := List.mem_range.1 (List.mem_filter.1 hi).1
  refine ⟨?_, i, rfl⟩
  dsimp only
  rw [List.getD_eq_getElem?_getD, List.getElem?_map, List.getElem?_eq_getElem hil]
  exact hC _ (List.getElem_mem hil)
/-! ### closures -/
theorem aIs_holds (w0 : World) (M : List Row) (w : World) (B15 Bb : Nat) (O : List Bool) (m tot k : Nat) (hm : O.length = m) (hk : k < m) (hw : Sat w0 ([.blk B15 117 [.slice (some ⟨Bb, 0, none⟩) m m] 1, .blk Bb 4 (flat oV O) tot] ++ M) w) :
    Calls Tryz.prog 62 (#[.int .i64 k] ++ #[.pointer (some ⟨B15, 0, none⟩)]) w fun e w' => e = .returned (.bool (O.getD k false)) ∧ Below w.heap.size w w' := by
  have hq1 := oGet (O := O) (k := k) (List.getElem?_eq_getElem (by omega))
  rw [List.getD_eq_getElem?_getD, List.getElem?_eq_getElem (by omega), Option.getD_some]
  have hsa : SlAt w (some ⟨Bb, 0, none⟩) 1 (O.map oV) := SlAt.ofBlk oV_len hw (.tail _ (.head _))
  have hb := hw.cellBlk (b := B15) (.head _) (j := 0) rfl
  have hlt := ((hw.old _ (.head _)).2 B15 rfl).2
  obtain ⟨bo, oo, e1, hro⟩ := SlAt.all hsa (by omega)
  cases e1
  have hrk := hro k (by omega)
  clear hro hq1 hsa
  generalize O[k]'_ = b at *
  dsimp only [oV] at hrk
  refine enterA [(0, .int .i64 k), (1, .pointer (some ⟨B15, 0, none⟩))] Tryz.func62 Tryz.ntmps62 ?_
  all_goals (refine go ?_; and_intros <;> (try exact trivial) <;> repeat (first | refine fun (Bk : Nat) => ?_ | intro h))
  repeat' ((first | (apply G.ld; rfl; (apply LdV.one; exact CellV.old hb hlt); rfl)) <;> (refine go ?_; and_intros <;> (try exact trivial) <;> repeat (first | refine fun (Bk : Nat) => ?_ | intro h)))
  all_goals refine ret1b Tryz.func62 Tryz.results62 ?_
  all_goals rfl
theorem aNm_holds (w0 : World) (M : List Row) (w : World) (B3 : Nat) (la : Option Addr) (L : List Cm) (lc k : Nat) (hL : SlAt w0 la 5 (L.map cmV)) (hk : k < L.length) (hw : Sat w0 ([.blk B3 26 [.slice la L.length lc] 1] ++ M) w) :
    Calls Tryz.prog 66 (#[.int .i64 k] ++ #[.pointer (some ⟨B3, 0, none⟩)]) w fun e w' => e = .returned (qA (rQ (amK L k))) ∧ Below w.heap.size w w' := by
  have hb := hw.cellBlk (b := B3) (.head _) (j := 0) rfl
  have hlt := ((hw.old _ (.head _)).2 B3 rfl).2
  obtain ⟨bl, ol, rfl, hrl⟩ := SlAt.all (hL.below hw.below) (by omega)
  have hrk := hrl k hk
  rw [amK_at hk]
  rw [cmV, qF] at hrk
  clear hrl hL
  generalize rQ L[k].am = q at *
  obtain ⟨s1, u1, v1⟩ := q
  dsimp only [qV, qA] at *
  refine enterA [(0, .int .i64 k), (1, .pointer (some ⟨B3, 0, none⟩))] Tryz.func66 Tryz.ntmps66 ?_
  all_goals (refine go ?_; and_intros <;> (try exact trivial) <;> repeat (first | refine fun (Bk : Nat) => ?_ | intro h))
  repeat' ((first | (apply G.ld; rfl; (apply LdV.one; exact CellV.old hb hlt); rfl)) <;> (refine go ?_; and_intros <;> (try exact trivial) <;> repeat (first | refine fun (Bk : Nat) => ?_ | intro h)))
  all_goals refine ret1b Tryz.func66 Tryz.results66 ?_
  all_goals rfl
theorem lIs_holds (w : World) (k : Nat) : Calls Tryz.prog 120 (#[.int .i64 k] ++ #[]) w fun e w' => e = .returned (.bool true) ∧ Below w.heap.size w w' := by
  refine enterA [(0, .int .i64 k)] Tryz.func120 Tryz.ntmps120 ?_
  all_goals (refine go ?_; and_intros <;> (try exact trivial) <;> repeat (first | refine fun (Bk : Nat) => ?_ | intro h))
  all_goals refine ret1b Tryz.func120 Tryz.results120 ?_
  all_goals rfl
theorem lNm_holds (w0 : World) (M : List Row) (w : World) (B5 : Nat) (ta : Option Addr) (T : List Rat) (tc k : Nat) (hT : SlAt w0 ta 3 (T.map qF)) (hk : k < T.length) (hw : Sat w0 ([.blk B5 23 [.slice ta T.length tc] 1] ++ M) w) :
    Calls Tryz.prog 121 (#[.int .i64 k] ++ #[.pointer (some ⟨B5, 0, none⟩)]) w fun e w' => e = .returned (qA (rQ (fsq T k))) ∧ Below w.heap.size w w' := by
  have hb := hw.cellBlk (b := B5) (.head _) (j := 0) rfl
  have hlt := ((hw.old _ (.head _)).2 B5 rfl).2
  obtain ⟨bl, ol, rfl, hrl⟩ := SlAt.all (hT.below hw.below) (by omega)
  have hrk := hrl k hk
  rw [fsq_lt hk]
  rw [qF] at hrk
  clear hrl hT
  generalize rQ T[k] = q at *
  obtain ⟨s1, u1, v1⟩ := q
  dsimp only [qV, qA] at *
  refine enterA [(0, .int .i64 k), (1, .pointer (some ⟨B5, 0, none⟩))] Tryz.func121 Tryz.ntmps121 ?_
  all_goals (refine go ?_; and_intros <;> (try exact trivial) <;> repeat (first | refine fun (Bk : Nat) => ?_ | intro h))
  repeat' ((first | (apply G.ld; rfl; (apply LdV.one; exact CellV.old hb hlt); rfl)) <;> (refine go ?_; and_intros <;> (try exact trivial) <;> repeat (first | refine fun (Bk : Nat) => ?_ | intro h)))
  all_goals refine ret1b Tryz.func121 Tryz.results121 ?_
  all_goals rfl
/-! ### whether one is open -/
theorem indexB_holds (a : Option Addr) (O : List Bool) (c : Nat) (w : World) (hA : SlAt w a 1 (O.map oV)) (hl : O.length ≤ 1000000) :
    Calls Tryz.prog 129 #[.slice a O.length c, .bool true] w fun e w' => ∃ x : { x : Int // 0 ≤ x ↔ O.any id = true }, e = .returned (.int .i64 x.1) ∧ Below w.heap.size w w' := by
  refine enterA [(0, .slice a O.length c), (1, .bool true)] Tryz.func129 Tryz.ntmps129 ?_
  all_goals (refine go ?_; and_intros <;> (try exact trivial) <;> repeat (first | refine fun (Bk : Nat) => ?_ | intro h))
  refine J.loop (c := _) (0 : Nat) (fun s => O.length - s) (fun s => [(0, .slice a O.length c), (1, .bool true), (7, .int .i64 O.length), (8, .int .i64 s)]) (fun s => []) (fun s => s ≤ O.length ∧ ∀ i (h : i < O.length), i < s → O[i] = false) ?_ sbT sbL ?_
  · exact ⟨Nat.zero_le _, fun i h h2 => absurd h2 (Nat.not_lt_zero _)⟩
  intro k ⟨h1, h2⟩ ih
  by_cases hk : k < O.length
  · obtain ⟨ba, oa, rfl, hra⟩ := SlAt.all hA (by omega)
    have hr := hra k hk
    have ih := fun (h : O[k] = false) => ih (k + 1) ⟨hk, fun i hi h3 => by
      rcases Nat.lt_or_ge i k with h4 | h4
      · exact h2 i hi h4
      · obtain rfl : i = k := by omega
        exact h⟩ (by omega)
    have hyes : O[k] = true → O.any id = true := fun h => List.any_eq_true.2 ⟨_, List.getElem_mem hk, h⟩
    clear hra h2
    generalize O[k] = b at *
    dsimp only [oV] at hr
    cases b
    · have ih := ih rfl
      all_goals (refine go ?_; and_intros <;> (try exact trivial) <;> repeat (first | refine fun (Bk : Nat) => ?_ | intro h))
      exact J.fin ih
    · have hyes := hyes rfl
      all_goals (refine go ?_; and_intros <;> (try exact trivial) <;> repeat (first | refine fun (Bk : Nat) => ?_ | intro h))
      (refine ret1 Tryz.func129 Tryz.results129 ?_; intro w' hw)
      exact ⟨⟨k, fun _ => hyes, fun _ => by omega⟩, rfl, hw.below⟩
  · have hno : O.any id = false := by
      rw [List.any_eq_false]
      intro b hb hb2
      obtain ⟨i, hi, rfl⟩ := List.getElem_of_mem hb
      rw [h2 i hi (by omega)] at hb2; cases hb2
    clear ih
    all_goals (refine go ?_; and_intros <;> (try exact trivial) <;> repeat (first | refine fun (Bk : Nat) => ?_ | intro h))
    (refine ret1 Tryz.func129 Tryz.results129 ?_; intro w' hw)
    exact ⟨⟨-1, fun h => by omega, fun h => by rw [hno] at h; cases h⟩, rfl, hw.below⟩
theorem containsB_holds (a : Option Addr) (O : List Bool) (c : Nat) (w : World) (hA : SlAt w a 1 (O.map oV)) (hl : O.length ≤ 1000000) :
    Calls Tryz.prog 63 #[.slice a O.length c, .bool true] w fun e w' => e = .returned (.bool (O.any id)) ∧ Below w.heap.size w w' := by
  have hi := fun w' (hb : Below w.heap.size w w') => indexB_holds a O c w' (hA.below hb) hl
  generalize O.any id = b at *
  refine enterA [(0, .slice a O.length c), (1, .bool true)] Tryz.func63 Tryz.ntmps63 ?_
  all_goals (refine go ?_; and_intros <;> (try exact trivial) <;> repeat (first | refine fun (Bk : Nat) => ?_ | intro h))
  repeat' ((first | (refine G.cX (g := 129) (X := { x : Int // 0 ≤ x ↔ b = true }) (v := fun x => .int .i64 x.1) (fun w' hb => hi w' hb) ?_; rintro ⟨x, hx⟩; dsimp only)) <;> (refine go ?_; and_intros <;> (try exact trivial) <;> repeat (first | refine fun (Bk : Nat) => ?_ | intro h)))
  all_goals refine ret1b Tryz.func63 Tryz.results63 ?_
  all_goals
    cases b
    all_goals first
      | rfl
      | (exfalso; simp at hx; omega)
end Go.Proofs.YtcdgibkbbcekhaaGreatDoor
/-
  Contracts of rights: the ranks of claims, in order; slices of one's own that nobody writes any more.
-/
namespace Go.Sl
open Go.RowKit Go.Proofs.YtcdgibkbbcekhaaGreatDoor
variable {C : Ctx} {st : List (Nat × Value)} {M : List Row} {k : List Item}
theorem J.ownSlF {A : Type} {f : A → List Value} {base n c E sz : Nat} {a : Option Addr} {l : List A} {M' : List Row} (hf : ∀ x, (f x).length = sz) (hp : Pick (.own base (.slice a n c) E sz n (flat f l)) M M') (hn : l.length = n) (h : J C st (slRow C.w0.heap.size a sz (l.map f) :: M') k) : J C st M k := .mk fun ac w hfit hd hw => by
  have hw2 := hw.perm hp.perm
  have h1 := SlAt.ofOwn hf (hw2.hold _ (.head _)) hn
  refine h.go ac w hfit hd ((hw2.forget (List.sublist_cons_self _ _)).addSl h1 fun p hp2 r hr hl => ?_)
  subst hp2
  exact ((List.pairwise_cons.1 hw2.apart).1 r hr p.block).1 rfl (Row.lock_sup hl)
end Go.Sl
namespace Go.Proofs.YtcdgibkbbcekhaaGreatDoor
open Go.RowKit Go.Sl Go.Num
theorem keys_put (x : Int) (v : Value) : ∀ Ls : List (Int × Value), (putM x v Ls).map (·.1) = if x ∈ Ls.map (·.1) then Ls.map (·.1) else Ls.map (·.1) ++ [x]
  | [] => by simp [putM]
  | (y, u) :: r => by
    rw [putM]
    by_cases h : x = y
    · subst h; rw [if_pos rfl, if_pos (by simp)]; rfl
    · rw [if_neg h, List.map_cons, keys_put x v r]
      by_cases h2 : x ∈ r.map (·.1)
      · rw [if_pos h2, if_pos (by rw [List.map_cons]; exact List.mem_cons_of_mem _ h2)]; rfl
      · rw [if_neg h2, if_neg (by rw [List.map_cons, List.mem_cons]; exact fun h3 => h3.elim h h2)]; rfl
/-- Ks are the ranks of claims. -/
def RkIs (L : List Cm) (Ks : List Int) : Prop := ∀ x : Int, x ∈ Ks ↔ ∃ c ∈ L, (c.rk : Int) = x
theorem RkIs.next {L : List Cm} {k : Nat} (hk : k < L.length) {Ls : List (Int × Value)} (h : RkIs (L.take k) (Ls.map (·.1))) (v : Value) : RkIs (L.take (k + 1)) ((putM (L[k].rk : Int) v Ls).map (·.1)) := fun x => by
  have h1 : x ∈ (putM (L[k].rk : Int) v Ls).map (·.1) ↔ x ∈ Ls.map (·.1) ∨ x = L[k].rk := by
    rw [keys_put]
    split
    · rename_i h2
      exact ⟨.inl, fun h3 => h3.elim id fun e => e ▸ h2⟩
    · rw [List.mem_append, List.mem_singleton]
  have h2 : L.take (k + 1) = L.take k ++ [L[k]] := by rw [List.take_add_one, List.getElem?_eq_getElem hk]; rfl
  rw [h1, h x, h2]
  constructor
  · rintro (⟨c, hc, e⟩ | e)
    · exact ⟨c, List.mem_append_left _ hc, e⟩
    · exact ⟨L[k], List.mem_append_right _ (List.mem_singleton.2 rfl), e.symm⟩
  · rintro ⟨c, hc, e⟩
    rcases List.mem_append.1 hc with hc | hc
    · exact .inl ⟨c, hc, e⟩
    · rw [List.mem_singleton] at hc; subst hc
      exact .inr e.symm
/-- The rank behind the first i ones. -/
def nxR (S : List Int) (i : Nat) : Nat := if i = 0 then 0 else (S.getD (i - 1) 0).toNat + 1
structure RkSo (L : List Cm) (S : List Int) : Prop where
  lt : S.Pairwise (· < ·)
  mem : RkIs L S
theorem RkSo.of {L : List Cm} {S Ks : List Int} (h : RkIs L Ks) (hn : Ks.Nodup) (hp : S.Perm Ks) (hs : S.Pairwise (· ≤ ·)) : RkSo L S := by
  refine ⟨?_, fun x => by rw [hp.mem_iff]; exact h x⟩
  have h1 : S.Nodup := (hp.nodup_iff).2 hn
  have h2 := List.Pairwise.and hs h1
  exact h2.imp fun ⟨h3, h4⟩ => by omega
theorem RkSo.nn {L : List Cm} {S : List Int} (h : RkSo L S) {i : Nat} (hi : i < S.length) : 0 ≤ S[i] := by
  obtain ⟨c, _, e⟩ := (h.mem S[i]).1 (List.getElem_mem hi)
  omega
theorem RkSo.skip {L : List Cm} {S : List Int} (h : RkSo L S) {i : Nat} (hi : i < S.length) (R : List Rch) (Gs : List Rat) : allT R Gs L S[i].toNat = allT R Gs L (nxR S i) ∧ nxR S (i + 1) = S[i].toNat + 1 := by
  have hle : nxR S i ≤ S[i].toNat := by
    rw [nxR]
    split
    · exact Nat.zero_le _
    · have h1 := List.pairwise_iff_getElem.1 h.lt (i - 1) i (by omega) hi (by omega)
      have h2 := h.nn (i := i - 1) (by omega)
      rw [List.getD_eq_getElem?_getD, List.getElem?_eq_getElem (by omega), Option.getD_some]
      omega
  refine ⟨?_, ?_⟩
  · obtain ⟨d, hd⟩ : ∃ d, S[i].toNat = nxR S i + d := ⟨S[i].toNat - nxR S i, by omega⟩
    rw [hd]
    refine allT_skip _ _ fun c hc hr => ?_
    obtain ⟨j, hj, e⟩ := List.getElem_of_mem ((h.mem (c.rk : Int)).2 ⟨c, hc, rfl⟩)
    have h3 : S[j] < S[i] := by have := h.nn hi; omega
    have h4 : j < i := by
      apply Nat.lt_of_not_le
      intro h5
      rcases Nat.lt_or_ge i j with h6 | h6
      · have := List.pairwise_iff_getElem.1 h.lt i j hi hj h6; omega
      · obtain rfl : i = j := by omega
        omega
    have h5 : S[j] ≤ S[i - 1]'(by omega) := by
      rcases Nat.lt_or_ge j (i - 1) with h6 | h6
      · have := List.pairwise_iff_getElem.1 h.lt j (i - 1) hj (by omega) h6; omega
      · obtain rfl : j = i - 1 := by omega
        exact Int.le_refl _
    have h6 := hr.1
    rw [nxR, if_neg (by omega), List.getD_eq_getElem?_getD, List.getElem?_eq_getElem (by omega), Option.getD_some] at h6
    omega
  · rw [nxR, if_neg (by omega), Nat.add_sub_cancel, List.getD_eq_getElem?_getD, List.getElem?_eq_getElem hi, Option.getD_some]
theorem RkSo.fin {L : List Cm} {S : List Int} (h : RkSo L S) (hc : ∀ c ∈ L, c.rk ≤ 100) (R : List Rch) (Gs : List Rat) : allT R Gs L 101 = allT R Gs L (nxR S S.length) := by
  have hle : nxR S S.length ≤ 101 := by
    rw [nxR]
    split
    · exact Nat.zero_le _
    · obtain ⟨c, h1, h2⟩ := (h.mem (S[S.length - 1]'(by omega))).1 (List.getElem_mem _)
      have := hc c h1
      rw [List.getD_eq_getElem?_getD, List.getElem?_eq_getElem (by omega), Option.getD_some]
      omega
  obtain ⟨d, hd⟩ : ∃ d, 101 = nxR S S.length + d := ⟨101 - nxR S S.length, by omega⟩
  rw [hd]
  refine allT_skip _ _ fun c hc hr => ?_
  obtain ⟨j, hj, e⟩ := List.getElem_of_mem ((h.mem (c.rk : Int)).2 ⟨c, hc, rfl⟩)
  have h5 : S[j] ≤ S[S.length - 1]'(by omega) := by
    rcases Nat.lt_or_ge j (S.length - 1) with h6 | h6
    · have := List.pairwise_iff_getElem.1 h.lt j (S.length - 1) hj (by omega) h6; omega
    · obtain rfl : j = S.length - 1 := by omega
      exact Int.le_refl _
  have h6 := hr.1
  rw [nxR, if_neg (by omega), List.getD_eq_getElem?_getD, List.getElem?_eq_getElem (by omega), Option.getD_some] at h6
  omega
/-! ### a round -/
theorem zeroB (m : Nat) (N : List Bool) : flat (fun x : List Value => x) (List.replicate m [Value.bool false]) = flat oV (mixL N (List.replicate m false) 0) := by
  rw [mixL_zero]
  induction m with
  | zero => rfl
  | succ m ih => rw [List.replicate_succ, List.replicate_succ, flat_cons, flat_cons, ih]; rfl
/-- Whether a claim stays open, by the first i gauges of its way. -/
def stO (R : List Rch) (f : Nat → Rat) (p : Nat) (b : Bool) (i : Nat) : Bool := b && (List.range i).all fun j => decide (f (itr R j (p : Int)).toNat ≠ 0)
theorem stO_succ (R : List Rch) (f : Nat → Rat) (p : Nat) (b : Bool) (i : Nat) : stO R f p b (i + 1) = (stO R f p b i && decide (f (itr R i (p : Int)).toNat ≠ 0)) := by
  rw [stO, stO, List.range_succ, List.all_append, List.all_cons, List.all_nil, Bool.and_true, Bool.and_assoc]
theorem stO_end {R : List Rch} (hR : Riv R) {f : Nat → Rat} {p : Nat} (hp : p < R.length) (b : Bool) : stO R f p b (dpt R (p : Int)) = (b && !dryZ (onR R) R.length f p) := by
  rw [stO]
  congr 1
  rw [Bool.eq_iff_iff, List.all_eq_true, Bool.not_eq_true', dryZ, List.any_eq_false]
  have hm := fun g => mem_wayN hR hp (g := g)
  simp only [wayN, List.mem_map] at hm
  constructor
  · intro h g hg hc
    rw [Bool.and_eq_true, decide_eq_true_eq] at hc
    obtain ⟨j, h1, rfl⟩ := (hm g).2 hc.1
    exact of_decide_eq_true (h j h1) hc.2
  · intro h j hj
    have h1 := (hm _).1 ⟨j, hj, rfl⟩
    refine decide_eq_true fun hc => h _ (List.mem_range.2 (onR_lt hR hp h1)) ?_
    rw [h1, hc, decide_eq_true rfl]; rfl
end Go.Proofs.YtcdgibkbbcekhaaGreatDoor
