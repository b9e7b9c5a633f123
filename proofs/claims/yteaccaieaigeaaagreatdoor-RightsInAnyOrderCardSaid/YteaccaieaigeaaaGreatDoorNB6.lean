/-
  How arguments read: what all chapters share.
-/
import Derived.Test.YteaccaieaigeaaaGreatDoorNB5
import Derived.Test.YteaccaieaigeaaaGreatDoorRows
import Derived.ProofKit
set_option linter.unusedVariables false
set_option linter.unusedSimpArgs false
set_option linter.unusedSectionVars false
namespace Go.Proofs.YteaccaieaigeaaaGreatDoor
open Go.RowKit Go.Sl Go.Num Go.ChangeShapes Go.WideShapes
theorem own : ownKnob Tryz.prog.godebug = none := by kernel_rfl
theorem laidOut : laidOutB Tryz.prog = true := by kernel_rfl
theorem rInt : Reads Tryz.prog 3 isV (fun _ _ => True) := (Reads.int Tryz.underlying3).mono fun _ _ _ => trivial
theorem rStr : Reads Tryz.prog 9 (fun l : List UInt8 => [.string (bs l)]) (fun _ _ => True) := (Reads.string Tryz.underlying9).turn fun _ s _ => ⟨s.data.toList, by rw [bs_of], trivial⟩
theorem rBool : Reads Tryz.prog 4 (fun b : Bool => [.bool b]) (fun _ _ => True) := Reads.bool Tryz.underlying4
theorem rRat : Reads Tryz.prog 51 (fun a : Q3 => [.bool a.neg, .string (bs a.num), .string (bs a.den)]) (fun _ _ => True) := (Reads.struct3 (n := 3) Tryz.underlying51 (by kernel_rfl) (by kernel_rfl) rBool rStr rStr).turn fun _ a _ => ⟨⟨a.1, a.2.1, a.2.2⟩, rfl, trivial⟩
theorem rInts : Reads Tryz.prog 42 (fun s : Sld Int => [s.v]) (fun w s => SlAt w s.ad 1 (s.l.map isV) ∧ s.l.length ≤ s.cap) := (Reads.slice (sz := 1) Tryz.underlying42 (by kernel_rfl) (by decide) rInt).mono fun _ _ h => ⟨h.1, h.2.1⟩
abbrev laidL : List (String × DataW Unit) := [("unicode/utf8.acceptRanges", Rows.laid_unicode_utf8_acceptRanges), ("unicode/utf8.first", Rows.laid_unicode_utf8_first)]
theorem rU8 : Reads Tryz.prog 5 (fun n : Nat => [.int .u8 n]) (fun _ n => n ≤ 255) := (Reads.int Tryz.underlying5).turn fun _ n h => by
  have h2 : 0 ≤ n ∧ n ≤ 255 := by rw [Lit.wf, Bool.and_eq_true, decide_eq_true_eq, decide_eq_true_eq] at h; exact h
  exact ⟨n.toNat, by rw [Int.toNat_of_nonneg h2.1], by omega⟩
theorem rRats : Reads Tryz.prog 23 (fun s : Sld Q3 => [s.v]) (fun w s => SlAt w s.ad 3 (s.l.map fun a => [.bool a.neg, .string (bs a.num), .string (bs a.den)])) := (Reads.slice (sz := 3) Tryz.underlying23 (by kernel_rfl) (by decide) rRat).mono fun _ _ h => h.1
end Go.Proofs.YteaccaieaigeaaaGreatDoor
/-
  Plain laws of kernels: totals, reduced lists, products.
-/
namespace Go.Proofs.YteaccaieaigeaaaGreatDoor
open Go.Num
/-! ### totals -/
def sumL : List Int → Int
  | [] => 0
  | x :: r => x + sumL r
def badW (w : Int) : Bool := decide (w < 0) || decide (999999999999999 < w)
/-- The error of a kernel. -/
def kerErr (k : List Int) : Int := if k.length < 1 ∨ 400 < k.length then 2 else if k.any badW = true then 3 else if 999999999999999 < sumL k then 3 else if sumL k = 0 then 1 else 0
structure Ker (k : List Int) : Prop where
  len : 1 ≤ k.length ∧ k.length ≤ 400
  nn : ∀ w ∈ k, 0 ≤ w ∧ w ≤ 999999999999999
  sum : 0 < sumL k ∧ sumL k ≤ 999999999999999
theorem sumL_nn : ∀ {k : List Int}, (∀ w ∈ k, 0 ≤ w) → 0 ≤ sumL k
  | [], _ => Int.le_refl _
  | x :: r, h => by
    have := sumL_nn fun w hw => h w (List.mem_cons_of_mem x hw)
    have := h x (List.mem_cons_self ..)
    rw [sumL]; omega
theorem ker_of {k : List Int} (h : kerErr k = 0) : Ker k := by
  rw [kerErr] at h
  split at h
  · cases h
  · split at h
    · cases h
    · rename_i h1 h2
      have h3 : ∀ w ∈ k, 0 ≤ w ∧ w ≤ 999999999999999 := fun w hw => by
        rw [Bool.not_eq_true] at h2
        have := List.any_eq_false.1 h2 w hw
        rw [badW, Bool.or_eq_true, decide_eq_true_eq, decide_eq_true_eq, not_or] at this
        omega
      split at h
      · cases h
      · split at h
        · cases h
        · rename_i h4 h5
          have := sumL_nn fun w hw => (h3 w hw).1
          exact ⟨by omega, h3, by omega⟩
/-! ### the greatest common divisor, and the last weight -/
def co (l : List Int) (i : Nat) : Int := l.getD i 0
/-- A list of weights that are not negative, some of them positive. -/
def Pos (l : List Int) : Prop := (∀ w ∈ l, 0 ≤ w) ∧ ∃ w ∈ l, 0 < w
theorem sum_pos : ∀ {l : List Int}, (∀ w ∈ l, 0 ≤ w) → 0 < sumL l → ∃ w ∈ l, 0 < w
  | [], _, h => absurd h (Int.lt_irrefl _)
  | x :: r, h, h2 => by
    by_cases hx : 0 < x
    · exact ⟨x, List.mem_cons_self .., hx⟩
    · rw [sumL] at h2
      have := h x (List.mem_cons_self ..)
      obtain ⟨w, h3, h4⟩ := sum_pos (l := r) (fun w hw => h w (List.mem_cons_of_mem _ hw)) (by omega)
      exact ⟨w, List.mem_cons_of_mem _ h3, h4⟩
theorem Ker.pos {l : List Int} (h : Ker l) : Pos l := ⟨fun w hw => (h.nn w hw).1, sum_pos (fun w hw => (h.nn w hw).1) h.sum.1⟩
end Go.Proofs.YteaccaieaigeaaaGreatDoor
/-
  Plain laws of kernels: products, and parts of what passes.
-/
namespace Go.Proofs.YteaccaieaigeaaaGreatDoor
open Go.Num
/-! ### sequences -/
/-! ### products of lists, as they are reckoned in place -/
def sq (l : List Int) (i : Nat) : Rat := ((co l i : Int) : Rat)
/-! ### sums of products -/
/-! ### reduced lists -/
/-- The part of what passes that arrives after i ticks. -/
def pk (l : List Int) (i : Nat) : Rat := sq l i / ((sumL l : Int) : Rat)
theorem rat_ne {n : Int} (h : 0 < n) : ((n : Int) : Rat) ≠ 0 := fun e => by
  have := Rat.intCast_inj.1 (show ((n : Int) : Rat) = ((0 : Int) : Rat) from e)
  omega
end Go.Proofs.YteaccaieaigeaaaGreatDoor
/-
  Plain laws of rivers: the way down.
-/
namespace Go.Proofs.YteaccaieaigeaaaGreatDoor
open Go.RowKit Go.Sl Go.Num
/-- A gauge with its way down, and its kernel. -/
structure Rch where
  dn : Int
  ws : List Int
  adr : Option Addr
  cap : Nat
def rcV (r : Rch) : List Value := [.int .i64 r.dn, .slice r.adr r.ws.length r.cap]
theorem rcV_len (r : Rch) : (rcV r).length = 2 := rfl
/-- The gauge below one; -1 if there is none. -/
def dnOf (l : List Rch) (g : Int) : Int := if g < 0 then -1 else match l[g.toNat]? with
  | some r => r.dn
  | none => -1
theorem dnOf_at {l : List Rch} {g : Nat} (h : g < l.length) : dnOf l (g : Int) = l[g].dn := by
  rw [dnOf, if_neg (by omega), Int.toNat_natCast, List.getElem?_eq_getElem h]
theorem dnOf_neg {l : List Rch} {g : Int} (h : g < 0) : dnOf l g = -1 := by rw [dnOf, if_pos h]
/-- After k steps down. -/
def itr (l : List Rch) : Nat → Int → Int
  | 0, g => g
  | k + 1, g => itr l k (dnOf l g)
theorem itr_neg {l : List Rch} : ∀ {k : Nat} {g : Int}, g < 0 → itr l k g < 0
  | 0, _, h => h
  | k + 1, g, h => by rw [itr, dnOf_neg h]; exact itr_neg (by decide)
theorem itr_add (l : List Rch) : ∀ (j k : Nat) (g : Int), itr l (j + k) g = itr l k (itr l j g)
  | 0, k, g => by rw [Nat.zero_add, itr]
  | j + 1, k, g => by rw [Nat.succ_add, itr, itr, itr_add l j k]
theorem itr_succ (l : List Rch) (k : Nat) (g : Int) : itr l (k + 1) g = dnOf l (itr l k g) := by rw [itr_add l k 1 g]; rfl
def badR1 (n : Nat) (g : Nat) (r : Rch) : Int := if r.dn < -1 ∨ (n : Int) ≤ r.dn then 3 else if r.dn = g ∨ (r.dn < 0 ∧ 0 < r.ws.length) ∨ (0 ≤ r.dn ∧ kerErr r.ws ≠ 0) then 1 else 0
def badRs (n : Nat) : Nat → List Rch → Int
  | _, [] => 0
  | g, r :: t => if badR1 n g r ≠ 0 then badR1 n g r else badRs n (g + 1) t
/-- The error of a river. -/
def rivErr (l : List Rch) : Int := if 40 < l.length then 2 else if badRs l.length 0 l ≠ 0 then badRs l.length 0 l else if (List.range l.length).all (fun g : Nat => decide (itr l l.length g < 0)) = true then 0 else 4
structure Riv (l : List Rch) : Prop where
  len : l.length ≤ 40
  rng : ∀ g (hg : g < l.length), -1 ≤ l[g].dn ∧ l[g].dn < l.length
  ne : ∀ g (hg : g < l.length), l[g].dn ≠ g
  ker : ∀ g (hg : g < l.length), 0 ≤ l[g].dn → kerErr l[g].ws = 0
  nil : ∀ g (hg : g < l.length), l[g].dn < 0 → l[g].ws = []
  fin : ∀ g, g < l.length → itr l l.length (g : Int) < 0
theorem badRs_ok {n : Nat} : ∀ {l : List Rch} {g : Nat}, badRs n g l = 0 → ∀ i (hi : i < l.length), badR1 n (g + i) l[i] = 0
  | r :: t, g, h, i, hi => by
    rw [badRs] at h
    split at h
    · rename_i h1; exact absurd h h1
    · rename_i h1
      cases i with
      | zero => exact Decidable.not_not.1 h1
      | succ i =>
        have := badRs_ok h i (by simpa using hi)
        rw [show g + (i + 1) = g + 1 + i by omega]; exact this
theorem riv_of {l : List Rch} (h : rivErr l = 0) : Riv l := by
  rw [rivErr] at h
  split at h
  · cases h
  · split at h
    · rename_i h1; exact absurd h h1
    · rename_i h1 h2
      split at h
      · rename_i h3
        have h4 := badRs_ok (Decidable.not_not.1 h2)
        have h5 : ∀ g (hg : g < l.length), badR1 l.length g l[g] = 0 := fun g hg => by have := h4 g hg; rwa [Nat.zero_add] at this
        have h6 : ∀ g (hg : g < l.length), ¬ (l[g].dn < -1 ∨ (l.length : Int) ≤ l[g].dn) ∧ ¬ (l[g].dn = g ∨ (l[g].dn < 0 ∧ 0 < l[g].ws.length) ∨ (0 ≤ l[g].dn ∧ kerErr l[g].ws ≠ 0)) := fun g hg => by
          have := h5 g hg
          rw [badR1] at this
          split at this
          · cases this
          · split at this
            · cases this
            · exact ⟨by assumption, by assumption⟩
        refine ⟨by omega, fun g hg => ?_, fun g hg => ?_, fun g hg h7 => ?_, fun g hg h7 => ?_, fun g hg => ?_⟩
        · have := (h6 g hg).1; omega
        · exact fun e => (h6 g hg).2 (.inl e)
        · by_cases h8 : kerErr l[g].ws = 0
          · exact h8
          · exact absurd (.inr (.inr ⟨h7, h8⟩)) (h6 g hg).2
        · by_cases h8 : 0 < l[g].ws.length
          · exact absurd (.inr (.inl ⟨h7, h8⟩)) (h6 g hg).2
          · exact List.length_eq_zero_iff.1 (by omega)
        · exact of_decide_eq_true (List.all_eq_true.1 h3 g (List.mem_range.2 hg))
      · cases h
theorem Riv.dn {l : List Rch} (h : Riv l) {g : Int} (h0 : 0 ≤ g) (h1 : g < l.length) : -1 ≤ dnOf l g ∧ dnOf l g < l.length ∧ dnOf l g ≠ g := by
  obtain ⟨k, rfl⟩ : ∃ k : Nat, g = k := ⟨g.toNat, by omega⟩
  rw [dnOf_at (by omega)]
  have := h.rng k (by omega)
  have := h.ne k (by omega)
  omega
/-- As long as there are gauges, they are gauges of the river. -/
theorem Riv.in_ {l : List Rch} (h : Riv l) : ∀ (k : Nat) {g : Int}, g < l.length → -1 ≤ g → -1 ≤ itr l k g ∧ itr l k g < l.length
  | 0, g, h1, h2 => ⟨h2, h1⟩
  | k + 1, g, h1, h2 => by
    rw [itr]
    by_cases h0 : g < 0
    · rw [dnOf_neg h0]
      have h3 : itr l k (-1) < 0 := itr_neg (by decide)
      refine Riv.in_ h k (by omega) (by decide)
    · have := h.dn (by omega) h1
      exact h.in_ k this.2.1 this.1
/-- How many gauges there are from one on down. -/
def dpt (l : List Rch) (g : Int) : Nat := ((List.range (l.length + 1)).find? fun k => decide (itr l k g < 0)).getD 0
theorem Riv.end_ {l : List Rch} (h : Riv l) {g : Int} (h1 : g < l.length) : itr l l.length g < 0 := by
  by_cases h0 : g < 0
  · exact itr_neg h0
  · obtain ⟨k, rfl⟩ : ∃ k : Nat, g = k := ⟨g.toNat, by omega⟩
    exact h.fin k (by omega)
theorem Riv.dep {l : List Rch} (h : Riv l) {g : Int} (h1 : g < l.length) : itr l (dpt l g) g < 0 ∧ dpt l g ≤ l.length ∧ ∀ k, k < dpt l g → 0 ≤ itr l k g := by
  rw [dpt]
  cases hf : (List.range (l.length + 1)).find? fun k => decide (itr l k g < 0) with
  | none =>
    rw [List.find?_eq_none] at hf
    have := hf l.length (List.mem_range.2 (by omega))
    exact absurd (decide_eq_true (h.end_ h1)) this
  | some k =>
    have h2 := List.find?_some hf
    have h3 := List.mem_of_find?_eq_some hf
    rw [List.find?_range_eq_some] at hf
    dsimp only [Option.getD_some]
    rw [List.mem_range] at h3
    refine ⟨of_decide_eq_true h2, by omega, fun j hj => ?_⟩
    have := hf.2.2 j hj
    simp only [Bool.not_eq_true', decide_eq_false_iff_not] at this
    omega
theorem Riv.ddn {l : List Rch} (h : Riv l) {g : Int} (h0 : 0 ≤ g) (h1 : g < l.length) : dpt l g = dpt l (dnOf l g) + 1 := by
  have h2 := h.dep h1
  have h3 := h.dep (h.dn h0 h1).2.1
  have h4 : 0 < dpt l g := by
    rcases Nat.eq_zero_or_pos (dpt l g) with h5 | h5
    · have := h2.1; rw [h5, itr] at this; omega
    · exact h5
  obtain ⟨d, hd⟩ : ∃ d, dpt l g = d + 1 := ⟨dpt l g - 1, by omega⟩
  rw [hd] at h2 ⊢
  have h5 := h2.1
  rw [itr] at h5
  rcases Nat.lt_trichotomy d (dpt l (dnOf l g)) with h6 | h6 | h6
  · have := h3.2.2 d h6; omega
  · rw [h6]
  · have := h2.2.2 (dpt l (dnOf l g) + 1) (by omega)
    rw [itr] at this
    have := h3.1; omega
end Go.Proofs.YteaccaieaigeaaaGreatDoor
/-
  Plain laws of rivers: a way that is too long never ends; paths.
-/
namespace Go.Proofs.YteaccaieaigeaaaGreatDoor
open Go.RowKit Go.Sl Go.Num
theorem nodup_le : ∀ (n : Nat) (L : List Nat), L.Nodup → (∀ x ∈ L, x < n) → L.length ≤ n
  | 0, [], _, _ => Nat.le_refl _
  | 0, x :: L, _, h => absurd (h x (List.mem_cons_self ..)) (Nat.not_lt_zero _)
  | n + 1, L, h, hl => by
    by_cases hn : n ∈ L
    · have h1 := nodup_le n (L.erase n) (h.erase n) fun x hx => by
        have h2 := (List.Nodup.mem_erase_iff h).1 hx
        have := hl x h2.2
        have := h2.1
        omega
      rw [List.length_erase_of_mem hn] at h1
      omega
    · have := nodup_le n L h fun x hx => by
        have := hl x hx
        have : x ≠ n := fun e => hn (e ▸ hx)
        omega
      omega
/-- Rivers of which all ways lead to gauges. -/
def InR (l : List Rch) : Prop := ∀ g (hg : g < l.length), -1 ≤ l[g].dn ∧ l[g].dn < l.length
theorem InR.in_ {l : List Rch} (h : InR l) : ∀ (k : Nat) {g : Int}, g < l.length → -1 ≤ g → -1 ≤ itr l k g ∧ itr l k g < l.length
  | 0, g, h1, h2 => ⟨h2, h1⟩
  | k + 1, g, h1, h2 => by
    rw [itr]
    by_cases h0 : g < 0
    · rw [dnOf_neg h0]
      exact InR.in_ h k (by omega) (by decide)
    · obtain ⟨j, rfl⟩ : ∃ j : Nat, g = j := ⟨g.toNat, by omega⟩
      rw [dnOf_at (by omega)]
      have := h j (by omega)
      exact h.in_ k this.2 this.1
theorem itr_pos {l : List Rch} {j k : Nat} {g : Int} (h : 0 ≤ itr l k g) (hj : j ≤ k) : 0 ≤ itr l j g := by
  rcases Int.lt_or_le (itr l j g) 0 with h1 | h1
  · have := itr_add l j (k - j) g
    rw [show j + (k - j) = k by omega] at this
    have h2 := itr_neg (l := l) (k := k - j) h1
    omega
  · exact h1
/-- A way of more gauges than there are goes around. -/
theorem itr_round {l : List Rch} (h : InR l) {g : Int} (h1 : g < l.length) (h2 : 0 ≤ itr l l.length g) : ∀ k, 0 ≤ itr l k g := by
  have h0 : 0 ≤ g := itr_pos (j := 0) h2 (Nat.zero_le _)
  have hin : ∀ k, k ≤ l.length → 0 ≤ itr l k g ∧ itr l k g < l.length := fun k hk => ⟨itr_pos h2 hk, (h.in_ k h1 (by omega)).2⟩
  have hex : ∃ i j, i < j ∧ j ≤ l.length ∧ itr l i g = itr l j g := by
    by_cases hc : ∃ i j, i < j ∧ j ≤ l.length ∧ itr l i g = itr l j g
    · exact hc
    · have hnd : ((List.range (l.length + 1)).map fun k => (itr l k g).toNat).Nodup := by
        rw [List.Nodup, List.pairwise_map]
        refine List.Pairwise.imp_of_mem (R := fun a b => a < b) (fun {a b} ha hb hab e => ?_) List.pairwise_lt_range
        rw [List.mem_range] at ha hb
        have := hin a (by omega)
        have := hin b (by omega)
        exact hc ⟨a, b, hab, by omega, by omega⟩
      have := nodup_le l.length _ hnd fun x hx => by
        obtain ⟨k, hk, rfl⟩ := List.mem_map.1 hx
        rw [List.mem_range] at hk
        have := hin k (by omega)
        omega
      rw [List.length_map, List.length_range] at this
      omega
  obtain ⟨i, j, hij, hj, e⟩ := hex
  have hper : ∀ k, itr l (i + k) g = itr l (j + k) g := fun k => by rw [itr_add, itr_add l j, e]
  intro k
  induction k using Nat.strongRecOn with
  | _ k ih =>
    rcases Nat.lt_or_ge l.length k with hk | hk
    · have := hper (k - j)
      rw [show j + (k - j) = k by omega] at this
      rw [← this]
      exact ih _ (by omega)
    · exact (hin k hk).1
def aboveL (l : List Rch) (g : Int) : List Int := ((List.range l.length).filter fun k : Nat => decide (dnOf l k = g)).map fun k : Nat => (k : Int)
end Go.Proofs.YteaccaieaigeaaaGreatDoor
/-
  Plain laws of rivers: paths as steps, kernels along paths.
-/
namespace Go.Proofs.YteaccaieaigeaaaGreatDoor
open Go.RowKit Go.Sl Go.Num
theorem Riv.dpt_itr {l : List Rch} (h : Riv l) : ∀ (i : Nat) {g : Int}, g < l.length → -1 ≤ g → 0 ≤ itr l i g → dpt l (itr l i g) + i = dpt l g
  | 0, _, _, _, _ => rfl
  | i + 1, g, h1, h2, h3 => by
    rw [itr] at h3 ⊢
    by_cases h0 : g < 0
    · rw [dnOf_neg h0] at h3
      have : itr l i (-1) < 0 := itr_neg (by decide)
      omega
    · have h4 := h.dn (by omega) h1
      have h5 := h.dpt_itr i h4.2.1 h4.1 h3
      have h6 := h.ddn (by omega) h1
      omega
theorem Riv.inj {l : List Rch} (h : Riv l) {g : Int} (h1 : g < l.length) (h2 : -1 ≤ g) {i j : Nat} (h3 : itr l i g = itr l j g) (h4 : 0 ≤ itr l i g) : i = j := by
  have e1 := h.dpt_itr i h1 h2 h4
  have e2 := h.dpt_itr j h1 h2 (by omega)
  rw [h3] at e1
  omega
/-! ### kernels along a way -/
def ker1 (l : List Rch) (g : Int) : List Int := if g < 0 then [] else match l[g.toNat]? with
  | some r => r.ws
  | none => []
end Go.Proofs.YteaccaieaigeaaaGreatDoor
/-
  Plain laws of rivers: an order in which each gauge comes before its way down.
-/
namespace Go.Proofs.YteaccaieaigeaaaGreatDoor
open Go.RowKit Go.Sl Go.Num
structure Ordd (l : List Rch) (out : List Int) : Prop where
  nd : out.Nodup
  rng : ∀ x ∈ out, 0 ≤ x ∧ x < l.length
  up : ∀ p (hp : p < out.length), ∀ u ∈ aboveL l out[p], u ∈ out.take p
end Go.Proofs.YteaccaieaigeaaaGreatDoor
/-
  Plain laws of what arrives: weights by ticks.
-/
namespace Go.Proofs.YteaccaieaigeaaaGreatDoor
open Go.RowKit Go.Sl Go.Num
/-! ### ticks with one weight together -/
abbrev Prt := Int × Int × Int
def addP (out : List Prt) (t w : Int) : List Prt := if w = 0 then out else match out.getLast? with
  | none => [(t, t + 1, w)]
  | some p => if p.2.1 = t ∧ p.2.2 = w then out.dropLast ++ [(p.1, t + 1, w)] else out ++ [(t, t + 1, w)]
structure Prts (W : Int → Int) (t0 t : Int) (out : List Prt) : Prop where
  ord : out.Pairwise fun p q => p.2.1 ≤ q.1
  mem : ∀ p ∈ out, t0 ≤ p.1 ∧ p.1 < p.2.1 ∧ p.2.1 ≤ t ∧ ∀ s, p.1 ≤ s → s < p.2.1 → W s = p.2.2 ∧ p.2.2 ≠ 0
  at_ : ∀ s, t0 ≤ s → s < t → W s ≠ 0 → ∃ p ∈ out, p.1 ≤ s ∧ s < p.2.1
theorem Prts.nil (W : Int → Int) (t : Int) : Prts W t t [] := ⟨.nil, fun p h => by (cases h), fun s h1 h2 => by omega⟩
theorem Prts.add {W : Int → Int} {t0 t : Int} {out : List Prt} (h : Prts W t0 t out) (h0 : t0 ≤ t) : Prts W t0 (t + 1) (addP out t (W t)) := by
  rw [addP]
  by_cases hw : W t = 0
  · rw [if_pos hw]
    refine ⟨h.ord, fun p hp => ?_, fun s h1 h2 h3 => ?_⟩
    · have := h.mem p hp; exact ⟨this.1, this.2.1, by omega, this.2.2.2⟩
    · refine h.at_ s h1 ?_ h3
      by_cases e : s = t
      · subst e; exact absurd hw h3
      · omega
  rw [if_neg hw]
  have hnew : ∀ o : List Prt, Prts W t0 t o → Prts W t0 (t + 1) (o ++ [(t, t + 1, W t)]) := fun o h => by
    refine ⟨?_, fun p hp => ?_, fun s h1 h2 h3 => ?_⟩
    · rw [List.pairwise_append]
      refine ⟨h.ord, List.pairwise_singleton .., fun a ha b hb => ?_⟩
      rw [List.mem_singleton.1 hb]
      exact (h.mem a ha).2.2.1
    · rcases List.mem_append.1 hp with hp | hp
      · have := h.mem p hp; exact ⟨this.1, this.2.1, by omega, this.2.2.2⟩
      · rw [List.mem_singleton.1 hp]
        refine ⟨h0, by dsimp only; omega, Int.le_refl _, fun s h1 h2 => ?_⟩
        dsimp only at h1 h2 ⊢
        obtain rfl : s = t := by omega
        exact ⟨rfl, hw⟩
    · by_cases e : s = t
      · exact ⟨_, List.mem_append_right _ (List.mem_singleton.2 rfl), by dsimp only; omega, by dsimp only; omega⟩
      · obtain ⟨p, hp, h4⟩ := h.at_ s h1 (by omega) h3
        exact ⟨p, List.mem_append_left _ hp, h4⟩
  rcases nil_or_snoc out with rfl | ⟨o, p, rfl⟩
  · exact hnew [] h
  · rw [List.getLast?_concat]
    dsimp only
    by_cases hp : p.2.1 = t ∧ p.2.2 = W t
    · rw [if_pos hp, List.dropLast_concat]
      have hord := List.pairwise_append.1 h.ord
      have hpm := h.mem p (List.mem_append_right _ (List.mem_singleton.2 rfl))
      refine ⟨?_, fun q hq => ?_, fun s h1 h2 h3 => ?_⟩
      · rw [List.pairwise_append]
        refine ⟨hord.1, List.pairwise_singleton .., fun a ha b hb => ?_⟩
        rw [List.mem_singleton.1 hb]
        exact hord.2.2 a ha p (List.mem_singleton.2 rfl)
      · rcases List.mem_append.1 hq with hq | hq
        · have := h.mem q (List.mem_append_left _ hq); exact ⟨this.1, this.2.1, by omega, this.2.2.2⟩
        · rw [List.mem_singleton.1 hq]
          refine ⟨hpm.1, by dsimp only; omega, Int.le_refl _, fun s h1 h2 => ?_⟩
          dsimp only at h1 h2 ⊢
          by_cases e : s = t
          · subst e; exact ⟨rfl, hw⟩
          · have := hpm.2.2.2 s h1 (by omega)
            exact ⟨this.1.trans hp.2, hw⟩
      · by_cases e : s = t
        · exact ⟨_, List.mem_append_right _ (List.mem_singleton.2 rfl), by dsimp only; omega, by dsimp only; omega⟩
        · obtain ⟨q, hq, h4⟩ := h.at_ s h1 (by omega) h3
          rcases List.mem_append.1 hq with hq | hq
          · exact ⟨q, List.mem_append_left _ hq, h4⟩
          · rw [List.mem_singleton.1 hq] at h4
            exact ⟨_, List.mem_append_right _ (List.mem_singleton.2 rfl), h4.1, by dsimp only; omega⟩
    · rw [if_neg hp]; exact hnew _ h
end Go.Proofs.YteaccaieaigeaaaGreatDoor
/-
  Plain laws of routing: what arrives in an interval is the sum of the flows, each with its weight.
-/
namespace Go.Proofs.YteaccaieaigeaaaGreatDoor
open Go.RowKit Go.Sl Go.Num
def fsq (l : List Rat) (i : Nat) : Rat := l.getD i 0
end Go.Proofs.YteaccaieaigeaaaGreatDoor
/-
  Plain laws of rivers: the kernel along a way is that of both its parts.
-/
namespace Go.Proofs.YteaccaieaigeaaaGreatDoor
open Go.RowKit Go.Sl Go.Num
theorem Riv.pos {l : List Rch} (h : Riv l) {g : Int} (h1 : 0 ≤ g ∧ g < l.length) (h2 : 0 ≤ dnOf l g) : Pos (ker1 l g) ∧ kerErr (ker1 l g) = 0 := by
  obtain ⟨k, rfl⟩ : ∃ k : Nat, g = k := ⟨g.toNat, by omega⟩
  have hk : k < l.length := by omega
  rw [dnOf_at hk] at h2
  rw [ker1, if_neg (by omega), Int.toNat_natCast, List.getElem?_eq_getElem hk]
  exact ⟨(ker_of (h.ker k hk h2)).pos, h.ker k hk h2⟩
end Go.Proofs.YteaccaieaigeaaaGreatDoor
