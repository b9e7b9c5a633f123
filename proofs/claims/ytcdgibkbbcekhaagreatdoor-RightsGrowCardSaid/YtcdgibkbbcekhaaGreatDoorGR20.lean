/-
  The law RightsAreServed.
-/
import Derived.Test.YtcdgibkbbcekhaaGreatDoorGR19
set_option linter.unusedVariables false
set_option linter.unusedSimpArgs false
set_option linter.unusedSectionVars false
namespace Go.Proofs.YtcdgibkbbcekhaaGreatDoor
open Go.RowKit Go.Sl Go.Num
theorem smallB_ok {R : List Rch} {Gs : List Q3} {L : List Clm} (h : smallB R Gs L = true) : R.length ≤ 12 ∧ L.length ≤ 20 ∧ Gs.length = R.length ∧ (∀ q ∈ Gs, fewQ 20 q) ∧ (∀ c ∈ L, fewQ 20 c.am) ∧ rgtE R Gs L = 0 := by
  rw [smallB, Bool.and_eq_true, Bool.and_eq_true, Bool.and_eq_true, decide_eq_true_eq, decide_eq_true_eq] at h
  obtain ⟨⟨h1, h2, h3⟩, h4, h5, h6⟩ := h
  exact ⟨h1, h3, h2, (briefB_few.1 h4).2, fun c hc => (briefB_few.1 h5).2 _ (List.mem_map.2 ⟨c, hc, rfl⟩), h6⟩
theorem smallB_arg {w : World} {ra : Option Addr} {R : List Rch} {ga : Option Addr} {Gs : List Q3} {la : Option Addr} {L : List Clm} (hS : SupAt w ra R ga (Gs.map qV)) (hL : SlAt w la 5 (L.map clV)) (h : smallB R Gs L = true) : Arg w ra R ga Gs la L ∧ Lim R Gs L := by
  obtain ⟨h1, h2, h3, h4, h5, h6⟩ := smallB_ok h
  exact ⟨⟨hS, hL, fun q hq => fewQ_le (h4 q hq) (by decide), fun c hc => fewQ_le (h5 c hc) (by decide), by omega, by omega⟩, fun _ => ⟨h1, h2⟩⟩
theorem RetQ.len {F : Value → Value} {w w' : World} {L : List Rat} {n : Nat} {e : Ending} (hn : L.length = n) (h : RetQ F w L e w') : ∃ a' c', e = .returned (F (.slice a' n c')) ∧ SlAt w' a' 3 (L.map qF) ∧ (∀ p, a' = some p → w.heap.size ≤ p.block) ∧ Below w.heap.size w w' := by subst hn; exact h
theorem RetI.len {F : Value → Value} {w w' : World} {L : List Int} {n : Nat} {e : Ending} (hn : L.length = n) (h : RetI F w L e w') : ∃ a' c', e = .returned (F (.slice a' n c')) ∧ SlAt w' a' 1 (L.map isV) ∧ (∀ p, a' = some p → w.heap.size ≤ p.block) ∧ Below w.heap.size w w' := by subst hn; exact h
end Go.Proofs.YtcdgibkbbcekhaaGreatDoor
/-
  Plain laws of rights: claims in another order.
-/
namespace Go.Proofs.YtcdgibkbbcekhaaGreatDoor
open Go.RowKit Go.Sl Go.Num
theorem clmsE_all {n : Nat} : ∀ {L : List Clm}, (∀ c ∈ L, clmE n c = 0) → clmsE n L = 0
  | [], _ => rfl
  | c :: L, h => by rw [clmsE, if_neg (not_not_intro (h c (.head _))), clmsE_all fun x hx => h x (.tail _ hx)]
theorem rgtE_sub {R : List Rch} {Gs : List Q3} {L L' : List Clm} (h : rgtE R Gs L = 0) (hs : ∀ c ∈ L', c ∈ L) (hl : L'.length ≤ 200) : rgtE R Gs L' = 0 := by
  obtain ⟨h1, h2, h3⟩ := rgtE_ok h
  rw [rgtE, if_neg (not_not_intro h1), if_neg (by omega)]
  exact clmsE_all fun c hc => clmsE_ok h3 c (hs c hc)
theorem Arg.one {w : World} {ra : Option Addr} {R : List Rch} {ga : Option Addr} {Gs : List Q3} {la : Option Addr} {L : List Clm} (hA : Arg w ra R ga Gs la L) (h0 : rgtE R Gs L = 0) (hl : Lim R Gs L) {T : List Rat} (h1 : T.length = L.length) (hf : Fair (onR R) R.length (fsq (Gs.map qR)) ((L.map cmO).zip T)) : allR R Gs L = (T, 0) := by
  obtain ⟨o1, o2, o3, o4⟩ := hA.ok h0
  rw [allR, if_neg (not_not_intro h0), ← all_one (hA.alo h0 hl) o1 o3 (by rw [List.length_map]; exact h1) hf]
/-! ### chosen places -/
end Go.Proofs.YtcdgibkbbcekhaaGreatDoor
/-
  The law RightsInAnyOrder.
-/
namespace Go.Proofs.YtcdgibkbbcekhaaGreatDoor
open Go.RowKit Go.Sl Go.Num
theorem satOC {w0 w : World} {M : List Row} {E base : Nat} {a : Option Addr} {n c : Nat} {L : List Clm} (hw : Sat w0 M w) (hm : Row.own base (.slice a n c) E 5 n (flat clV L) ∈ M) (hn : L.length = n) : SlAt w a 5 (L.map clV) := SlAt.ofOwn (fun _ => rfl) (hw.hold _ hm) hn
theorem satOF {w0 w : World} {M : List Row} {E base : Nat} {a : Option Addr} {n c : Nat} {L : List Rat} (hw : Sat w0 M w) (hm : Row.own base (.slice a n c) E 3 n (flat qF L) ∈ M) (hn : L.length = n) : SlAt w a 3 (L.map qF) := SlAt.ofOwn qF_len (hw.hold _ hm) hn
end Go.Proofs.YtcdgibkbbcekhaaGreatDoor
/-
  Appends in regions that fork, with the form of the slice.
-/
namespace Go.Sl
open Go.RowKit
variable {C : Ctx} {st : List (Nat × Value)} {M : List Row} {k : List Item} {q q' : Md} {all rest : List Oper} {d : Nat} {ty : TypeId} {pos : String} {after : Array Edge} {gd : Option (Nat × Bool)}
theorem Sat.ownForm {w0 w : World} {base E size n : Nat} {v : Value} {xs : List Value} (hw : Sat w0 M w) (hm : Row.own base v E size n xs ∈ M) : ∃ a c, v = .slice a n c := by
  obtain ⟨hl, hv⟩ := hw.hold _ hm
  rcases hv with ⟨rfl, rfl⟩ | ⟨g, cap, cur, rfl, _⟩
  · exact ⟨_, _, rfl⟩
  · exact ⟨_, _, rfl⟩
theorem G.ownFormS {p : Pt} {M0 : List Row} {l : List Oper} {base E size n : Nat} {v : Value} {xs : List Value} (hm : Row.own base v E size n xs ∈ M) (h : ∀ a c, v = .slice a n c → G (.anys M0 p) C all st M l k) : G (.anys M0 p) C all st M l k :=
  ⟨fun hs hl hsel listed hdc hp a w hf hdf hw => by
    obtain ⟨a', c', e⟩ := hw.ownForm hm
    exact (h a' c' e).go hs hl hsel listed hdc hp a w hf hdf hw⟩
/-- Appends with the slice's form. -/
theorem G.apSF {p : Pt} {T ty' E bytes size n m c base : Nat} {z v : Value} {x y : Operand} {a : Option Addr} {xs news cs : List Value} {F : Row → List Row} {M0 : List Row} {i : Nat} (hs : sdB all st gd d C.N = true)
    (hx : evS st x = some v) (hy : evS st y = some (.slice a m c)) (hm : RAt (.own base v E size n xs) M F) [hT : TElem C.P T E z size bytes] (hsrc : SrcV C M a m size news) (hcs : xs ++ news = cs) (hb : (n + m) * bytes ≤ 140737488355328) (hnm : n + m ≤ 9223372036854775807)
    (hsub : ∀ v', M0.Sublist (F (.own 0 v' E size (n + m) cs))) (hin : ∀ v', Row.own 0 v' E size (n + m) cs ∈ F (.own 0 v' E size (n + m) cs))
    (h : ∀ a' c', G (.anys M0 p) C all ((d, .slice a' (n + m) c') :: st) (F (.own 0 (.slice a' (n + m) c') E size (n + m) cs)) rest k) :
    G (.anys M0 (.e i p)) C all st M ({ dst := some d, op := .call { callee := .builtin .append, args := #[x, y], argTypes := #[T, T] }, type := ty', pos, after, guard := gd } :: rest) k :=
  G.apS hs rfl hx hy hm hsrc hcs hb hnm fun v' => ⟨hsub v', G.ownFormS (hin v') fun a' c' e => by subst e; exact h a' c'⟩
theorem G.apSOF {p : Pt} {T ty' E bytes size n m c base : Nat} {z v : Value} {x y : Operand} {a : Option Addr} {xs news cs : List Value} {F : Row → List Row} {M0 : List Row} {i : Nat} (hs : sdB all st gd d C.N = true)
    (hx : evS st x = some v) (hy : evS st y = some (.slice a m c)) (hm : RAt (.own base v E size n xs) M F) [hT : TElem C.P T E z size bytes] (hsrc : SrcV C M a m size news) (hcs : xs ++ news = cs) (hb : (n + m) * bytes ≤ 140737488355328) (hnm : n + m ≤ 9223372036854775807)
    (hsub : ∀ v', M0.Sublist (F (.own 0 v' E size (n + m) cs))) (hin : ∀ v', Row.own 0 v' E size (n + m) cs ∈ F (.own 0 v' E size (n + m) cs))
    (h : ∀ a' c', G (.anys M0 p) C all ((d, .slice a' (n + m) c') :: st) (F (.own 0 (.slice a' (n + m) c') E size (n + m) cs)) rest k) :
    G (.ones M0 i p) C all st M ({ dst := some d, op := .call { callee := .builtin .append, args := #[x, y], argTypes := #[T, T] }, type := ty', pos, after, guard := gd } :: rest) k :=
  G.apSO hs hx hy hm hsrc hcs hb hnm fun v' => ⟨hsub v', G.ownFormS (hin v') fun a' c' e => by subst e; exact h a' c'⟩
end Go.Sl
/-
  Plain laws of rights, for RightsGrow: more water, all multiplied, a claim less.
-/
namespace Go.Proofs.YtcdgibkbbcekhaaGreatDoor
open Go.RowKit Go.Sl Go.Num
theorem supE_ok {R : List Rch} {Gs : List Q3} (h : supE R Gs = 0) : rivErr R = 0 ∧ Gs.length = R.length ∧ ∀ q ∈ Gs, natB q = true := by
  rw [supE] at h
  have h1 : rivErr R = 0 := Decidable.not_not.1 fun hc => by rw [if_pos hc] at h; exact hc h
  rw [if_neg (not_not_intro h1)] at h
  have h2 : ¬ (Gs.length ≠ R.length ∨ (Gs.any fun q => !natB q) = true) := fun hc => by rw [if_pos hc] at h; cases h
  refine ⟨h1, Decidable.not_not.1 fun hc => h2 (.inl hc), fun q hq => ?_⟩
  cases hb : natB q with
  | true => rfl
  | false => exact absurd (.inr (List.any_eq_true.2 ⟨q, hq, by rw [hb]; rfl⟩)) h2
theorem supE_mk {R : List Rch} {Gs : List Q3} (h1 : rivErr R = 0) (h2 : Gs.length = R.length) (h3 : ∀ q ∈ Gs, natB q = true) : supE R Gs = 0 := by
  rw [supE, if_neg (not_not_intro h1), if_neg]
  rintro (hc | hc)
  · exact hc h2
  · obtain ⟨q, hq, hb⟩ := List.any_eq_true.1 hc
    rw [h3 q hq] at hb; cases hb
theorem rgtE_mk {R : List Rch} {Gs : List Q3} {L : List Clm} (h1 : supE R Gs = 0) (h2 : L.length ≤ 200) (h3 : clmsE R.length L = 0) : rgtE R Gs L = 0 := by
  rw [rgtE, if_neg (not_not_intro h1), if_neg (by omega)]; exact h3
/-- The gains with more at one gauge. -/
def wetG (Gs : List Q3) (g : Nat) (m : Rat) : List Q3 := Gs.set g (rQ (fsq (Gs.map qR) g + m))
theorem wetG_len (Gs : List Q3) (g : Nat) (m : Rat) : (wetG Gs g m).length = Gs.length := List.length_set
theorem wetG_err {R : List Rch} {Gs : List Q3} {L : List Clm} {g : Nat} {m : Rat} (h : rgtE R Gs L = 0) (hm : 0 ≤ m) (hg : g < Gs.length) : rgtE R (wetG Gs g m) L = 0 := by
  obtain ⟨h1, h2, h3⟩ := rgtE_ok h
  obtain ⟨h4, h5, h6⟩ := supE_ok h1
  refine rgtE_mk (supE_mk h4 (by rw [wetG_len]; exact h5) fun q hq => ?_) h2 h3
  rcases List.mem_or_eq_of_mem_set hq with h7 | rfl
  · exact h6 q h7
  · rw [natB_rQ, fsq_lt (by rw [List.length_map]; exact hg), List.getElem_map]
    have := (good_q (h6 _ (List.getElem_mem hg))).2
    exact decide_eq_true (by grind)
theorem wetG_few {R : List Rch} {Gs : List Q3} {g : Nat} {m : Rat} (h : supE R Gs = 0) (hf : ∀ q ∈ Gs, fewQ 20 q) (hm : fewQ 20 (rQ m)) (hg : g < Gs.length) : ∀ q ∈ wetG Gs g m, fewQ 41 q := fun q hq => by
  rcases List.mem_or_eq_of_mem_set hq with h7 | rfl
  · exact fewQ_le (hf q h7) (by decide)
  · rw [fsq_lt (by rw [List.length_map]; exact hg), List.getElem_map]
    refine fewQ_add ?_ hm (by decide) (by decide)
    rw [(good_q ((supE_ok h).2.2 _ (List.getElem_mem hg))).1]
    exact hf _ (List.getElem_mem hg)
theorem wetG_le {Gs : List Q3} {g : Nat} {m : Rat} (hm : 0 ≤ m) (p : Nat) : fsq (Gs.map qR) p ≤ fsq ((wetG Gs g m).map qR) p := by
  rcases Nat.lt_or_ge p Gs.length with h | h
  · rw [fsq_lt (by rw [List.length_map]; exact h), fsq_lt (by rw [List.length_map, wetG_len]; exact h), List.getElem_map, List.getElem_map]
    simp only [wetG, List.getElem_set]
    by_cases hg : g = p
    · subst hg
      rw [if_pos rfl, qR_rQ, fsq_lt (by rw [List.length_map]; exact h), List.getElem_map]
      grind
    · rw [if_neg hg]; exact Rat.le_refl
  · rw [fsq_ge (by rw [List.length_map]; exact h), fsq_ge (by rw [List.length_map, wetG_len]; exact h)]; exact Rat.le_refl
/-- All multiplied. -/
def sclG (Gs : List Q3) (m : Rat) : List Q3 := Gs.map fun q => rQ (qR q * m)
def sclC (L : List Clm) (m : Rat) : List Clm := L.map fun c => ⟨c.pl, c.rk, rQ (qR c.am * m)⟩
theorem scl_err {R : List Rch} {Gs : List Q3} {L : List Clm} {m : Rat} (h : rgtE R Gs L = 0) (hm : 0 ≤ m) : rgtE R (sclG Gs m) (sclC L m) = 0 := by
  obtain ⟨h1, h2, h3⟩ := rgtE_ok h
  obtain ⟨h4, h5, h6⟩ := supE_ok h1
  refine rgtE_mk (supE_mk h4 (by rw [sclG, List.length_map]; exact h5) fun q hq => ?_) (by rw [sclC, List.length_map]; exact h2) (clmsE_all fun c hc => ?_)
  · obtain ⟨x, hx, rfl⟩ := List.mem_map.1 hq
    rw [natB_rQ]
    exact decide_eq_true (Rat.mul_nonneg (good_q (h6 x hx)).2 hm)
  · obtain ⟨x, hx, rfl⟩ := List.mem_map.1 hc
    obtain ⟨e1, e2⟩ := clmE_ok (clmsE_ok h3 x hx)
    rw [clmE]
    dsimp only
    rw [if_neg (by omega), natB_rQ, decide_eq_true (Rat.mul_nonneg (good_q e2).2 hm), if_pos rfl]
theorem scl_few {R : List Rch} {Gs : List Q3} {L : List Clm} {m : Rat} (h : rgtE R Gs L = 0) (hf : ∀ q ∈ Gs, fewQ 20 q) (hc : ∀ c ∈ L, fewQ 20 c.am) (hm : fewQ 20 (rQ m)) : (∀ q ∈ sclG Gs m, fewQ 41 q) ∧ ∀ c ∈ sclC L m, fewQ 41 c.am := by
  obtain ⟨h1, h2, h3⟩ := rgtE_ok h
  obtain ⟨h4, h5, h6⟩ := supE_ok h1
  refine ⟨fun q hq => ?_, fun c hx => ?_⟩
  · obtain ⟨x, hx, rfl⟩ := List.mem_map.1 hq
    exact fewQ_le (fewQ_mul (by rw [(good_q (h6 x hx)).1]; exact hf x hx) hm (by decide) (by decide)) (by decide)
  · obtain ⟨x, hy, rfl⟩ := List.mem_map.1 hx
    exact fewQ_le (fewQ_mul (by rw [(good_q (clmE_ok (clmsE_ok h3 x hy)).2).1]; exact hc x hy) hm (by decide) (by decide)) (by decide)
theorem scl_fair {R : List Rch} {Gs : List Q3} {L : List Clm} {T : List Rat} {m : Rat} (hl : T.length = L.length) (hm : 0 < m) (hf : Fair (onR R) R.length (fsq (Gs.map qR)) ((L.map cmO).zip T)) :
    Fair (onR R) R.length (fsq ((sclG Gs m).map qR)) (((sclC L m).map cmO).zip (T.map (· * m))) := by
  have h := fair_mul hf hm (gn' := fsq ((sclG Gs m).map qR)) fun p _ => by
    rcases Nat.lt_or_ge p Gs.length with h | h
    · rw [fsq_lt (l := (sclG Gs m).map qR) (by simp only [sclG, List.length_map]; exact h), fsq_lt (l := Gs.map qR) (by rw [List.length_map]; exact h), List.getElem_map, List.getElem_map]
      simp only [sclG, List.getElem_map]
      rw [qR_rQ]
    · rw [fsq_ge (l := (sclG Gs m).map qR) (by simp only [sclG, List.length_map]; exact h), fsq_ge (l := Gs.map qR) (by rw [List.length_map]; exact h), Rat.zero_mul]
  have e : ((sclC L m).map cmO).zip (T.map (· * m)) = ((L.map cmO).zip T).map fun z => (⟨z.1.pl, z.1.rk, z.1.am * m⟩, z.2 * m) := by
    apply List.ext_getElem
    · simp only [sclC, List.length_map, List.length_zip]
    · intro i q1 q2
      simp only [sclC, List.getElem_map, List.getElem_zip, cmO, qR_rQ]
  rw [e]; exact h
/-- A claim less. -/
theorem era_err {R : List Rch} {Gs : List Q3} {L : List Clm} (k : Nat) (h : rgtE R Gs L = 0) : rgtE R Gs (L.eraseIdx k) = 0 := by
  have h2 := (rgtE_ok h).2.1
  exact rgtE_sub h (fun c hc => List.mem_of_mem_eraseIdx hc) (Nat.le_trans (List.length_eraseIdx_le _ _) h2)
end Go.Proofs.YtcdgibkbbcekhaaGreatDoor
