/-
  A region that draws its order and whose operations have effects: one walk in a chosen order serves every order.
-/
import Derived.Test.YtjfbdffcgapdlaaSl
namespace Go.Sl
open Go.RowKit

/-- A class of worlds that stays when something new is laid beside what lies. -/
def ExtC (C : World → Prop) : Prop := ∀ w w', C w → Below w.heap.size w w' → C w'

/-- Operation j waits for i, perhaps through others. -/
inductive Path (ops : Array Oper) : Nat → Nat → Prop where
  | edge {j : Nat} {o : Oper} {e : Edge} (ho : ops[j]? = some o) (he : e ∈ o.after) (hb : Region.binds .any e = true) : Path ops j e.on
  | step {j m : Nat} {o : Oper} {e : Edge} (h : Path ops j m) (ho : ops[m]? = some o) (he : e ∈ o.after) (hb : Region.binds .any e = true) : Path ops j e.on

theorem Path.trans {ops : Array Oper} {a b c : Nat} (h : Path ops a b) (h2 : Path ops b c) : Path ops a c := by
  induction h2 with
  | edge ho he hb => exact .step h ho he hb
  | step _ ho he hb ih => exact .step ih ho he hb

/-- Whatever is listed has all that it waits for listed. -/
def DC (ops : Array Oper) (listed : Array Bool) : Prop := ∀ (x : Nat) (o : Oper), ops[x]? = some o → listed.getD x false = true → ∀ e ∈ o.after, Region.binds .any e = true → listed.getD e.on false = true

theorem DC.start (ops : Array Oper) (n : Nat) : DC ops (Array.replicate n false) := fun x o _ h => by
  rw [Array.getD_eq_getD_getElem?, Array.getElem?_replicate] at h; split at h <;> simp at h

theorem DC.set {ops : Array Oper} {listed : Array Bool} {i : Nat} (h : DC ops listed) (hi : i ∈ Region.ready .any ops listed) : DC ops (listed.setIfInBounds i true) := by
  intro x o ho hx e he hb
  by_cases hxi : i = x
  · subst hxi
    obtain ⟨-, o', ho', hall⟩ := mem_ready.1 hi
    rw [ho] at ho'; cases ho'
    exact getD_set_true (hall e he hb)
  · rw [getD_set_ne false hxi] at hx
    exact getD_set_true (h x o ho hx e he hb)

theorem Path.listed {ops : Array Oper} {listed : Array Bool} {j i : Nat} (h : Path ops j i) (hdc : DC ops listed) (hj : j ∈ Region.ready .any ops listed) : listed.getD i false = true := by
  induction h with
  | edge ho he hb =>
    obtain ⟨-, o', ho', hall⟩ := mem_ready.1 hj
    rw [ho] at ho'; cases ho'
    exact hall _ he hb
  | step _ ho he hb ih => exact hdc _ _ ho ih _ he hb

theorem before_fold {ops : Array Oper} {j : Nat} {o : Oper} {acc : Array Nat} (ho : ops[j]? = some o) (hacc : ∀ m i, (acc.getD m 0).testBit i = true → Path ops m i) :
    ∀ (l : List Edge) (s : Nat), (∀ e ∈ l, e ∈ o.after) → (∀ i, s.testBit i = true → Path ops j i) →
      ∀ i, (l.foldl (fun s e => if Region.binds .any e then s ||| 2 ^ e.on ||| acc.getD e.on 0 else s) s).testBit i = true → Path ops j i
  | [], s, _, hs, i, h => hs i h
  | e :: l, s, hl, hs, i, h => by
    simp only [List.foldl_cons] at h
    refine before_fold ho hacc l _ (fun e' he' => hl e' (List.mem_cons_of_mem _ he')) (fun m hm => ?_) i h
    split at hm
    · rename_i hb
      simp only [Nat.testBit_or, Bool.or_eq_true, Nat.testBit_two_pow, decide_eq_true_eq] at hm
      have he := hl e (List.mem_cons_self ..)
      rcases hm with (hm | hm) | hm
      · exact hs m hm
      · subst hm; exact .edge ho he hb
      · exact (Path.edge ho he hb).trans (hacc _ _ hm)
    · exact hs m hm

theorem before_path {ops : Array Oper} {j i : Nat} (h : ((Region.before ops).getD j 0).testBit i = true) : Path ops j i := by
  have key : ∀ (suf pre : List Oper) (acc : Array Nat), ops.toList = pre ++ suf → acc.size = pre.length → (∀ m i, (acc.getD m 0).testBit i = true → Path ops m i) →
      ∀ m i, ((suf.foldl (fun acc o => acc.push (o.after.foldl (fun s e => if Region.binds .any e then s ||| 2 ^ e.on ||| acc.getD e.on 0 else s) 0)) acc).getD m 0).testBit i = true → Path ops m i := by
    intro suf
    induction suf with
    | nil => intro pre acc _ _ h m i hm; exact h m i hm
    | cons o suf ih =>
      intro pre acc hl hsz hacc m i hm
      simp only [List.foldl_cons] at hm
      refine ih (pre ++ [o]) _ (by simp [hl]) (by simp [hsz]) (fun m i hm => ?_) m i hm
      have ho : ops[pre.length]? = some o := by
        rw [← Array.getElem?_toList, hl]; simp
      by_cases hmm : m < acc.size
      · refine hacc m i ?_
        rw [Array.getD_eq_getD_getElem?, Array.getElem?_push_lt hmm] at hm
        rw [Array.getD_eq_getD_getElem?, Array.getElem?_eq_getElem hmm]; exact hm
      · by_cases hme : m = acc.size
        · subst hme
          rw [Array.getD_eq_getD_getElem?, Array.getElem?_push_size, Option.getD_some, ← Array.foldl_toList] at hm
          rw [hsz]
          exact before_fold ho hacc o.after.toList 0 (fun e he => by simpa using he) (fun i hi => by simp at hi) i hm
        · rw [Array.getD_eq_getD_getElem?, Array.getElem?_eq_none (by simp; omega)] at hm
          simp at hm
  refine key ops.toList [] #[] (by simp) rfl (fun m i hm => by simp at hm) j i ?_
  unfold Region.before at h
  rw [← Array.foldl_toList] at h
  exact h

/-- The operation waits for all that is listed. -/
def waitsAll (ops : Array Oper) (listed : Array Bool) (j : Nat) : Bool :=
  (List.range listed.size).all fun i => !listed.getD i false || ((Region.before ops).getD j 0).testBit i

def opK (P : Program) (ops : Array Oper) (i : Nat) (K : Oper → Act → World → Prop) (a : Act) (w : World) : Prop :=
  ∃ o, ops[i]? = some o ∧ if Region.wanted o (yielded ops a.tmps) then o.upon P a (K o) (fun _ _ _ => False) ((execOp a.eval o).run P w) else K o (a.put o.dst undef) w

def wpK (P : Program) (ops : Array Oper) (Q : Act → World → Prop) : Nat → (World → Prop) → Array Bool → Act → World → Prop
  | 0, _, listed, a, w => ∀ w1, Below w.heap.size w w1 → Region.ready .any ops listed = [] ∧ Q a w1
  | fuel + 1, C, listed, a, w => ∀ w1, Below w.heap.size w w1 → (Region.ready .any ops listed = [] → Q a w1) ∧
    ∀ i ∈ Region.ready .any ops listed, opK P ops i (fun o a' w' => ∃ C', ExtC C' ∧ C' w' ∧ ((∀ u, C' u → C u) ∨ waitsAll ops listed i = true) ∧ wpK P ops Q fuel C' (listed.setIfInBounds i true) a' w') a w1

section
variable {P : Program} {ops : Array Oper} {Q : Act → World → Prop}

theorem below_trans' {a b c : World} (h : Below a.heap.size a b) (k : Below b.heap.size b c) : Below a.heap.size a c := h.trans (k.mono h.size)

theorem wpK_ext {fuel : Nat} {C : World → Prop} {listed : Array Bool} {a : Act} {w w' : World} (h : wpK P ops Q fuel C listed a w) (hb : Below w.heap.size w w') : wpK P ops Q fuel C listed a w' := by
  cases fuel with
  | zero => exact fun w1 h1 => h w1 (below_trans' hb h1)
  | succ fuel => exact fun w1 h1 => h w1 (below_trans' hb h1)

theorem upon_mono {o : Oper} {a : Act} {n n' : Act → World → Prop} {r : Result Next} (hn : ∀ a w, n a w → n' a w) (h : o.upon P a n (fun _ _ _ => False) r) : o.upon P a n' (fun _ _ _ => False) r := by
  unfold Oper.upon at *
  split at h
  · exact hn _ _ h
  · exact hn _ _ h
  · exact hn _ _ h
  · refine h.mono fun e w' hh => ?_
    cases e with
    | returned v => exact hn _ _ hh
    | panicked c => exact hh
    | outgrown => exact hh
  · exact h.mono fun v w' hh => hn _ _ hh
  · exact h.elim
  · exact h.elim

theorem opK_mono {i : Nat} {a : Act} {w : World} {K K' : Oper → Act → World → Prop} (h : ∀ o a w, ops[i]? = some o → K o a w → K' o a w) (hh : opK P ops i K a w) : opK P ops i K' a w := by
  obtain ⟨o, ho, h1⟩ := hh
  refine ⟨o, ho, ?_⟩
  split
  · rename_i hw; rw [if_pos hw] at h1; exact upon_mono (fun a w => h o a w ho) h1
  · rename_i hw; rw [if_neg hw] at h1; exact h o _ _ ho h1

/-- In every world of the class the operation yields v and lays at most something new. -/
def Calm (P : Program) (C : World → Prop) (o : Oper) (v : Value) (a : Act) : Prop :=
  ∀ w, C w → (execOp a.eval o).run P w = .ok (.value v) w ∨ ∃ f args, (execOp a.eval o).run P w = .ok (.enter f args) w ∧ Calls P f args w fun e w' => e = .returned v ∧ Below w.heap.size w w'
def Yld (P : Program) (ops : Array Oper) (C : World → Prop) (o : Oper) (v : Value) (a : Act) : Prop :=
  (Region.wanted o (yielded ops a.tmps) = true ∧ Calm P C o v a) ∨ (Region.wanted o (yielded ops a.tmps) = false ∧ v = undef)

theorem Yld.mono {C C' : World → Prop} {o : Oper} {v : Value} {a : Act} (h : Yld P ops C o v a) (hs : ∀ w, C' w → C w) : Yld P ops C' o v a := by
  rcases h with ⟨h1, h2⟩ | h
  · exact .inl ⟨h1, fun w hw => h2 w (hs w hw)⟩
  · exact .inr h

theorem Yld.of_same {C : World → Prop} {o : Oper} {v : Value} {a a' : Act} (hy : Yld P ops C o v a) (he : execOp a'.eval o = execOp a.eval o) (hw : Region.wanted o (yielded ops a'.tmps) = Region.wanted o (yielded ops a.tmps)) : Yld P ops C o v a' := by
  unfold Yld Calm at *
  rw [he, hw]; exact hy

/-- Another operation does not mind whether the value is there already. -/
theorem opK_put {C : World → Prop} {j : Nat} {oi oj : Oper} {v : Value} {a : Act} {w : World} {K : Oper → Act → World → Prop} (hj : ops[j]? = some oj) (hap : oi.apart ops oj = true)
    (hsi : ∀ cs b, oi.op ≠ .select cs b) (hsj : ∀ cs b, oj.op ≠ .select cs b) (hy : Yld P ops C oi v a) (h : opK P ops j K (a.put oi.dst v) w) :
    opK P ops j (fun o a' w' => Yld P ops C oi v a' ∧ K o (a'.put oi.dst v) w') a w := by
  obtain ⟨h1, h2, h3⟩ := Oper.apart_spec hap
  obtain ⟨o, ho, hh⟩ := h
  rw [hj] at ho; cases ho
  refine ⟨oj, hj, ?_⟩
  rw [wanted_put oj a oi.dst v h1, execOp_put oj hsj a oi.dst v h1] at hh
  have keep : ∀ u, Yld P ops C oi v (a.put oj.dst u) := fun u => hy.of_same (execOp_put oi hsi a oj.dst u h3) (wanted_put oi a oj.dst u h3)
  have comm : ∀ u, (a.put oi.dst v).put oj.dst u = (a.put oj.dst u).put oi.dst v := fun u => Act.put_comm a v u h2
  split
  · rename_i hw
    rw [if_pos hw] at hh
    generalize (execOp a.eval oj).run P w = r at hh ⊢
    unfold Oper.upon at hh ⊢
    split at hh
    · exact ⟨keep _, by rw [← comm]; exact hh⟩
    · exact ⟨keep _, by rw [← comm]; exact hh⟩
    · rename_i d w'
      have e : ({ a.put oi.dst v with defers := d :: (a.put oi.dst v).defers } : Act).put oj.dst undef = (({ a with defers := d :: a.defers } : Act).put oj.dst undef).put oi.dst v := by
        have := Act.put_comm ({ a with defers := d :: a.defers } : Act) v undef h2
        rw [← this]; cases oi.dst <;> rfl
      refine ⟨?_, by rw [← e]; exact hh⟩
      have := keep undef
      refine this.of_same ?_ ?_
      · have e2 : (({ a with defers := d :: a.defers } : Act).put oj.dst undef).eval = (a.put oj.dst undef).eval := by
          funext x; cases oj.dst <;> cases x <;> rfl
        rw [e2]
      · cases oj.dst <;> rfl
    · refine hh.mono fun e w' h4 => ?_
      cases e with
      | returned u => exact ⟨keep _, by rw [← comm]; exact h4⟩
      | panicked c => exact h4
      | outgrown => exact h4
    · exact hh.mono fun u w' h4 => ⟨keep _, by rw [← comm]; exact h4⟩
    · exact hh.elim
    · exact hh.elim
  · rename_i hw
    rw [if_neg hw] at hh
    exact ⟨keep _, by rw [← comm]; exact hh⟩

theorem opK_self {C : World → Prop} {i : Nat} {oi : Oper} {v : Value} {a : Act} {w : World} {K : Oper → Act → World → Prop} (hi : ops[i]? = some oi) (hy : Yld P ops C oi v a) (hC : C w)
    (h : ∀ w', Below w.heap.size w w' → K oi (a.put oi.dst v) w') : opK P ops i K a w := by
  refine ⟨oi, hi, ?_⟩
  rcases hy with ⟨hw, hc⟩ | ⟨hw, rfl⟩
  · rw [if_pos hw]
    rcases hc w hC with h1 | ⟨f, args, h1, h2⟩
    · rw [h1]; exact h w (Below.refl _ _)
    · rw [h1]
      refine h2.mono fun e w' h3 => ?_
      obtain ⟨rfl, h4⟩ := h3
      exact h w' h4
  · rw [if_neg (by simp [hw])]; exact h w (Below.refl _ _)

/-- A calm operation that may come up now may be taken first. -/
theorem wpK_first {i : Nat} {oi : Oper} {v : Value} (hi : ops[i]? = some oi) (hsel : ∀ (j : Nat) (o : Oper) cs b, ops[j]? = some o → o.op ≠ .select cs b) :
    ∀ (fuel : Nat) (C : World → Prop) (listed : Array Bool) (a : Act) (w : World), ExtC C → C w → DC ops listed →
      (∀ j oj, ops[j]? = some oj → j ≠ i → listed.getD j true = false → (∀ e ∈ oj.after, Region.binds .any e = true → e.on ≠ i) → oi.apart ops oj = true) →
      i ∈ Region.ready .any ops listed → Yld P ops C oi v a → wpK P ops Q fuel C (listed.setIfInBounds i true) (a.put oi.dst v) w → wpK P ops Q (fuel + 1) C listed a w := by
  intro fuel
  induction fuel with
  | zero =>
    intro C listed a w hE hC _ _ hr hy H w1 hb1
    refine ⟨fun h => (by rw [h] at hr; cases hr), fun j hj => ?_⟩
    by_cases hji : j = i
    · subst hji
      exact opK_self hi hy (hE w w1 hC hb1) fun w' hb' => ⟨C, hE, hE w1 w' (hE w w1 hC hb1) hb', .inl fun _ h => h, wpK_ext H (below_trans' hb1 hb')⟩
    · have := ready_mono hj hji
      rw [(H w1 hb1).1] at this
      cases this
  | succ fuel ih =>
    intro C listed a w hE hC hdc hfree hr hy H w1 hb1
    refine ⟨fun h => (by rw [h] at hr; cases hr), fun j hj => ?_⟩
    by_cases hji : j = i
    · subst hji
      exact opK_self hi hy (hE w w1 hC hb1) fun w' hb' => ⟨C, hE, hE w1 w' (hE w w1 hC hb1) hb', .inl fun _ h => h, wpK_ext H (below_trans' hb1 hb')⟩
    · have h1 := (H w1 hb1).2 j (ready_mono hj hji)
      obtain ⟨hjun, oj, hoj, hall⟩ := mem_ready.1 hj
      have hnot : ∀ e ∈ oj.after, Region.binds .any e = true → e.on ≠ i := fun e he hb heq => by
        have h1 := hall e he hb
        have h0 := (mem_ready.1 hr).1
        rw [heq] at h1
        rcases Nat.lt_or_ge i listed.size with h' | h'
        · simp [h'] at h0 h1; rw [h0] at h1; cases h1
        · simp [Array.getElem?_eq_none h'] at h1
      have h2 := opK_put hoj (hfree j oj hoj hji hjun hnot) (fun cs b => hsel i oi cs b hi) (fun cs b => hsel j oj cs b hoj) hy h1
      refine opK_mono (fun o a' w' ho h3 => ?_) h2
      rw [hoj] at ho; cases ho
      obtain ⟨hy', C', hE', hC', hsub, hk⟩ := h3
      have hilt : i < listed.size := by
        rcases Nat.lt_or_ge i listed.size with h' | h'
        · exact h'
        · have := (mem_ready.1 hr).1
          simp [Array.getElem?_eq_none h'] at this
      rcases hsub with hsub | hwait
      · refine ⟨C', hE', hC', .inl hsub, ?_⟩
        refine ih C' (listed.setIfInBounds j true) a' w' hE' hC' (hdc.set hj) ?_ (ready_mono hr (Ne.symm hji)) (hy'.mono hsub) ?_
        · intro k ok hk hki hun hno
          refine hfree k ok hk hki ?_ hno
          by_cases hjk : j = k
          · subst hjk; exact hjun
          · rw [getD_set_ne true hjk] at hun; exact hun
        · rw [Array.setIfInBounds_comm _ _ hji]
          exact hk
      · exfalso
        unfold waitsAll at hwait
        have h5 := List.all_eq_true.1 hwait i (List.mem_range.2 (by simpa using hilt))
        simp only [Bool.or_eq_true, Bool.not_eq_true'] at h5
        rcases h5 with h5 | h5
        · simp [hilt] at h5
        · have h6 := (before_path h5).listed hdc hj
          have h7 := (mem_ready.1 hr).1
          simp [hilt] at h6 h7
          rw [h6] at h7; cases h7

theorem wpAny_of_wpK {Q' : Exit → Act → World → Prop} (hQ : ∀ a w, Q a w → Q' .normal a w) : ∀ (fuel : Nat) (C : World → Prop) (listed : Array Bool) (a : Act) (w : World), wpK P ops Q fuel C listed a w → wpAny P .any ops Q' fuel listed a w
  | 0, _, _, _, w, h => ⟨(h w (Below.refl _ _)).1, hQ _ _ (h w (Below.refl _ _)).2⟩
  | fuel + 1, C, listed, a, w, h => by
    have h1 := h w (Below.refl _ _)
    refine ⟨fun h0 => hQ _ _ (h1.1 h0), fun i hi => ?_⟩
    obtain ⟨o, ho, h2⟩ := h1.2 i hi
    unfold wpOp
    simp only [ho]
    split
    · rename_i hw
      rw [if_pos hw] at h2
      refine .inl ?_
      unfold Oper.wp
      have := upon_mono (n' := wpAny P .any ops Q' fuel (listed.setIfInBounds i true)) (fun a' w' h3 => by obtain ⟨C', _, _, _, h4⟩ := h3; exact wpAny_of_wpK hQ fuel C' _ _ _ h4) h2
      generalize (execOp a.eval o).run P w = r at this ⊢
      unfold Oper.upon at this ⊢
      split at this
      · exact this
      · exact this
      · exact this
      · refine this.mono fun e w' h5 => ?_
        cases e with
        | returned v => exact h5
        | panicked c => exact h5.elim
        | outgrown => obtain ⟨_, _, h6⟩ := h5; exact h6.elim
      · exact this
      · exact this.elim
      · exact this.elim
    · rename_i hw
      rw [if_neg hw] at h2
      obtain ⟨C', _, _, _, h4⟩ := h2
      exact wpAny_of_wpK hQ fuel C' _ _ _ h4
end

/-! ### plans -/
/-- In which order the operations are taken. q: it is calm, and comes first; e: it alone may come, and lays something new; r: it alone may come, and waits for all before it; f: one of two may come. -/
inductive Pt where
  | nil
  | q (i : Nat) (p : Pt)
  | e (i : Nat) (p : Pt)
  | r (i : Nat) (p : Pt)
  | f (i : Nat) (p : Pt) (j : Nat) (p' : Pt)

def Pt.size : Pt → Nat
  | .nil => 0
  | .q _ p | .e _ p | .r _ p | .f _ p _ _ => p.size + 1

def planB (all : Array Oper) : Array Bool → Pt → Bool
  | listed, .nil => (Region.ready .any all listed).isEmpty
  | listed, .q i p => (Region.ready .any all listed).contains i && Region.free .any all listed i && planB all (listed.setIfInBounds i true) p
  | listed, .e i p => Region.ready .any all listed == [i] && planB all (listed.setIfInBounds i true) p
  | listed, .r i p => Region.ready .any all listed == [i] && waitsAll all listed i && planB all (listed.setIfInBounds i true) p
  | listed, .f i p j p' => (Region.ready .any all listed == [i, j] || Region.ready .any all listed == [j, i]) && (p.size == p'.size && (planB all (listed.setIfInBounds i true) p && planB all (listed.setIfInBounds j true) p'))

def headOf (all : List Oper) (i : Nat) (l : List Oper) : List Oper := match all[i]? with
  | some o => o :: l
  | none => []
def opsOf (all : List Oper) : Pt → List Oper
  | .nil | .f .. => []
  | .q i p | .e i p | .r i p => headOf all i (opsOf all p)

theorem headOf_eq {all : List Oper} {i : Nat} {o : Oper} {l l' : List Oper} (h : o :: l = headOf all i l') : all.toArray[i]? = some o ∧ l = l' := by
  unfold headOf at h
  split at h
  · rename_i o' ho
    cases h
    exact ⟨by simpa using ho, rfl⟩
  · cases h

/-- The kinds of walk over a region's operations. -/
inductive Md where
  | seq | quiet | any (p : Pt) | anyw (n : Nat) (p : Pt) | one (i : Nat) (p : Pt) | anys (M0 : List Row) (p : Pt) | ones (M0 : List Row) (i : Nat) (p : Pt)

def Md.calm : Md → Option Md
  | .seq => some .seq
  | .quiet => some .quiet
  | .any (.q _ p) => some (.any p)
  | .anyw n (.q _ p) => some (.anyw n p)
  | .anys M0 (.q _ p) => some (.anys M0 p)
  | _ => none
/-- What a calm operation may lean on: all, or all but the row that is being written. -/
def Md.cls : Md → List Row → List Row
  | .anyw n _, M => M.eraseIdx n
  | .anys M0 _, _ => M0
  | _, M => M
/-- A store into the row that is set apart. -/
def Md.st (n : Nat) : Md → Option Md
  | .anyw m (.e _ p) => if m = n then some (.anyw n p) else none
  | _ => none
def Md.ext : Md → Option Md
  | .seq => some .seq
  | .any (.e _ p) => some (.any p)
  | .any (.r _ p) => some (.any p)
  | .one _ p => some (.any p)
  | .anys M0 (.e _ p) => some (.anys M0 p)
  | .anys M0 (.r _ p) => some (.anys M0 p)
  | .ones M0 _ p => some (.anys M0 p)
  | _ => none
/-- A store into a row that nothing leans on. -/
def Md.sto : Md → Option (List Row × Md)
  | .anys M0 (.e _ p) => some (M0, .anys M0 p)
  | _ => none
def Md.res : Md → Option Md
  | .seq => some .seq
  | .any (.r _ p) => some (.any p)
  | .anyw _ (.r _ p) => some (.any p)
  | .anys _ (.r _ p) => some (.any p)
  | _ => none

def AO (C : Ctx) (all : List Oper) (p : Pt) (st : List (Nat × Value)) (M : List Row) (l : List Oper) (k : List Item) : Prop :=
  l = opsOf all p → Region.noSelect all.toArray = true → ∀ listed : Array Bool, DC all.toArray listed → planB all.toArray listed p = true →
    ∀ a w, Fits C.N st a → a.defers = C.D → Sat C.w0 M w → wpK C.P all.toArray (Run C.P C.b C.PHI k) p.size (Sat C.w0 M) listed a w

/-- The row n is being written: nothing that is still to come leans on it. -/
def AW (C : Ctx) (all : List Oper) (n : Nat) (p : Pt) (st : List (Nat × Value)) (M : List Row) (l : List Oper) (k : List Item) : Prop :=
  l = opsOf all p → Region.noSelect all.toArray = true → ∀ listed : Array Bool, DC all.toArray listed → planB all.toArray listed p = true →
    ∀ a w, Fits C.N st a → a.defers = C.D → Sat C.w0 M w → wpK C.P all.toArray (Run C.P C.b C.PHI k) p.size (Sat C.w0 (M.eraseIdx n)) listed a w

/-- One of two that may come. -/
def AF (C : Ctx) (all : List Oper) (i : Nat) (p : Pt) (st : List (Nat × Value)) (M : List Row) (l : List Oper) (k : List Item) : Prop :=
  l = headOf all i (opsOf all p) → Region.noSelect all.toArray = true → ∀ listed : Array Bool, DC all.toArray listed → i ∈ Region.ready .any all.toArray listed → planB all.toArray (listed.setIfInBounds i true) p = true →
    ∀ a w, Fits C.N st a → a.defers = C.D → Sat C.w0 M w → opK C.P all.toArray i (fun _ a' w' => ∃ C', ExtC C' ∧ C' w' ∧ ((∀ u, C' u → Sat C.w0 M u) ∨ waitsAll all.toArray listed i = true) ∧ wpK C.P all.toArray (Run C.P C.b C.PHI k) p.size C' (listed.setIfInBounds i true) a' w') a w

/-- What is still to come leans on the rows M0 alone. -/
def AS (C : Ctx) (all : List Oper) (M0 : List Row) (p : Pt) (st : List (Nat × Value)) (M : List Row) (l : List Oper) (k : List Item) : Prop :=
  M0.Sublist M → l = opsOf all p → Region.noSelect all.toArray = true → ∀ listed : Array Bool, DC all.toArray listed → planB all.toArray listed p = true →
    ∀ a w, Fits C.N st a → a.defers = C.D → Sat C.w0 M w → wpK C.P all.toArray (Run C.P C.b C.PHI k) p.size (Sat C.w0 M0) listed a w
def AFS (C : Ctx) (all : List Oper) (M0 : List Row) (i : Nat) (p : Pt) (st : List (Nat × Value)) (M : List Row) (l : List Oper) (k : List Item) : Prop :=
  M0.Sublist M → l = headOf all i (opsOf all p) → Region.noSelect all.toArray = true → ∀ listed : Array Bool, DC all.toArray listed → i ∈ Region.ready .any all.toArray listed → planB all.toArray (listed.setIfInBounds i true) p = true →
    ∀ a w, Fits C.N st a → a.defers = C.D → Sat C.w0 M w → opK C.P all.toArray i (fun _ a' w' => ∃ C', ExtC C' ∧ C' w' ∧ ((∀ u, C' u → Sat C.w0 M0 u) ∨ waitsAll all.toArray listed i = true) ∧ wpK C.P all.toArray (Run C.P C.b C.PHI k) p.size C' (listed.setIfInBounds i true) a' w') a w

structure G (q : Md) (C : Ctx) (all : List Oper) (st : List (Nat × Value)) (M : List Row) (l : List Oper) (k : List Item) : Prop where
  go : match q with
    | .seq => JO C all st M l k
    | .quiet => QO C all st M l k
    | .any p => AO C all p st M l k
    | .anyw n p => AW C all n p st M l k
    | .one i p => AF C all i p st M l k
    | .anys M0 p => AS C all M0 p st M l k
    | .ones M0 i p => AFS C all M0 i p st M l k

theorem ExtC.sat (w0 : World) (M : List Row) : ExtC (Sat w0 M) := fun _ _ h hb => h.ext hb

variable {C : Ctx} {st : List (Nat × Value)} {M : List Row} {k : List Item} {q q' : Md} {all rest : List Oper} {d : Nat} {opn : Op} {ty : TypeId} {pos : String} {after : Array Edge} {gd : Option (Nat × Bool)}

theorem J.reg {id : Nat} {l : List Oper} (h : G .seq C l st M l k) : J C st M (.code (.region id l.toArray false) :: k) := J.region h.go

def quietOps (l : List Oper) : Bool := l.all fun o => match o.op with
  | .alloc _ | .box .. | .buildSlice .. | .insert .. | .store .. | .makeMap .. | .makeChan .. | .makeSlice .. | .mapUpdate .. | .mapEntry .. | .entryStore .. | .range .. | .next .. | .go _ | .defer _ | .panic _ | .send .. | .recv .. | .select .. => false
  | .call { callee := .builtin .append, .. } | .call { callee := .builtin .copy, .. } | .call { callee := .builtin .clear, .. } | .call { callee := .builtin .delete, .. } => false
  | _ => true

theorem J.regQ {id : Nat} {l : List Oper} (hm : C.P.follows .mixedOrders = true) (hB : (quietOps l && (Region.lexB .any l.toArray && noDefer l)) = true) (h : G .quiet C l st M l k) : J C st M (.code (.region id l.toArray true) :: k) := by
  rw [Bool.and_eq_true, Bool.and_eq_true] at hB
  exact J.regionQ hm hB.2.1 hB.2.2 h.go

/-- A region that draws its order, taken in an order of mine. -/
theorem J.regA {id : Nat} {l : List Oper} (p : Pt) (hm : C.P.follows .mixedOrders = true)
    (hB : (decide (p.size = l.length) && (planB l.toArray (Array.replicate l.length false) p && (Region.noSelect l.toArray && noDefer l))) = true)
    (h : G (.any p) C l st M (opsOf l p) k) : J C st M (.code (.region id l.toArray true) :: k) := by
  simp only [Bool.and_eq_true, decide_eq_true_eq] at hB
  obtain ⟨h3, h4, h5, h6⟩ := hB
  refine .mk fun a w hf hd hw => ?_
  refine Run.step (a' := a) (w' := { w with drawn := w.drawn + 1 }) (fun cs => stepR_region_draw) ?_
  refine run_of_wpOps (by simpa using h6) _ _ _ ?_
  simp only [Region.schedule, hm, Bool.true_or, if_true]
  refine wpAny_sound _ _ _ _ _ ?_
  have h7 := h.go rfl h5 (Array.replicate l.length false) (DC.start _ _) h4 a _ hf hd hw.drawn
  rw [h3] at h7
  exact wpAny_of_wpK (fun a w hr => ⟨rfl, hr⟩) l.toArray.size _ _ _ _ (by simpa using h7)

/-- The same, the row n set apart. -/
theorem J.regW {id : Nat} {l : List Oper} (n : Nat) (p : Pt) (hm : C.P.follows .mixedOrders = true)
    (hB : (decide (p.size = l.length) && (planB l.toArray (Array.replicate l.length false) p && (Region.noSelect l.toArray && noDefer l))) = true)
    (h : G (.anyw n p) C l st M (opsOf l p) k) : J C st M (.code (.region id l.toArray true) :: k) := by
  simp only [Bool.and_eq_true, decide_eq_true_eq] at hB
  obtain ⟨h3, h4, h5, h6⟩ := hB
  refine .mk fun a w hf hd hw => ?_
  refine Run.step (a' := a) (w' := { w with drawn := w.drawn + 1 }) (fun cs => stepR_region_draw) ?_
  refine run_of_wpOps (by simpa using h6) _ _ _ ?_
  simp only [Region.schedule, hm, Bool.true_or, if_true]
  refine wpAny_sound _ _ _ _ _ ?_
  have h7 := h.go rfl h5 (Array.replicate l.length false) (DC.start _ _) h4 a _ hf hd hw.drawn
  rw [h3] at h7
  exact wpAny_of_wpK (fun a w hr => ⟨rfl, hr⟩) l.toArray.size _ _ _ _ (by simpa using h7)

/-- The same, where what is to come leans on M0 alone. -/
theorem J.regS {id : Nat} {l : List Oper} (M0 : List Row) (p : Pt) (hm : C.P.follows .mixedOrders = true)
    (hB : (decide (p.size = l.length) && (planB l.toArray (Array.replicate l.length false) p && (Region.noSelect l.toArray && noDefer l))) = true)
    (hs : M0.Sublist M) (h : G (.anys M0 p) C l st M (opsOf l p) k) : J C st M (.code (.region id l.toArray true) :: k) := by
  simp only [Bool.and_eq_true, decide_eq_true_eq] at hB
  obtain ⟨h3, h4, h5, h6⟩ := hB
  refine .mk fun a w hf hd hw => ?_
  refine Run.step (a' := a) (w' := { w with drawn := w.drawn + 1 }) (fun cs => stepR_region_draw) ?_
  refine run_of_wpOps (by simpa using h6) _ _ _ ?_
  simp only [Region.schedule, hm, Bool.true_or, if_true]
  refine wpAny_sound _ _ _ _ _ ?_
  have h7 := h.go hs rfl h5 (Array.replicate l.length false) (DC.start _ _) h4 a _ hf hd hw.drawn
  rw [h3] at h7
  exact wpAny_of_wpK (fun a w hr => ⟨rfl, hr⟩) l.toArray.size _ _ _ _ (by simpa using h7)

theorem G.nil {q : Md} (hq : (match q with | .seq | .quiet | .any .nil | .anyw _ .nil | .anys _ .nil => true | _ => false) = true) (h : J C st M k) : G q C all st M [] k := by
  cases q with
  | seq => exact ⟨JO.nil h⟩
  | quiet => exact ⟨QO.nil h⟩
  | one i p => cases hq
  | any p =>
    cases p with
    | nil =>
      refine ⟨fun _ _ listed _ hp a w hf hd hw => ?_⟩
      simp only [planB, List.isEmpty_iff] at hp
      exact fun w1 hb => ⟨hp, h.go a w1 hf hd (hw.ext hb)⟩
    | _ => cases hq
  | anyw n p =>
    cases p with
    | nil =>
      refine ⟨fun _ _ listed _ hp a w hf hd hw => ?_⟩
      simp only [planB, List.isEmpty_iff] at hp
      exact fun w1 hb => ⟨hp, h.go a w1 hf hd (hw.ext hb)⟩
    | _ => cases hq
  | anys M0 p =>
    cases p with
    | nil =>
      refine ⟨fun _ _ _ listed _ hp a w hf hd hw => ?_⟩
      simp only [planB, List.isEmpty_iff] at hp
      exact fun w1 hb => ⟨hp, h.go a w1 hf hd (hw.ext hb)⟩
    | _ => cases hq
  | ones M0 i p => cases hq

theorem G.fork {i j : Nat} {p p' : Pt} (h1 : G (.one i p) C all st M (headOf all i (opsOf all p)) k) (h2 : G (.one j p') C all st M (headOf all j (opsOf all p')) k) : G (.any (.f i p j p')) C all st M [] k := by
  refine ⟨fun _ hsel listed hdc hp a w hf hd hw w1 hb => ?_⟩
  simp only [planB, Bool.and_eq_true, Bool.or_eq_true, beq_iff_eq] at hp
  obtain ⟨hr, hsz, hp1, hp2⟩ := hp
  have hmem : ∀ x, x ∈ Region.ready .any all.toArray listed ↔ x = i ∨ x = j := fun x => by
    rcases hr with hr | hr <;> rw [hr] <;> simp [or_comm]
  refine ⟨fun e => ?_, fun x hx => ?_⟩
  · rw [e] at hr; simp at hr
  · rcases (hmem x).1 hx with rfl | rfl
    · exact h1.go rfl hsel listed hdc hx hp1 a w1 hf hd (hw.ext hb)
    · have := h2.go rfl hsel listed hdc hx hp2 a w1 hf hd (hw.ext hb)
      rw [← hsz] at this; exact this

theorem G.forkS {M0 : List Row} {i j : Nat} {p p' : Pt} (h1 : G (.ones M0 i p) C all st M (headOf all i (opsOf all p)) k) (h2 : G (.ones M0 j p') C all st M (headOf all j (opsOf all p')) k) : G (.anys M0 (.f i p j p')) C all st M [] k := by
  refine ⟨fun hs _ hsel listed hdc hp a w hf hd hw w1 hb => ?_⟩
  simp only [planB, Bool.and_eq_true, Bool.or_eq_true, beq_iff_eq] at hp
  obtain ⟨hr, hsz, hp1, hp2⟩ := hp
  have hmem : ∀ x, x ∈ Region.ready .any all.toArray listed ↔ x = i ∨ x = j := fun x => by
    rcases hr with hr | hr <;> rw [hr] <;> simp [or_comm]
  refine ⟨fun e => ?_, fun x hx => ?_⟩
  · rw [e] at hr; simp at hr
  · rcases (hmem x).1 hx with rfl | rfl
    · exact h1.go hs rfl hsel listed hdc hx hp1 a w1 hf hd (hw.ext hb)
    · have := h2.go hs rfl hsel listed hdc hx hp2 a w1 hf hd (hw.ext hb)
      rw [← hsz] at this; exact this

theorem G.op {v : Value} (hv : OpV C st (q.cls M) opn ty v) (hg : wnB all st gd = true) (hn : noDef opn = true) (hd : Nat.blt d C.N = true) (hq : q.calm = some q') (h : G q' C all ((d, v) :: st) M rest k) :
    G q C all st M ({ dst := some d, op := opn, type := ty, pos, after, guard := gd } :: rest) k := by
  cases q with
  | seq => cases hq; exact ⟨JO.op hv hg hn hd h.go⟩
  | quiet => cases hq; exact ⟨QO.op hv hg hd h.go⟩
  | one i p => cases hq
  | any p =>
    cases p with
    | q i p =>
      cases hq
      refine ⟨fun hl hsel listed hdc hp a w hf hdf hw => ?_⟩
      obtain ⟨ho, hl'⟩ := headOf_eq hl
      simp only [planB, Bool.and_eq_true] at hp
      have hr : i ∈ Region.ready .any all.toArray listed := by simpa using hp.1.1
      refine wpK_first (v := v) ho (Region.noSelect_spec hsel) _ _ _ _ _ (ExtC.sat _ _) hw hdc (Region.free_spec ho hp.1.2) hr ?_ ?_
      · refine .inl ⟨(Wn.ofB (N := C.N) hg).go a hf _ _ _ _ _, fun w2 hw2 => ?_⟩
        exact hv.go a w2 hf hw2 (some d) pos after gd
      · exact h.go hl' hsel _ (hdc.set hr) hp.2 _ w (hf.put hd v) hdf hw
    | _ => cases hq
  | anyw n p =>
    cases p with
    | q i p =>
      cases hq
      refine ⟨fun hl hsel listed hdc hp a w hf hdf hw => ?_⟩
      obtain ⟨ho, hl'⟩ := headOf_eq hl
      simp only [planB, Bool.and_eq_true] at hp
      have hr : i ∈ Region.ready .any all.toArray listed := by simpa using hp.1.1
      refine wpK_first (v := v) ho (Region.noSelect_spec hsel) _ _ _ _ _ (ExtC.sat _ _) (hw.forget (List.eraseIdx_sublist _ _)) hdc (Region.free_spec ho hp.1.2) hr ?_ ?_
      · refine .inl ⟨(Wn.ofB (N := C.N) hg).go a hf _ _ _ _ _, fun w2 hw2 => ?_⟩
        exact hv.go a w2 hf hw2 (some d) pos after gd
      · exact h.go hl' hsel _ (hdc.set hr) hp.2 _ w (hf.put hd v) hdf hw
    | _ => cases hq
  | anys M0 p =>
    cases p with
    | q i p =>
      cases hq
      refine ⟨fun hs hl hsel listed hdc hp a w hf hdf hw => ?_⟩
      obtain ⟨ho, hl'⟩ := headOf_eq hl
      simp only [planB, Bool.and_eq_true] at hp
      have hr : i ∈ Region.ready .any all.toArray listed := by simpa using hp.1.1
      refine wpK_first (v := v) ho (Region.noSelect_spec hsel) _ _ _ _ _ (ExtC.sat _ _) (hw.forget hs) hdc (Region.free_spec ho hp.1.2) hr ?_ ?_
      · refine .inl ⟨(Wn.ofB (N := C.N) hg).go a hf _ _ _ _ _, fun w2 hw2 => ?_⟩
        exact hv.go a w2 hf hw2 (some d) pos after gd
      · exact h.go hs hl' hsel _ (hdc.set hr) hp.2 _ w (hf.put hd v) hdf hw
    | _ => cases hq
  | ones M0 i p => cases hq

def skipV (v : Value) (want : Bool) : Bool := match v with
  | .bool b => !(b == want)
  | _ => true
theorem yielded_at {N : Nat} {a : Act} {ops : Array Oper} {j t : Nat} {v : Value} (hf : Fits N st a) (hj : (ops[j]?).bind (·.dst) = some t) (ht : getT st t = some v) : yielded ops a.tmps j = match v with | .bool b => some b | _ => none := by
  simp only [yielded, hj, Option.bind_some, hf.get t _ ht]
  cases v <;> rfl
theorem G.skip {j t : Nat} {want : Bool} {v : Value} (hj : (all.toArray[j]?).bind (·.dst) = some t) (ht : getT st t = some v) (hb : skipV v want = true) (hd : Nat.blt d C.N = true) (hq : q.calm = some q')
    (h : G q' C all ((d, undef) :: st) M rest k) :
    G q C all st M ({ dst := some d, op := opn, type := ty, pos, after, guard := some (j, want) } :: rest) k := by
  have hw : ∀ a, Fits C.N st a → Region.wanted ({ dst := some d, op := opn, type := ty, pos, after, guard := some (j, want) } : Oper) (yielded all.toArray a.tmps) = false := fun a hf => by
    simp only [Region.wanted, yielded_at hf hj ht]
    cases v <;> first | rfl | (simpa [skipV] using hb)
  cases q with
  | seq =>
    cases hq
    refine ⟨fun a w hf hdf hsat idx hi => ?_⟩
    obtain ⟨i, r, rfl, ho, hr⟩ := cons_idx hi
    exact Run.opSkip ho (hw a hf) (h.go _ w (hf.put hd undef) hdf hsat r hr)
  | quiet =>
    cases hq
    refine ⟨fun a hf hdf => ?_⟩
    refine wpQuiet_step fun K hK => ?_
    rw [hw a hf, if_neg (by simp)]
    exact hK _ (h.go _ (hf.put hd undef) hdf)
  | one i p => cases hq
  | any p =>
    cases p with
    | q i p =>
      cases hq
      refine ⟨fun hl hsel listed hdc hp a w hf hdf hsat => ?_⟩
      obtain ⟨ho, hl'⟩ := headOf_eq hl
      simp only [planB, Bool.and_eq_true] at hp
      have hr : i ∈ Region.ready .any all.toArray listed := by simpa using hp.1.1
      refine wpK_first (v := undef) ho (Region.noSelect_spec hsel) _ _ _ _ _ (ExtC.sat _ _) hsat hdc (Region.free_spec ho hp.1.2) hr (.inr ⟨hw a hf, rfl⟩) ?_
      exact h.go hl' hsel _ (hdc.set hr) hp.2 _ w (hf.put hd undef) hdf hsat
    | _ => cases hq
  | anyw n p =>
    cases p with
    | q i p =>
      cases hq
      refine ⟨fun hl hsel listed hdc hp a w hf hdf hsat => ?_⟩
      obtain ⟨ho, hl'⟩ := headOf_eq hl
      simp only [planB, Bool.and_eq_true] at hp
      have hr : i ∈ Region.ready .any all.toArray listed := by simpa using hp.1.1
      refine wpK_first (v := undef) ho (Region.noSelect_spec hsel) _ _ _ _ _ (ExtC.sat _ _) (hsat.forget (List.eraseIdx_sublist _ _)) hdc (Region.free_spec ho hp.1.2) hr (.inr ⟨hw a hf, rfl⟩) ?_
      exact h.go hl' hsel _ (hdc.set hr) hp.2 _ w (hf.put hd undef) hdf hsat
    | _ => cases hq
  | anys M0 p =>
    cases p with
    | q i p =>
      cases hq
      refine ⟨fun hs hl hsel listed hdc hp a w hf hdf hsat => ?_⟩
      obtain ⟨ho, hl'⟩ := headOf_eq hl
      simp only [planB, Bool.and_eq_true] at hp
      have hr : i ∈ Region.ready .any all.toArray listed := by simpa using hp.1.1
      refine wpK_first (v := undef) ho (Region.noSelect_spec hsel) _ _ _ _ _ (ExtC.sat _ _) (hsat.forget hs) hdc (Region.free_spec ho hp.1.2) hr (.inr ⟨hw a hf, rfl⟩) ?_
      exact h.go hs hl' hsel _ (hdc.set hr) hp.2 _ w (hf.put hd undef) hdf hsat
    | _ => cases hq
  | ones M0 i p => cases hq

theorem G.opDec {p : Prop} [Decidable p] (hv : OpV C st (q.cls M) opn ty (.bool (decide p))) (hg : wnB all st gd = true) (hn : noDef opn = true) (hd : Nat.blt d C.N = true) (hq : q.calm = some q')
    (h1 : p → G q' C all ((d, .bool true) :: st) M rest k) (h2 : ¬ p → G q' C all ((d, .bool false) :: st) M rest k) :
    G q C all st M ({ dst := some d, op := opn, type := ty, pos, after, guard := gd } :: rest) k := by
  refine G.op hv hg hn hd hq ?_
  by_cases h : p
  · simpa [h] using h1 h
  · simpa [h] using h2 h

theorem G.opBool {b : Bool} (hv : OpV C st (q.cls M) opn ty (.bool b)) (hg : wnB all st gd = true) (hn : noDef opn = true) (hd : Nat.blt d C.N = true) (hq : q.calm = some q')
    (h1 : b = true → G q' C all ((d, .bool true) :: st) M rest k) (h2 : b = false → G q' C all ((d, .bool false) :: st) M rest k) :
    G q C all st M ({ dst := some d, op := opn, type := ty, pos, after, guard := gd } :: rest) k := by
  refine G.op hv hg hn hd hq ?_
  cases b
  · exact h2 rfl
  · exact h1 rfl

/-! ### operations that change what is known -/
def Eff (C : Ctx) (st : List (Nat × Value)) (M : List Row) (o : Oper) (Post : List (Nat × Value) → List Row → Prop) : Prop :=
  ∀ a w, Fits C.N st a → Sat C.w0 M w → ∀ K : Act → World → Prop, (∀ st' M' a' w', Post st' M' → Fits C.N st' a' → a'.defers = a.defers → Sat C.w0 M' w' → K a' w') →
    o.upon C.P a K (fun _ _ _ => False) ((execOp a.eval o).run C.P w)

/-- It lays something new. -/
theorem G.ext {o : Option Nat} (hg : wnB all st gd = true) (hn : noDef opn = true) (hq : q.ext = some q')
    (h : Eff C st M { dst := o, op := opn, type := ty, pos, after, guard := gd } fun st' M' => M.Sublist M' ∧ G q' C all st' M' rest k) :
    G q C all st M ({ dst := o, op := opn, type := ty, pos, after, guard := gd } :: rest) k := by
  cases q with
  | seq =>
    cases hq
    refine ⟨fun a w hf hdf hw idx hi => ?_⟩
    obtain ⟨i, r, rfl, ho, hr⟩ := cons_idx hi
    refine Run.op ho ((Wn.ofB (N := C.N) hg).go a hf _ _ _ _ _) (.inr (noDef_ne hn)) (h a w hf hw _ fun st' M' a' w' hp hf' hd' hw' => ?_)
    exact hp.2.go a' w' hf' (hd'.trans hdf) hw' r hr
  | quiet => cases hq
  | anyw n p => cases p <;> cases hq
  | ones M0 i p =>
    cases hq
    refine ⟨fun hs hl hsel listed hdc hr hp a w hf hdf hw => ?_⟩
    obtain ⟨ho, hl'⟩ := headOf_eq hl
    refine ⟨_, ho, ?_⟩
    rw [if_pos ((Wn.ofB (N := C.N) hg).go a hf _ _ _ _ _)]
    refine h a w hf hw _ fun st' M' a' w' hp2 hf' hd' hw' => ?_
    exact ⟨Sat C.w0 M0, ExtC.sat _ _, hw'.forget (hs.trans hp2.1), .inl fun u hu => hu, hp2.2.go (hs.trans hp2.1) hl' hsel _ (hdc.set hr) hp a' w' hf' (hd'.trans hdf) hw'⟩
  | anys M0 p =>
    have key : ∀ i p2, q' = .anys M0 p2 → (∀ listed, planB all.toArray listed p = true → Region.ready .any all.toArray listed = [i] ∧ planB all.toArray (listed.setIfInBounds i true) p2 = true) → opsOf all p = headOf all i (opsOf all p2) → p.size = p2.size + 1 →
        AS C all M0 p st M ({ dst := o, op := opn, type := ty, pos, after, guard := gd } :: rest) k := by
      intro i p2 hq2 hplan hops hsize hs hl hsel listed hdc hp a w hf hdf hw
      subst hq2
      rw [hsize]
      rw [hops] at hl
      obtain ⟨ho, hl'⟩ := headOf_eq hl
      obtain ⟨hready, hp2⟩ := hplan listed hp
      intro w1 hb
      refine ⟨fun e => (by rw [hready] at e; cases e), fun j hj => ?_⟩
      have hj' := hj
      rw [hready] at hj'
      have e : j = i := by simpa using hj'
      subst e
      refine ⟨_, ho, ?_⟩
      rw [if_pos ((Wn.ofB (N := C.N) hg).go a hf _ _ _ _ _)]
      refine h a w1 hf (hw.ext hb) _ fun st' M' a' w' hp3 hf' hd' hw' => ?_
      exact ⟨Sat C.w0 M0, ExtC.sat _ _, hw'.forget (hs.trans hp3.1), .inl fun u hu => hu, hp3.2.go (hs.trans hp3.1) hl' hsel _ (hdc.set hj) hp2 a' w' hf' (hd'.trans hdf) hw'⟩
    cases p with
    | e i p2 =>
      cases hq
      exact ⟨key i p2 rfl (fun listed hp => by simpa [planB] using hp) rfl rfl⟩
    | r i p2 =>
      cases hq
      exact ⟨key i p2 rfl (fun listed hp => by simp only [planB, Bool.and_eq_true, beq_iff_eq] at hp; exact ⟨hp.1.1, hp.2⟩) rfl rfl⟩
    | _ => cases hq
  | one i p =>
    cases hq
    refine ⟨fun hl hsel listed hdc hr hp a w hf hdf hw => ?_⟩
    obtain ⟨ho, hl'⟩ := headOf_eq hl
    refine ⟨_, ho, ?_⟩
    rw [if_pos ((Wn.ofB (N := C.N) hg).go a hf _ _ _ _ _)]
    refine h a w hf hw _ fun st' M' a' w' hp2 hf' hd' hw' => ?_
    exact ⟨Sat C.w0 M', ExtC.sat _ _, hw', .inl fun u hu => hu.forget hp2.1, hp2.2.go hl' hsel _ (hdc.set hr) hp a' w' hf' (hd'.trans hdf) hw'⟩
  | any p =>
    have key : ∀ i p2, q' = .any p2 → (∀ listed, planB all.toArray listed p = true → Region.ready .any all.toArray listed = [i] ∧ planB all.toArray (listed.setIfInBounds i true) p2 = true) → opsOf all p = headOf all i (opsOf all p2) → p.size = p2.size + 1 →
        AO C all p st M ({ dst := o, op := opn, type := ty, pos, after, guard := gd } :: rest) k := by
      intro i p2 hq2 hplan hops hsize hl hsel listed hdc hp a w hf hdf hw
      subst hq2
      rw [hsize]
      rw [hops] at hl
      obtain ⟨ho, hl'⟩ := headOf_eq hl
      obtain ⟨hready, hp2⟩ := hplan listed hp
      intro w1 hb
      refine ⟨fun e => (by rw [hready] at e; cases e), fun j hj => ?_⟩
      have hj' := hj
      rw [hready] at hj'
      have e : j = i := by simpa using hj'
      subst e
      refine ⟨_, ho, ?_⟩
      rw [if_pos ((Wn.ofB (N := C.N) hg).go a hf _ _ _ _ _)]
      refine h a w1 hf (hw.ext hb) _ fun st' M' a' w' hp3 hf' hd' hw' => ?_
      exact ⟨Sat C.w0 M', ExtC.sat _ _, hw', .inl fun u hu => hu.forget hp3.1, hp3.2.go hl' hsel _ (hdc.set hj) hp2 a' w' hf' (hd'.trans hdf) hw'⟩
    cases p with
    | e i p2 =>
      cases hq
      exact ⟨key i p2 rfl (fun listed hp => by simpa [planB] using hp) rfl rfl⟩
    | r i p2 =>
      cases hq
      exact ⟨key i p2 rfl (fun listed hp => by simp only [planB, Bool.and_eq_true, beq_iff_eq] at hp; exact ⟨hp.1.1, hp.2⟩) rfl rfl⟩
    | _ => cases hq

/-- It changes what lies. -/
theorem G.res {o : Option Nat} (hg : wnB all st gd = true) (hn : noDef opn = true) (hq : q.res = some q')
    (h : Eff C st M { dst := o, op := opn, type := ty, pos, after, guard := gd } fun st' M' => G q' C all st' M' rest k) :
    G q C all st M ({ dst := o, op := opn, type := ty, pos, after, guard := gd } :: rest) k := by
  cases q with
  | seq =>
    cases hq
    refine ⟨fun a w hf hdf hw idx hi => ?_⟩
    obtain ⟨i, r, rfl, ho, hr⟩ := cons_idx hi
    refine Run.op ho ((Wn.ofB (N := C.N) hg).go a hf _ _ _ _ _) (.inr (noDef_ne hn)) (h a w hf hw _ fun st' M' a' w' hp hf' hd' hw' => ?_)
    exact hp.go a' w' hf' (hd'.trans hdf) hw' r hr
  | quiet => cases hq
  | one i p => cases hq
  | any p =>
    cases p with
    | r i p =>
      cases hq
      refine ⟨fun hl hsel listed hdc hp a w hf hdf hw w1 hb => ?_⟩
      obtain ⟨ho, hl'⟩ := headOf_eq hl
      simp only [planB, Bool.and_eq_true, beq_iff_eq] at hp
      refine ⟨fun e => (by rw [hp.1.1] at e; cases e), fun j hj => ?_⟩
      have hj' := hj
      rw [hp.1.1] at hj'
      have e : j = i := by simpa using hj'
      subst e
      refine ⟨_, ho, ?_⟩
      rw [if_pos ((Wn.ofB (N := C.N) hg).go a hf _ _ _ _ _)]
      refine h a w1 hf (hw.ext hb) _ fun st' M' a' w' hp2 hf' hd' hw' => ?_
      exact ⟨Sat C.w0 M', ExtC.sat _ _, hw', .inr hp.1.2, hp2.go hl' hsel _ (hdc.set hj) hp.2 a' w' hf' (hd'.trans hdf) hw'⟩
    | _ => cases hq
  | anyw n p =>
    cases p with
    | r i p =>
      cases hq
      refine ⟨fun hl hsel listed hdc hp a w hf hdf hw w1 hb => ?_⟩
      obtain ⟨ho, hl'⟩ := headOf_eq hl
      simp only [planB, Bool.and_eq_true, beq_iff_eq] at hp
      refine ⟨fun e => (by rw [hp.1.1] at e; cases e), fun j hj => ?_⟩
      have hj' := hj
      rw [hp.1.1] at hj'
      have e : j = i := by simpa using hj'
      subst e
      refine ⟨_, ho, ?_⟩
      rw [if_pos ((Wn.ofB (N := C.N) hg).go a hf _ _ _ _ _)]
      refine h a w1 hf (hw.ext hb) _ fun st' M' a' w' hp2 hf' hd' hw' => ?_
      exact ⟨Sat C.w0 M', ExtC.sat _ _, hw', .inr hp.1.2, hp2.go hl' hsel _ (hdc.set hj) hp.2 a' w' hf' (hd'.trans hdf) hw'⟩
    | _ => cases hq
  | anys M0 p =>
    cases p with
    | r i p =>
      cases hq
      refine ⟨fun hs hl hsel listed hdc hp a w hf hdf hw w1 hb => ?_⟩
      obtain ⟨ho, hl'⟩ := headOf_eq hl
      simp only [planB, Bool.and_eq_true, beq_iff_eq] at hp
      refine ⟨fun e => (by rw [hp.1.1] at e; cases e), fun j hj => ?_⟩
      have hj' := hj
      rw [hp.1.1] at hj'
      have e : j = i := by simpa using hj'
      subst e
      refine ⟨_, ho, ?_⟩
      rw [if_pos ((Wn.ofB (N := C.N) hg).go a hf _ _ _ _ _)]
      refine h a w1 hf (hw.ext hb) _ fun st' M' a' w' hp2 hf' hd' hw' => ?_
      exact ⟨Sat C.w0 M', ExtC.sat _ _, hw', .inr hp.1.2, hp2.go hl' hsel _ (hdc.set hj) hp.2 a' w' hf' (hd'.trans hdf) hw'⟩
    | _ => cases hq
  | ones M0 i p => cases hq

/-- A store into the row that is set apart. -/
theorem G.stW {o : Option Nat} {n : Nat} {r : Row} (hg : wnB all st gd = true) (hn : noDef opn = true) (hq : q.st n = some q')
    (h : Eff C st M { dst := o, op := opn, type := ty, pos, after, guard := gd } fun st' M' => M' = M.set n r ∧ G q' C all st' M' rest k) :
    G q C all st M ({ dst := o, op := opn, type := ty, pos, after, guard := gd } :: rest) k := by
  cases q with
  | seq => cases hq
  | quiet => cases hq
  | one i p => cases hq
  | any p => cases hq
  | anys M0 p => cases hq
  | ones M0 i p => cases hq
  | anyw m p =>
    cases p with
    | e i p =>
      simp only [Md.st] at hq
      split at hq
      · rename_i hmn
        cases hq
        subst hmn
        refine ⟨fun hl hsel listed hdc hp a w hf hdf hw w1 hb => ?_⟩
        obtain ⟨ho, hl'⟩ := headOf_eq hl
        simp only [planB, Bool.and_eq_true, beq_iff_eq] at hp
        refine ⟨fun e => (by rw [hp.1] at e; cases e), fun j hj => ?_⟩
        have hj' := hj
        rw [hp.1] at hj'
        have e : j = i := by simpa using hj'
        subst e
        refine ⟨_, ho, ?_⟩
        rw [if_pos ((Wn.ofB (N := C.N) hg).go a hf _ _ _ _ _)]
        refine h a w1 hf (hw.ext hb) _ fun st' M' a' w' hp2 hf' hd' hw' => ?_
        have he : M'.eraseIdx m = M.eraseIdx m := by
          rw [hp2.1]
          apply List.ext_getElem?
          intro x
          simp only [List.getElem?_eraseIdx]
          split
          · rw [List.getElem?_set_ne (by omega)]
          · rw [List.getElem?_set_ne (by omega)]
        refine ⟨Sat C.w0 (M'.eraseIdx m), ExtC.sat _ _, hw'.forget (List.eraseIdx_sublist _ _), .inl fun u hu => he ▸ hu, ?_⟩
        exact hp2.2.go hl' hsel _ (hdc.set hj) hp.2 a' w' hf' (hd'.trans hdf) hw'
      · cases hq
    | _ => cases hq

/-- A store into a row that nothing leans on. -/
theorem G.stS {o : Option Nat} {M0 : List Row} (hg : wnB all st gd = true) (hn : noDef opn = true) (hq : q.sto = some (M0, q'))
    (h : Eff C st M { dst := o, op := opn, type := ty, pos, after, guard := gd } fun st' M' => M0.Sublist M' ∧ G q' C all st' M' rest k) :
    G q C all st M ({ dst := o, op := opn, type := ty, pos, after, guard := gd } :: rest) k := by
  cases q with
  | anys M1 p =>
    cases p with
    | e i p =>
      cases hq
      refine ⟨fun hs hl hsel listed hdc hp a w hf hdf hw w1 hb => ?_⟩
      obtain ⟨ho, hl'⟩ := headOf_eq hl
      simp only [planB, Bool.and_eq_true, beq_iff_eq] at hp
      refine ⟨fun e => (by rw [hp.1] at e; cases e), fun j hj => ?_⟩
      have hj' := hj
      rw [hp.1] at hj'
      have e : j = i := by simpa using hj'
      subst e
      refine ⟨_, ho, ?_⟩
      rw [if_pos ((Wn.ofB (N := C.N) hg).go a hf _ _ _ _ _)]
      refine h a w1 hf (hw.ext hb) _ fun st' M' a' w' hp2 hf' hd' hw' => ?_
      exact ⟨Sat C.w0 M0, ExtC.sat _ _, hw'.forget hp2.1, .inl fun u hu => hu, hp2.2.go hp2.1 hl' hsel _ (hdc.set hj) hp.2 a' w' hf' (hd'.trans hdf) hw'⟩
    | _ => cases hq
  | _ => cases hq

end Go.Sl
