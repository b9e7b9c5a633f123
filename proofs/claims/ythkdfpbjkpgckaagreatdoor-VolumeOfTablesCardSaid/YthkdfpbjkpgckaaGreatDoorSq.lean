/-
  Appends in regions that fork, and a stretch of a list.
-/
import Derived.Test.YthkdfpbjkpgckaaGreatDoorM4
set_option linter.unusedVariables false
set_option linter.unusedSimpArgs false
set_option linter.unusedSectionVars false
namespace Go.Sl
open Go.RowKit
variable {C : Ctx} {st : List (Nat × Value)} {M : List Row} {k : List Item} {q q' : Md} {all rest : List Oper} {d : Nat} {opn : Op} {ty : TypeId} {pos : String} {after : Array Edge} {gd : Option (Nat × Bool)}
theorem G.oneS {i : Nat} {p : Pt} {o : Option Nat} {M0 : List Row} (hg : wnB all st gd = true)
    (h : Eff C st M { dst := o, op := opn, type := ty, pos, after, guard := gd } fun st' M' => M0.Sublist M' ∧ G (.anys M0 p) C all st' M' rest k) :
    G (.ones M0 i p) C all st M ({ dst := o, op := opn, type := ty, pos, after, guard := gd } :: rest) k := by
  refine ⟨fun _ hl hsel listed hdc hr hp a w hf hdf hw => ?_⟩
  obtain ⟨ho, hl'⟩ := headOf_eq hl
  refine ⟨_, ho, ?_⟩
  rw [if_pos ((Wn.ofB (N := C.N) hg).go a hf _ _ _ _ _)]
  refine h a w hf hw _ fun st' M' a' w' hp2 hf' hd' hw' => ?_
  exact ⟨Sat C.w0 M0, ExtC.sat _ _, hw'.forget hp2.1, .inl fun u hu => hu, hp2.2.go hp2.1 hl' hsel _ (hdc.set hr) hp a' w' hf' (hd'.trans hdf) hw'⟩
def sdB (all : List Oper) (st : List (Nat × Value)) (gd : Option (Nat × Bool)) (d N : Nat) : Bool := wnB all st gd && Nat.blt d N
/-- An append to a slice that nothing to come leans on. -/
theorem G.apS {T ty' E bytes size n m c base : Nat} {z v : Value} {x y : Operand} {a : Option Addr} {xs news cs : List Value} {F : Row → List Row} {M0 : List Row} (hs : sdB all st gd d C.N = true) (hq : q.sto = some (M0, q'))
    (hx : evS st x = some v) (hy : evS st y = some (.slice a m c)) (hm : RAt (.own base v E size n xs) M F) [hT : TElem C.P T E z size bytes] (hsrc : SrcV C M a m size news) (hcs : xs ++ news = cs) (hb : (n + m) * bytes ≤ 140737488355328) (hnm : n + m ≤ 9223372036854775807)
    (h : ∀ v', M0.Sublist (F (.own 0 v' E size (n + m) cs)) ∧ G q' C all ((d, v') :: st) (F (.own 0 v' E size (n + m) cs)) rest k) :
    G q C all st M ({ dst := some d, op := .call { callee := .builtin .append, args := #[x, y], argTypes := #[T, T] }, type := ty', pos, after, guard := gd } :: rest) k := by
  rw [sdB, Bool.and_eq_true] at hs
  obtain ⟨i, h1, h2⟩ := hm.idx
  exact G.appendS hs.1 hs.2 hq hx h1 hy hsrc hcs hb hnm (fun v' => by rw [h2]; exact (h v').1) fun v' => by rw [h2]; exact (h v').2
/-- The same, the first of a fork. -/
theorem G.apSO {i : Nat} {p : Pt} {T ty' E bytes size n m c base : Nat} {z v : Value} {x y : Operand} {a : Option Addr} {xs news cs : List Value} {F : Row → List Row} {M0 : List Row} (hs : sdB all st gd d C.N = true)
    (hx : evS st x = some v) (hy : evS st y = some (.slice a m c)) (hm : RAt (.own base v E size n xs) M F) [hT : TElem C.P T E z size bytes] (hsrc : SrcV C M a m size news) (hcs : xs ++ news = cs) (hb : (n + m) * bytes ≤ 140737488355328) (hnm : n + m ≤ 9223372036854775807)
    (h : ∀ v', M0.Sublist (F (.own 0 v' E size (n + m) cs)) ∧ G (.anys M0 p) C all ((d, v') :: st) (F (.own 0 v' E size (n + m) cs)) rest k) :
    G (.ones M0 i p) C all st M ({ dst := some d, op := .call { callee := .builtin .append, args := #[x, y], argTypes := #[T, T] }, type := ty', pos, after, guard := gd } :: rest) k := by
  rw [sdB, Bool.and_eq_true] at hs
  obtain ⟨j, h1, h2⟩ := hm.idx
  subst hcs
  refine G.oneS hs.1 (Eff.val hs.2 fun ac w hf hw => ?_)
  obtain ⟨v', w', h3, h4⟩ := append_run (T := T) (dst := some d) (ty' := ty') (pos := pos) (after := after) (gd := gd) hf hw hx h1 hy hsrc hb hnm
  exact ⟨v', w', _, h3, h4, by rw [h2]; exact (h v').1, by rw [h2]; exact (h v').2⟩
/-- A stretch of a list. -/
theorem SlAt.seg {A : Type} {f : A → List Value} {sz : Nat} {l : List A} {w : World} {b o : Nat} (h : ∀ i (hi : i < l.length), RowAt w b (o + i * sz) (f l[i])) (p n : Nat) (hp : p + n ≤ l.length) : SlAt w (some ⟨b, o + p * sz, none⟩) sz (((l.drop p).take n).map f) := fun _ =>
  ⟨b, o + p * sz, rfl, fun i cs hi => by
    rw [List.getElem?_map, List.getElem?_take] at hi
    split at hi
    · rename_i hin
      rw [List.getElem?_drop, List.getElem?_eq_getElem (show p + i < l.length by omega)] at hi
      cases hi
      have := h (p + i) (by omega)
      rw [Nat.add_mul, ← Nat.add_assoc] at this
      exact this
    · cases hi⟩
theorem Row.not_lt {N : Nat} : ¬ N < N := Nat.lt_irrefl N
end Go.Sl
