/-
  Contract of the backward iterator.
-/
import Derived.Test.YtjfbdffcgapdlaaK

namespace Go.Proofs.Ytjfbdffcgapdlaa
open Go.RowKit Go.Sl


theorem capRow_call {w0 w w' : World} {M : List Row} {B : Nat} {sk ev : Value} (hw : Sat w0 M w) (h1 : RowAt w' B 0 [sk, ev]) (h2 : w.heap.size ≤ B) (h3 : Below w.heap.size w w') : Sat w0 (capRow w0 B sk ev :: M) w' := by
  refine hw.new h3 (fun _ => ⟨B, 0, rfl, fun i cs hi => ?_⟩) (Nat.le_refl _) fun b hb => ?_
  · cases i with
    | zero => cases hi; rw [Nat.zero_mul]; exact h1
    | succ i => simp at hi
  · obtain ⟨h0, p, h5, h6, h7⟩ := hb
    cases h5
    simp only at h6
    subst h6
    exact ⟨h2, h1.1⟩

theorem callE {C : Ctx} {st : List (Nat × Value)} {M : List Row} {k : List Item} {q q' : Md} {all rest : List Oper} {dd : Nat} {ty : TypeId} {pos : String} {after : Array Edge} {gd : Option (Nat × Bool)} {X : Type} {g : FuncId} {args : List Operand} {vs : List Value} {at_ : Array TypeId} (v : X → Value) (Mn : X → List Row) (hg : wnB all st gd = true) (hd : Nat.blt dd C.N = true) (hq : q.ext = some q')
    (ha : evL st args = some vs) [hF : Fun C.P g]
    (hc : ∀ w, Sat C.w0 M w → Calls C.P g vs.toArray w fun e w' => ∃ x, e = .returned (v x) ∧ Sat C.w0 (Mn x ++ M) w')
    (h : ∀ x, G q' C all ((dd, v x) :: st) (Mn x ++ M) rest k) :
    G q C all st M ({ dst := some dd, op := .call { callee := .value (.func g), args := args.toArray, argTypes := at_ }, type := ty, pos, after, guard := gd } :: rest) k := G.call0 hg hd hq ha hc h

def swp (e : Ed) : Ed := (e.2.1, e.1, e.2.2)

theorem LdV.cap {C : Ctx} {M : List Row} {w0 : World} {B : Nat} {sk ev : Value} (hm : capRow w0 B sk ev ∈ M) [hT : TAgg C.P 25 2] : LdV C M 25 ⟨B, 0, none⟩ (.agg #[sk, ev]) :=
  LdV.agg (vs := [sk, ev]) rfl (CellsV.of fun j v hv => by
    have := CellV.sl (C := C) (f := id) (l := [[sk, ev]]) (i := 0) (j := j) (v := v) hm (by simp) hv
    simpa using this)

theorem c40 (w0 : World) (n : Nat) (B : Nat) (sk : Value) (b : Option Addr) (ev : List Ev) (d : Nat) (hB : SlAt w0 b 6 (ev.map evV)) (hx : ∀ x ∈ ev, evErr x n = 0) (hm : ev.length ≤ 200) :
    IterF Try.prog w0 [capRow w0 B sk (.slice b ev.length d)] 40 #[.pointer (some ⟨B, 0, none⟩)] edA ((edgesS ev).map swp) := by
  intro X R stp Inv fY cY hY x0 hI M1 w hw
  show Calls Try.prog 40 #[.func fY #[] cY, .pointer (some ⟨B, 0, none⟩)] w _
  have hfold : ((edgesS ev).map swp).foldl stp x0 = (edgesS ev).foldl (fun x e => stp x (swp e)) x0 := List.foldl_map
  rw [hfold]
  refine enterM [(0, .func fY #[] cY), (1, .pointer (some ⟨B, 0, none⟩))] hw Try.func40 rfl Try.ntmps40 (by simp) ⟨rfl, rfl, trivial⟩ ?_
  repeat' (first | first | (apply G.load; rfl; exact LdV.cap (.tail _ (.head _)); rfl; rfl; rfl) | (apply callE (g := 41) (X := Nat) (v := fun B => .func (.func 47) #[] #[.pointer (some ⟨B, 0, none⟩)]) (Mn := fun B => [capRow w0 B sk (.slice b ev.length d)]); rfl; rfl; rfl; rfl; exact fun w' hw' => (c41 sk (.slice b ev.length d) w').mono fun e w2 ⟨B, q1, q2, q3, q4⟩ => ⟨B, q1, capRow_call hw' q2 q3 q4⟩; intro B2) | (apply G.move; rfl; rfl; rfl; rfl) | (apply G.assign; rfl; rfl; rfl; rfl) | (apply G.fieldAddr; rfl; rfl; rfl; rfl) | (apply G.load; rfl; (first | (apply LdV.one; (first | exact CellV.row0 (by assumption) rfl | exact CellV.rowS (by assumption) rfl | (apply CellV.blk; (repeat (first | exact List.Mem.head _ | apply List.Mem.tail)); rfl))) | (apply LdV.aggBlk; (repeat (first | exact List.Mem.head _ | apply List.Mem.tail)); rfl) | (apply LdV.aggRow; assumption; rfl)); rfl; rfl; rfl) | (apply G.nil; rfl) | apply J.seq | (apply J.condT; rfl) | (apply J.condF; rfl) | apply J.skip | apply J.block | apply J.inBlock | (apply J.exit; rfl) | (apply G.skip; rfl; rfl; rfl; rfl; rfl) | (apply G.lenSlice; rfl; rfl; rfl; rfl) | (apply G.indexAddr; rfl; rfl; rfl; omega; rfl; rfl; rfl) | (apply G.notT; rfl; rfl; rfl; rfl) | (apply G.notF; rfl; rfl; rfl; rfl) | (apply G.pickT; rfl; rfl; rfl; rfl; rfl) | (apply G.pickF; rfl; rfl; rfl; rfl; rfl) | (apply G.lss; rfl; rfl; rfl; rfl; rfl; all_goals intro h; all_goals try (exfalso; omega)) | (apply G.leq; rfl; rfl; rfl; rfl; rfl; all_goals intro h; all_goals try (exfalso; omega)) | (apply G.gtr; rfl; rfl; rfl; rfl; rfl; all_goals intro h; all_goals try (exfalso; omega)) | (apply G.geq; rfl; rfl; rfl; rfl; rfl; all_goals intro h; all_goals try (exfalso; omega)) | (apply G.eql; rfl; rfl; rfl; rfl; rfl; all_goals intro h; all_goals try (exfalso; omega)) | (apply G.neq; rfl; rfl; rfl; rfl; rfl; all_goals intro h; all_goals try (exfalso; omega)) | (apply G.eql2; rfl; rfl; rfl; rfl; rfl; all_goals intro h; all_goals try (exfalso; omega)) | (apply G.neq2; rfl; rfl; rfl; rfl; rfl; all_goals intro h; all_goals try (exfalso; omega)) | (apply G.add; rfl; rfl; omega; omega; rfl; rfl; rfl) | (apply G.sub; rfl; rfl; omega; omega; rfl; rfl; rfl) | (apply G.addW; rfl; rfl; rfl; rfl; rfl) | (apply G.subW; rfl; rfl; rfl; rfl; rfl) | (apply G.extract; rfl; rfl; rfl; rfl; rfl) | (apply G.build; rfl; rfl; rfl; rfl; rfl) | (apply G.neg; rfl; omega; omega; rfl; rfl; rfl) | (apply G.max2; rfl; rfl; rfl; rfl; rfl) | (apply G.min2; rfl; rfl; rfl; rfl; rfl) | (apply G.box; rfl; rfl; rfl; rfl; rfl; intro Bk) | (apply G.alloc; rfl; rfl; rfl; intro Bk) | (apply G.store (i := 0); rfl; rfl; rfl; rfl; rfl; rfl; rfl; rfl; rfl) | (apply G.store (i := 1); rfl; rfl; rfl; rfl; rfl; rfl; rfl; rfl; rfl) | (apply G.store (i := 2); rfl; rfl; rfl; rfl; rfl; rfl; rfl; rfl; rfl) | (apply G.store (i := 3); rfl; rfl; rfl; rfl; rfl; rfl; rfl; rfl; rfl) | (apply G.store (i := 4); rfl; rfl; rfl; rfl; rfl; rfl; rfl; rfl; rfl) | (apply G.storeSame (i := 0); rfl; rfl; rfl; rfl; rfl; rfl; rfl; rfl; rfl; rfl) | (apply G.storeSame (i := 1); rfl; rfl; rfl; rfl; rfl; rfl; rfl; rfl; rfl; rfl) | (apply G.storeSame (i := 2); rfl; rfl; rfl; rfl; rfl; rfl; rfl; rfl; rfl; rfl) | (apply J.regQ; exact Try.mixed; decide +kernel) | apply J.reg)
  refine J.rangeF (f := 47) (E := Ed) (R := fun x => .blk Bk 85 [.func fY #[] cY] 1 :: R x) (stp := fun x e => stp x (swp e)) (Inv := Inv) (x0 := x0) (M1 := capRow w0 B sk (.slice b ev.length d) :: M1) (c47 w0 n B2 sk b ev d hB hx hm) rfl rfl rfl ?_ hI ?_ ?_
  · exact perm_cat [[capRow w0 B2 sk (.slice b ev.length d)], [.blk Bk 85 [.func fY #[] cY] 1], [capRow w0 B sk (.slice b ev.length d)], R x0, M1] [0, 1, 2, 3, 4] [0, 1, 3, 2, 4] rfl
  · intro i x e h1 h2 L r M' hr1 hr2
    obtain ⟨e1, e2, e3⟩ := e
    dsimp only
    have hcY : ∀ (own : List Row) w, Sat w0 (own ++ (R x ++ M')) w → CallsV Try.prog (.func fY #[] cY) [edA (e2, e1, e3)] w fun v w' => ∃ _ : PLift (Inv (i + 1) (stp x (e2, e1, e3))), v = .bool true ∧ Sat w0 (own ++ (R (stp x (e2, e1, e3)) ++ M')) w' := by
      intro own w hw
      have hp : ∀ x, (own ++ (R x ++ M')).Perm (R x ++ (own ++ M')) := fun x => perm_cat [own, R x, M'] [0, 1, 2] [1, 0, 2] rfl
      exact (hY i x (e2, e1, e3) h1 (by rw [List.getElem?_map, h2]; rfl) _ w (hw.perm (hp x))).mono fun v w' ⟨q1, q2, q3⟩ => ⟨⟨q2⟩, q1, q3.perm (hp _).symm⟩
    repeat' (first | first | (apply J.beginR (i := 1) rfl rfl hr1) | (apply G.callY (X := PLift (Inv (i + 1) (stp x (e2, e1, e3)))) (fun _ => .bool true) _; rfl; rfl; rfl; rfl; exact fun w hw => hcY [_, _, _] w hw; rintro ⟨hI1⟩) | (apply G.move; rfl; rfl; rfl; rfl) | (apply G.assign; rfl; rfl; rfl; rfl) | (apply G.fieldAddr; rfl; rfl; rfl; rfl) | (apply G.load; rfl; (first | (apply LdV.one; (first | exact CellV.row0 (by assumption) rfl | exact CellV.rowS (by assumption) rfl | (apply CellV.blk; (repeat (first | exact List.Mem.head _ | apply List.Mem.tail)); rfl))) | (apply LdV.aggBlk; (repeat (first | exact List.Mem.head _ | apply List.Mem.tail)); rfl) | (apply LdV.aggRow; assumption; rfl)); rfl; rfl; rfl) | (apply G.nil; rfl) | apply J.seq | (apply J.condT; rfl) | (apply J.condF; rfl) | apply J.skip | apply J.block | apply J.inBlock | (apply J.exit; rfl) | (apply G.skip; rfl; rfl; rfl; rfl; rfl) | (apply G.lenSlice; rfl; rfl; rfl; rfl) | (apply G.indexAddr; rfl; rfl; rfl; omega; rfl; rfl; rfl) | (apply G.notT; rfl; rfl; rfl; rfl) | (apply G.notF; rfl; rfl; rfl; rfl) | (apply G.pickT; rfl; rfl; rfl; rfl; rfl) | (apply G.pickF; rfl; rfl; rfl; rfl; rfl) | (apply G.lss; rfl; rfl; rfl; rfl; rfl; all_goals intro h; all_goals try (exfalso; omega)) | (apply G.leq; rfl; rfl; rfl; rfl; rfl; all_goals intro h; all_goals try (exfalso; omega)) | (apply G.gtr; rfl; rfl; rfl; rfl; rfl; all_goals intro h; all_goals try (exfalso; omega)) | (apply G.geq; rfl; rfl; rfl; rfl; rfl; all_goals intro h; all_goals try (exfalso; omega)) | (apply G.eql; rfl; rfl; rfl; rfl; rfl; all_goals intro h; all_goals try (exfalso; omega)) | (apply G.neq; rfl; rfl; rfl; rfl; rfl; all_goals intro h; all_goals try (exfalso; omega)) | (apply G.eql2; rfl; rfl; rfl; rfl; rfl; all_goals intro h; all_goals try (exfalso; omega)) | (apply G.neq2; rfl; rfl; rfl; rfl; rfl; all_goals intro h; all_goals try (exfalso; omega)) | (apply G.add; rfl; rfl; omega; omega; rfl; rfl; rfl) | (apply G.sub; rfl; rfl; omega; omega; rfl; rfl; rfl) | (apply G.addW; rfl; rfl; rfl; rfl; rfl) | (apply G.subW; rfl; rfl; rfl; rfl; rfl) | (apply G.extract; rfl; rfl; rfl; rfl; rfl) | (apply G.build; rfl; rfl; rfl; rfl; rfl) | (apply G.neg; rfl; omega; omega; rfl; rfl; rfl) | (apply G.max2; rfl; rfl; rfl; rfl; rfl) | (apply G.min2; rfl; rfl; rfl; rfl; rfl) | (apply G.box; rfl; rfl; rfl; rfl; rfl; intro Bk) | (apply G.alloc; rfl; rfl; rfl; intro Bk) | (apply G.store (i := 0); rfl; rfl; rfl; rfl; rfl; rfl; rfl; rfl; rfl) | (apply G.store (i := 1); rfl; rfl; rfl; rfl; rfl; rfl; rfl; rfl; rfl) | (apply G.store (i := 2); rfl; rfl; rfl; rfl; rfl; rfl; rfl; rfl; rfl) | (apply G.store (i := 3); rfl; rfl; rfl; rfl; rfl; rfl; rfl; rfl; rfl) | (apply G.store (i := 4); rfl; rfl; rfl; rfl; rfl; rfl; rfl; rfl; rfl) | (apply G.storeSame (i := 0); rfl; rfl; rfl; rfl; rfl; rfl; rfl; rfl; rfl; rfl) | (apply G.storeSame (i := 1); rfl; rfl; rfl; rfl; rfl; rfl; rfl; rfl; rfl; rfl) | (apply G.storeSame (i := 2); rfl; rfl; rfl; rfl; rfl; rfl; rfl; rfl; rfl; rfl) | (apply J.regQ; exact Try.mixed; decide +kernel) | apply J.reg)
    refine leaveR (i := 1) hr1 hr2 rfl fun w' hw' => ⟨rfl, hI1, ?_⟩
    exact hw'.forget (List.sublist_cons_self _ _)
  · intro Bd hIF
    apply J.inBlock
    dsimp only
    apply leaveEndM (F := 40) (ds := [Bd]) (M0 := capRow w0 B2 sk (.slice b ev.length d) :: .blk Bk 85 [.func fY #[] cY] 1 :: capRow w0 B sk (.slice b ev.length d) :: (R ((edgesS ev).foldl (fun x e => stp x (swp e)) x0) ++ M1)) Try.func40 rfl rfl rfl rfl (RunsTo.zero Try.results40)
    · exact perm_cat [[Row.obj Bd (.deferred (some []))], [capRow w0 B2 sk (.slice b ev.length d)], [.blk Bk 85 [.func fY #[] cY] 1], R ((edgesS ev).foldl (fun x e => stp x (swp e)) x0), [capRow w0 B sk (.slice b ev.length d)], M1] [0, 1, 2, 3, 4, 5] [0, 1, 2, 4, 3, 5] rfl
    · intro w' hw'
      refine ⟨rfl, by rw [List.length_map]; exact hIF, ?_⟩
      exact hw'.forget (.cons _ (.cons _ (List.Sublist.refl _)))
end Go.Proofs.Ytjfbdffcgapdlaa
