/-
  Contracts of rights: a rank of the specification.
-/
import Derived.Test.YteaccaieaigeaaaGreatDoorNB12
set_option linter.unusedVariables false
set_option linter.unusedSimpArgs false
set_option linter.unusedSectionVars false
namespace Go.Proofs.YteaccaieaigeaaaGreatDoor
open Go.RowKit Go.Sl Go.Num
/-- The takes after a rank. -/
def rkT (R : List Rch) (Gs : List Rat) (L : List Cm) (r : Nat) (T : List Rat) : List Rat := (rankZ (onR R) R.length (fsq Gs) r (L.zip T)).map (·.2)
theorem rkT_zip {R : List Rch} {Gs : List Rat} {L : List Cm} {T : List Rat} (h : T.length = L.length) (r : Nat) : L.zip (rkT R Gs L r T) = rankZ (onR R) R.length (fsq Gs) r (L.zip T) ∧ (rkT R Gs L r T).length = L.length := by
  have h1 := rankZ_fst (onR R) R.length (fsq Gs) r (L.zip T)
  rw [rkT]
  generalize rankZ (onR R) R.length (fsq Gs) r (L.zip T) = Z at *
  rw [List.map_fst_zip (by omega)] at h1
  refine ⟨?_, by rw [List.length_map, ← h1, List.length_map]⟩
  rw [← h1, List.zip_map']
  exact (List.map_congr_left (fun x _ => rfl)).trans (List.map_id Z)
theorem anyO {L : List Cm} {T : List Rat} {O : List Bool} (h1 : T.length = L.length) (h2 : O.length = L.length) : ((zz L T O).any fun z => z.2.2) = O.any id := by
  rw [Bool.eq_iff_iff, List.any_eq_true, List.any_eq_true]
  constructor
  · rintro ⟨z, hz, h⟩
    exact ⟨z.2.2, (List.of_mem_zip (List.of_mem_zip hz).2).2, h⟩
  · rintro ⟨b, hb, h⟩
    obtain ⟨k, hk, rfl⟩ := List.getElem_of_mem hb
    refine ⟨(L[k], T[k], O[k]), ?_, h⟩
    rw [← zz_get (by omega) (by omega) hk (by rw [zz_len h1 h2]; omega)]
    exact List.getElem_mem _
/-- The first k of one list, and what follows of another one. -/
def mixL {α : Type} (N O : List α) (k : Nat) : List α := N.take k ++ O.drop k
theorem mixL_len {α : Type} {N O : List α} {k : Nat} (h : N.length = O.length) : (mixL N O k).length = O.length := by
  rw [mixL, List.length_append, List.length_take, List.length_drop]; omega
theorem mixL_get {α : Type} {N O : List α} {k : Nat} (h : N.length = O.length) (hk : k < O.length) : (mixL N O k)[k]? = some O[k] := by
  rw [mixL, List.getElem?_append_right (by rw [List.length_take]; omega), List.length_take, List.getElem?_drop, show k + (k - min k N.length) = k by omega, List.getElem?_eq_getElem hk]
theorem mixL_set {α : Type} {N O : List α} {k : Nat} (h : N.length = O.length) (hk : k < O.length) (hk2 : k < N.length) : (mixL N O k).set k N[k] = mixL N O (k + 1) := by
  rw [mixL, mixL, List.set_append_right _ _ (by rw [List.length_take]; omega), List.length_take, show k - min k N.length = 0 by omega, List.drop_eq_getElem_cons hk, List.set_cons_zero, List.take_add_one, List.getElem?_eq_getElem hk2, List.append_assoc]
  rfl
theorem mixL_zero {α : Type} (N O : List α) : mixL N O 0 = O := by rw [mixL]; rfl
theorem mixL_end {α : Type} {N O : List α} (h : N.length = O.length) : mixL N O O.length = N := by rw [mixL, List.drop_length, List.append_nil, List.take_of_length_le (by omega)]
theorem oLen (O : List Bool) : (flat oV O).length = O.length := by rw [flat_len oV_len, Nat.mul_one]
theorem oGet {O : List Bool} {k : Nat} {b : Bool} (h : O[k]? = some b) : (flat oV O)[0 + k * 1]? = some (.bool b) := by
  rw [Nat.zero_add]
  have h1 := flat_at (f := oV) oV_len (i := k) (j := 0) (l := O) (List.getElem?_eq_some_iff.1 h).1 (by decide)
  rw [Nat.add_zero] at h1
  rw [h1, (List.getElem?_eq_some_iff.1 h).2]; rfl
theorem oSet {O : List Bool} {k : Nat} (h : k < O.length) (b : Bool) : setL (flat oV O) (0 + k * 1) [.bool b] = flat oV (O.set k b) := by rw [Nat.zero_add]; exact flat_set oV_len h b
end Go.Proofs.YteaccaieaigeaaaGreatDoor
/-
  Contracts: the keys of a map, collected and sorted.
-/
namespace Go.Proofs.YteaccaieaigeaaaGreatDoor
open Go.RowKit Go.Sl Go.Num
instance : TMap Tryz.prog 74 3 4 (.bool false) := ⟨by kernel_rfl, fun w => Tryz.zeroValue4 w⟩
/-- A call of yield in a loop that is never left. -/
theorem callPG {C : Ctx} {st : List (Nat × Value)} {M : List Row} {k : List Item} {all rest : List Oper} {d : Nat} {ty : TypeId} {pos : String} {after : Array Edge} {gd : Option (Nat × Bool)} {X : Type} {Rs : X → List Row} {x : X} {K M1 : List Row} {f : Operand} {args : List Operand} {vs : List Value} {fv : Value} {at_ : Array TypeId} (Ok : X → Prop)
    (hc : ∀ M' w, Sat C.w0 (Rs x ++ M') w → CallsV C.P fv vs w fun v w' => ∃ x', Sat C.w0 (Rs x' ++ M') w' ∧ v = .bool true ∧ Ok x')
    (hf : evS st f = some fv) (ha : evL st args = some vs) (hw : wnB all st gd = true) (hd : Nat.blt d C.N = true) (hM : Splt (Rs x ++ M1) M K)
    (h1 : ∀ x', Ok x' → G .seq C all ((d, .bool true) :: st) (K ++ (Rs x' ++ M1)) rest k) :
    G .seq C all st M ({ dst := some d, op := .call { callee := .value f, args := args.toArray, argTypes := at_ }, type := ty, pos, after, guard := gd } :: rest) k :=
  G.callG (Rs := Rs) (x := x) (M1 := M1) Ok (fun _ => False) (fun M' w hw' => (hc M' w hw').mono fun v w' ⟨x', h2, h3, h4⟩ => ⟨x', h2, .inl ⟨h3, h4⟩⟩) hf ha hw hd hM h1 fun _ h => h.elim
theorem map_eraseIdx' {α β : Type} (f : α → β) : ∀ (l : List α) (k : Nat), (l.map f).eraseIdx k = (l.eraseIdx k).map f
  | [], _ => rfl
  | _ :: _, 0 => rfl
  | x :: l, k + 1 => by rw [List.map_cons, List.eraseIdx_cons_succ, List.eraseIdx_cons_succ, List.map_cons, map_eraseIdx' f l k]
theorem cons_eraseIdx {α : Type} : ∀ {l : List α} {i : Nat} (h : i < l.length), (l[i] :: l.eraseIdx i).Perm l
  | x :: l, 0, _ => .refl _
  | x :: l, i + 1, h => by
    rw [List.eraseIdx_cons_succ, List.getElem_cons_succ]
    exact (List.Perm.swap _ _ _).trans (.cons x (cons_eraseIdx (by simpa using h)))
theorem keys_iter (w0 : World) (Bm b : Nat) (es : Array MapEntry) (clock : Nat) (L : List (Int × Value)) (hI : MapIs (Value.int .i64) es clock L) :
    IterP Tryz.prog w0 [.blk Bm 74 [.map (some b)] 1, .obj b (.map es clock)] 76 #[.pointer (some ⟨Bm, 0, none⟩)] (fun e : Int => [.int .i64 e]) (L.map (·.1)) := by
  intro X Rs Inv fY cY hY x0 hI0 M1 w hw
  refine enterR [(0, .func fY #[] cY), (1, .pointer (some ⟨Bm, 0, none⟩))] hw Tryz.func76 Tryz.ntmps76 ?_
  all_goals (refine go ?_; and_intros <;> (try exact trivial) <;> repeat (first | refine fun (Bk : Nat) => ?_ | intro h))
  repeat' ((first | (apply G.rg; rfl; exact mm; rfl; intro br)) <;> (refine go ?_; and_intros <;> (try exact trivial) <;> repeat (first | refine fun (Bk : Nat) => ?_ | intro h)))
  refine J.loop (c := _) ((L, #[], x0) : List (Int × Value) × Array Nat × X) (fun s => s.1.length) (fun s => [(0, .func fY #[] cY), (5, .pointer (some ⟨br, 0, none⟩))]) (fun s => .obj br (.mapIter (some b) clock s.2.1 clock) :: .blk Bm 74 [.map (some b)] 1 :: .obj b (.map es clock) :: (Rs s.2.2 ++ M1)) (fun s => Rem (Value.int .i64) es s.2.1 s.1 ∧ Inv (s.1.map (·.1)) s.2.2) ?_ sbT sbL ?_
  · exact ⟨Rem.start hI, hI0⟩
  clear hI0 hw
  intro ⟨R, seen, x⟩ ⟨hR, h2⟩ ih
  dsimp only at hR h2 ⊢
  by_cases hR0 : R = []
  · subst hR0
    clear ih
    all_goals (refine go ?_; and_intros <;> (try exact trivial) <;> repeat (first | refine fun (Bk : Nat) => ?_ | intro h))
    repeat' ((first | (apply G.nx0 hI hR; rfl; rfl; exact mm; exact mm)) <;> (refine go ?_; and_intros <;> (try exact trivial) <;> repeat (first | refine fun (Bk : Nat) => ?_ | intro h)))
    refine end0 Tryz.func76 Tryz.results76 ?_
    exact fun w' hw' => ⟨rfl, x, hw'.forget sbL, h2⟩
  · have hy : ∀ j (hj : j < R.length), ∀ M' w', Sat w0 (Rs x ++ M') w' → CallsV Tryz.prog (.func fY #[] cY) [.int .i64 R[j].1] w' fun v w2 => ∃ x', Sat w0 (Rs x' ++ M') w2 ∧ v = .bool true ∧ Inv ((R.eraseIdx j).map (·.1)) x' := fun j hj M' w' hw' => by
      have h3 := hY (R.map (·.1)) x j (by rw [List.length_map]; exact hj) h2 M' w' hw'
      rw [List.getElem_map, map_eraseIdx'] at h3
      exact h3
    have ih := fun j (hj : j < R.length) seen' x' h3 h4 => ih (R.eraseIdx j, seen', x') ⟨h3, h4⟩ (by dsimp only; rw [List.length_eraseIdx]; rw [if_pos hj]; omega)
    dsimp only at ih
    clear hY
    all_goals (refine go ?_; and_intros <;> (try exact trivial) <;> repeat (first | refine fun (Bk : Nat) => ?_ | intro h))
    repeat' ((first | (apply G.nx1 hI hR hR0; rfl; rfl; (repeat (first | exact RAt.head | apply RAt.tail)); exact mm; intro j hj seen' hR' ⟨e, he, hsn, hek, hev⟩) | (apply G.en hI he hsn hek hev; rfl; rfl; exact mm; exact mm) | (refine callPG (Rs := Rs) (x := x) (M1 := M1) (fun x' => Inv ((R.eraseIdx j).map (·.1)) x') (hy j hj) rfl rfl rfl rfl (by (repeat (first | exact Splt.nil | apply Splt.cons))) ?_; intro x' hx')) <;> (refine go ?_; and_intros <;> (try exact trivial) <;> repeat (first | refine fun (Bk : Nat) => ?_ | intro h)))
    exact J.fin (ih j hj seen' x' hR' hx')
theorem keys_holds (w0 : World) (M : List Row) (w : World) (v : Value) (b : Nat) (hw : Sat w0 M w) :
    Calls Tryz.prog 38 #[.map (some b)] w fun e w' => ∃ x : Nat, e = .returned (.func (.func 76) #[] #[.pointer (some ⟨x, 0, none⟩)]) ∧ Sat w0 (.blk x 74 [.map (some b)] 1 :: M) w' := by
  refine enterR [(0, .map (some b))] hw Tryz.func38 Tryz.ntmps38 ?_
  all_goals (refine go ?_; and_intros <;> (try exact trivial) <;> repeat (first | refine fun (Bk : Nat) => ?_ | intro h))
  refine ret1 Tryz.func38 Tryz.results38 ?_
  exact fun w' hw' => ⟨_, rfl, hw'⟩
theorem eraseIdx_perm {α : Type} {R S : List α} : ∀ {T : List α} {i : Nat} (hi : i < T.length), (S ++ T).Perm R → ((S ++ [T[i]]) ++ T.eraseIdx i).Perm R := fun {T} {i} hi h => by
  refine List.Perm.trans ?_ h
  rw [List.append_assoc]
  refine List.Perm.append_left _ ?_
  exact cons_eraseIdx hi
/-- A call that hands back a slice of its own which holds the keys in some order, and loses K. -/
theorem appendSeq_holds (w0 : World) (M K : List Row) (w : World) (f : FuncId) [hF : Fun Tryz.prog f] (cap : Array Value) (Ks : List Int) (hIt : IterP Tryz.prog w0 K f cap (fun e : Int => [.int .i64 e]) Ks) (hl : Ks.length ≤ 1000000) (hw : Sat w0 (K ++ M) w) :
    Calls Tryz.prog 109 #[.slice none 0 0, .func (.func f) #[] cap] w fun e w' => ∃ x : Option Addr × Nat × List Int, e = .returned (.slice x.1 x.2.2.length x.2.1) ∧ x.2.2.Perm Ks ∧ Sat w0 (.own 0 (.slice x.1 x.2.2.length x.2.1) 3 1 x.2.2.length (flat isV x.2.2) :: M) w' := by
  refine enterR [(0, .slice none 0 0), (1, .func (.func f) #[] cap)] hw Tryz.func109 Tryz.ntmps109 ?_
  all_goals (refine go ?_; and_intros <;> (try exact trivial) <;> repeat (first | refine fun (Bk : Nat) => ?_ | intro h))
  apply J.nilOwn (E := 3) (size := 1)
  refine J.rangeP1 (e1 := fun e : Int => .int .i64 e) (es := Ks) (K := K) (fun s : Option Addr × Nat × List Int => [.own 0 (.slice s.1 s.2.2.length s.2.1) 3 1 s.2.2.length (flat isV s.2.2), .blk Bk 42 [.slice s.1 s.2.2.length s.2.1] 1]) (fun R s => (s.2.2 ++ R).Perm Ks) (none, 0, []) M hIt rfl rfl rfl (perm_cat [[_], [_], K, M] [0, 1, 2, 3] [2, 0, 1, 3] rfl) (.refl _) ?_ ?_
  · intro R ⟨au, cu, S⟩ i hi hP L0 rr M' hrs hrp
    dsimp only at hP ⊢
    have hP2 := eraseIdx_perm hi hP
    have hlS : S.length + 1 ≤ 1000000 := by
      have := hP.length_eq
      rw [List.length_append] at this
      omega
    have hap : flat isV S ++ isV R[i] = flat isV (S ++ [R[i]]) := flat1 isV _ _
    have hsl : (S ++ [R[i]]).length = S.length + 1 := by rw [List.length_append]; rfl
    generalize R[i] = y at *
    dsimp only [isV] at hap ⊢
    all_goals (refine goR ?_; and_intros <;> (try exact trivial) <;> repeat (first | refine fun (Bk : Nat) => ?_ | intro h))
    repeat' ((first | (refine J.beginR rfl (i := 0) rfl hrs ?_) | (apply G.sliceL; rfl; rfl; rfl; rfl; rfl; rfl; rfl; rfl; intro Bs) | (apply G.apV; rfl; rfl; rfl; (repeat (first | exact RAt.head | apply RAt.tail)); exact SrcV.blk (by exact mm) rfl rfl; exact hap; omega; omega; intro a2 c2) | (apply J.regQ; exact Tryz.mixed; decide +kernel) | (apply J.regL'; exact Tryz.mixed; decide +kernel)) <;> (refine goR ?_; and_intros <;> (try exact trivial) <;> repeat (first | refine fun (Bk : Nat) => ?_ | intro h)))
    rw [← hsl]
    exact J.sel (leaveP hrs hrp (a2, c2, S ++ [y]) hP2 rfl)
  · intro Bd ⟨au, cu, S⟩ hP
    dsimp only at hP ⊢
    rw [List.append_nil] at hP
    all_goals (refine go ?_; and_intros <;> (try exact trivial) <;> repeat (first | refine fun (Bk : Nat) => ?_ | intro h))
    refine J.sel (T := .obj Bd (.deferred (some [])) :: .own 0 (.slice au S.length cu) 3 1 S.length (flat isV S) :: M) ?_
    refine leaveM (v := .slice au S.length cu) (ds := [Bd]) (M0 := .own 0 (.slice au S.length cu) 3 1 S.length (flat isV S) :: M) Tryz.func109 rfl rfl rfl rfl (RunsTo.one Tryz.results109 (by (first | (apply ResV.tmp; rfl) | (apply ResV.cell; rfl; (first | (apply LdV.one; (first | exact CellV.row0 (by assumption) rfl | exact CellV.rowS (by assumption) rfl | exact CellV.rowSS (by assumption) rfl | (apply CellV.blk; exact mm; rfl))) | (apply LdV.aggBlk; exact mm; rfl) | (apply LdV.part; exact mm; rfl; rfl) | (apply LdV.aggRow; assumption; rfl) | (apply LdV.partRow; assumption; rfl; rfl)))))) (List.Perm.refl _) fun w' hw' => ?_
    exact ⟨(au, cu, S), rfl, hP, hw'⟩
theorem collect_holds (w0 : World) (M K : List Row) (w : World) (f : FuncId) [hF : Fun Tryz.prog f] (cap : Array Value) (Ks : List Int) (hIt : IterP Tryz.prog w0 K f cap (fun e : Int => [.int .i64 e]) Ks) (hl : Ks.length ≤ 1000000) (hw : Sat w0 (K ++ M) w) :
    Calls Tryz.prog 74 #[.func (.func f) #[] cap] w fun e w' => ∃ x : Option Addr × Nat × List Int, e = .returned (.slice x.1 x.2.2.length x.2.1) ∧ x.2.2.Perm Ks ∧ Sat w0 (.own 0 (.slice x.1 x.2.2.length x.2.1) 3 1 x.2.2.length (flat isV x.2.2) :: M) w' := by
  refine enterR [(0, .func (.func f) #[] cap)] hw Tryz.func74 Tryz.ntmps74 ?_
  all_goals (refine go ?_; and_intros <;> (try exact trivial) <;> repeat (first | refine fun (Bk : Nat) => ?_ | intro h))
  repeat' ((first | (refine G.cP (g := 109) (X := { x : Option Addr × Nat × List Int // x.2.2.Perm Ks }) (fun x => .slice x.1.1 x.1.2.2.length x.1.2.1) K (fun x => [.own 0 (.slice x.1.1 x.1.2.2.length x.1.2.1) 3 1 x.1.2.2.length (flat isV x.1.2.2)]) rfl rfl (List.Perm.refl _) (fun w' hw' => (appendSeq_holds w0 M K w' f cap Ks hIt hl hw').mono fun e w2 ⟨x, h1, h2, h3⟩ => ⟨⟨x, h2⟩, h1, h3⟩) ?_; rintro ⟨⟨au, cu, S⟩, hS⟩)) <;> (refine go ?_; and_intros <;> (try exact trivial) <;> repeat (first | refine fun (Bk : Nat) => ?_ | intro h)))
  refine ret1 Tryz.func74 Tryz.results74 ?_
  exact fun w' hw' => ⟨(au, cu, S), rfl, hS, hw'⟩
/-- slices.Sort does so for slices of n elements. -/
def SortsTo (n : Nat) : Prop := ∀ (w0 : World) (M : List Row) (w : World) (au : Option Addr) (cu : Nat) (S : List Int), Sat w0 (.own 0 (.slice au n cu) 3 1 n (flat isV S) :: M) w → n = S.length →
  Calls Tryz.prog 75 #[.slice au n cu] w fun e w' => ∃ S', e = .returned (.tuple #[]) ∧ (S'.Perm S ∧ S'.Pairwise (· ≤ ·)) ∧ Sat w0 (.own 0 (.slice au n cu) 3 1 n (flat isV S') :: M) w'
theorem sortsTo12 {n : Nat} (h : n ≤ 12) : SortsTo n := fun w0 M w au cu S hw hn => sort12_holds w0 M w au n cu S hw hn h
theorem sorted_holds (w0 : World) (M K : List Row) (w : World) (f : FuncId) [hF : Fun Tryz.prog f] (cap : Array Value) (Ks : List Int) (hIt : IterP Tryz.prog w0 K f cap (fun e : Int => [.int .i64 e]) Ks) (hl : Ks.length ≤ 1000000) (hso : SortsTo Ks.length) (hw : Sat w0 (K ++ M) w) :
    Calls Tryz.prog 37 #[.func (.func f) #[] cap] w fun e w' => ∃ x : Option Addr × Nat × List Int, e = .returned (.slice x.1 x.2.2.length x.2.1) ∧ (x.2.2.Perm Ks ∧ x.2.2.Pairwise (· ≤ ·)) ∧ Sat w0 (.own 0 (.slice x.1 x.2.2.length x.2.1) 3 1 x.2.2.length (flat isV x.2.2) :: M) w' := by
  refine enterR [(0, .func (.func f) #[] cap)] hw Tryz.func37 Tryz.ntmps37 ?_
  all_goals (refine go ?_; and_intros <;> (try exact trivial) <;> repeat (first | refine fun (Bk : Nat) => ?_ | intro h))
  repeat' ((first | (refine G.cP (g := 74) (X := { x : Option Addr × Nat × List Int // x.2.2.Perm Ks }) (fun x => .slice x.1.1 x.1.2.2.length x.1.2.1) K (fun x => [.own 0 (.slice x.1.1 x.1.2.2.length x.1.2.1) 3 1 x.1.2.2.length (flat isV x.1.2.2)]) rfl rfl (List.Perm.refl _) (fun w' hw' => (collect_holds w0 M K w' f cap Ks hIt hl hw').mono fun e w2 ⟨x, h1, h2, h3⟩ => ⟨⟨x, h2⟩, h1, h3⟩) ?_; rintro ⟨⟨au, cu, S⟩, hS⟩; have hSl := hS.length_eq; dsimp only at hS hSl ⊢) | (refine G.cP (g := 75) (X := { S' : List Int // S'.Perm S ∧ S'.Pairwise (· ≤ ·) }) (fun _ => .tuple #[]) [.own 0 (.slice au S.length cu) 3 1 S.length (flat isV S)] (fun x => [.own 0 (.slice au S.length cu) 3 1 S.length (flat isV x.1)]) rfl rfl (List.Perm.refl _) (fun w' hw' => ((hSl ▸ hso : SortsTo S.length) w0 M w' au cu S hw' rfl).mono fun e w2 ⟨S', h1, h2, h3⟩ => ⟨⟨S', h2⟩, h1, h3⟩) ?_; rintro ⟨S', hS', hs2⟩; have hS'l := hS'.length_eq; dsimp only at hS' hS'l ⊢)) <;> (refine go ?_; and_intros <;> (try exact trivial) <;> repeat (first | refine fun (Bk : Nat) => ?_ | intro h)))
  refine ret1 Tryz.func37 Tryz.results37 ?_
  refine fun w' hw' => ⟨(au, cu, S'), by dsimp only; rw [hS'l], ⟨hS'.trans hS, hs2⟩, ?_⟩
  dsimp only
  rw [hS'l]; exact hw'
end Go.Proofs.YteaccaieaigeaaaGreatDoor
/-
  Contracts of rights: the specification's Allot.
-/
namespace Go.Proofs.YteaccaieaigeaaaGreatDoor
open Go.RowKit Go.Sl Go.Num
/-- What all claims get. -/
def allT (R : List Rch) (Gs : List Rat) (L : List Cm) : Nat → List Rat
  | 0 => gl L.length fun _ => 0
  | r + 1 => rkT R Gs L r (allT R Gs L r)
theorem used_zero {on : Nat → Nat → Bool} {zs : List (Cm × Rat)} (h : ∀ z ∈ zs, z.2 = 0) (g : Nat) : used on zs g = 0 := by
  rw [used]
  refine (qs_congr (g := fun _ => 0) fun z hz => ?_).trans (qs_zero _)
  rw [h z hz]; split <;> rfl
theorem mem_gl0 {n : Nat} {x : Rat} (h : x ∈ gl n fun _ => 0) : x = 0 := by
  obtain ⟨_, _, rfl⟩ := List.mem_map.1 h; rfl
theorem rk0 {R : List Rch} {Gs : List Rat} {L : List Cm} (hA : Alo R Gs L) (hs : SupOk R Gs) (hC : ClOk R.length L) : Rk R Gs L 0 (allT R Gs L 0) := by
  have h0 : ∀ z ∈ L.zip (gl L.length fun _ => 0), z.2 = 0 := fun z hz => mem_gl0 (List.of_mem_zip hz).2
  refine ⟨gl_len _ _, ⟨fun z hz => ?_, fun g _ => ?_, fun z hz _ => h0 z hz, fun z hz hr => absurd hr (Nat.not_lt_zero _)⟩, 0, ?_, 1, by decide, by rw [Nat.pow_zero]; exact Nat.le_refl 1, fun t ht => ?_⟩
  · rw [h0 z hz]; exact ⟨Rat.le_refl, hC.nn _ (List.of_mem_zip hz).1⟩
  · show used _ (L.zip (gl L.length fun _ => 0)) g ≤ _
    rw [used_zero h0]
    exact qs_nn fun p _ => by
      have := (hs.fsq p).2
      split
      · exact this
      · exact Rat.le_refl
  · have := hA.m
    have : hiC 0 L ≤ L.length := List.length_filter_le _ _
    omega
  · rw [mem_gl0 ht, Rat.zero_mul, Rat.zero_mul]; exact Iq.zero
theorem rk_next {R : List Rch} {Gs : List Rat} {L : List Cm} {r : Nat} {T : List Rat} (h : Rk R Gs L r T) (hA : Alo R Gs L) (hl : Gs.length = R.length) (hn : ∀ c ∈ L, 0 ≤ c.am) : Rk R Gs L (r + 1) (rkT R Gs L r T) := by
  obtain ⟨z1, z2⟩ := rkT_zip (R := R) (Gs := Gs) h.lt r
  -- the rounds, one by one
  have key : ∀ (N : Nat) (T' : List Rat) (O : List Bool) (p : Rat), cntO (zz L T' O) ≤ N → Rnd R Gs L r T' O p → tks (lpZ (onR R) R.length (fsq Gs) (cntO (zz L T' O)) (zz L T' O) p) = L.zip (rkT R Gs L r T) → ∃ O2 p2, Rnd R Gs L r (rkT R Gs L r T) O2 p2 := by
    intro N
    induction N with
    | zero =>
      intro T' O p hc hr he
      have h0 := cntO_none.2 (Nat.le_zero.1 hc)
      rw [lpZ_end h0, tks_zz hr.lt hr.lo] at he
      have h3 := congrArg (List.map Prod.snd) he
      rw [List.map_snd_zip (by have := hr.lt; omega), List.map_snd_zip (by omega)] at h3
      exact ⟨O, p, h3 ▸ hr⟩
    | succ N ih =>
      intro T' O p hc hr he
      cases ho : ((zz L T' O).any fun z => z.2.2) with
      | false =>
        rw [lpZ_end ho, tks_zz hr.lt hr.lo] at he
        have h3 := congrArg (List.map Prod.snd) he
        rw [List.map_snd_zip (by have := hr.lt; omega), List.map_snd_zip (by omega)] at h3
        exact ⟨O, p, h3 ▸ hr⟩
      | true =>
        have h1 := hr.inv.less ho
        rw [lpZ_step hr.inv ho] at he
        rw [step_zz hr.lt hr.lo] at h1 he
        exact ih _ _ _ (by omega) (hr.step hA hl hn ho rfl) he
  obtain ⟨O2, p2, h2⟩ := key _ T (opO L r) 0 (Nat.le_refl _) h.start (by rw [z1, rankZ, start_zz h.lt]; rfl)
  exact h2.end h z1
theorem rk_all {R : List Rch} {Gs : List Rat} {L : List Cm} (hA : Alo R Gs L) (hs : SupOk R Gs) (hC : ClOk R.length L) : ∀ r, Rk R Gs L r (allT R Gs L r)
  | 0 => rk0 hA hs hC
  | r + 1 => rk_next (rk_all hA hs hC r) hA hs.len hC.nn
end Go.Proofs.YteaccaieaigeaaaGreatDoor
/-
  Contracts of rights: what the program's Allot leans on.
-/
namespace Go.Proofs.YteaccaieaigeaaaGreatDoor
open Go.RowKit Go.Sl Go.Num
theorem allT_len {R : List Rch} {Gs : List Rat} {L : List Cm} : ∀ r, (allT R Gs L r).length = L.length
  | 0 => gl_len _ _
  | r + 1 => (rkT_zip (allT_len r) r).2
theorem allT_skip {R : List Rch} {Gs : List Rat} {L : List Cm} (r : Nat) : ∀ d, (∀ c ∈ L, ¬ (r ≤ c.rk ∧ c.rk < r + d)) → allT R Gs L (r + d) = allT R Gs L r
  | 0, _ => rfl
  | d + 1, h => by
    have ih := allT_skip (R := R) (Gs := Gs) r d fun c hc hh => h c hc ⟨hh.1, by omega⟩
    have h1 : rankZ (onR R) R.length (fsq Gs) (r + d) (L.zip (allT R Gs L (r + d))) = L.zip (allT R Gs L (r + d)) := rankZ_none fun z hz => fun e => h _ (List.of_mem_zip hz).1 ⟨by omega, by omega⟩
    show rkT R Gs L (r + d) (allT R Gs L (r + d)) = _
    rw [rkT, h1, List.map_snd_zip (by rw [allT_len]; exact Nat.le_refl _), ih]
theorem qs_range {α : Type} (f : α → Rat) (L : List α) : ∀ k, k ≤ L.length → qs (L.take k) f = qs (List.range k) fun i => (L.map f).getD i 0
  | 0, _ => rfl
  | k + 1, h => by
    rw [qs_take f (show k < L.length by omega), qs_range f L k (by omega), List.range_succ, qs_app, qs_cons, qs_nil, Rat.add_zero]
    congr 1
    rw [List.getD_eq_getElem?_getD, List.getElem?_map, List.getElem?_eq_getElem (show k < L.length by omega)]; rfl
/-- The amount of the k-th claim. -/
def amK (L : List Cm) (k : Nat) : Rat := (L.map (·.am)).getD k 0
theorem amK_at {L : List Cm} {k : Nat} (h : k < L.length) : amK L k = L[k].am := by
  rw [amK, List.getD_eq_getElem?_getD, List.getElem?_map, List.getElem?_eq_getElem h]; rfl
theorem sI_at {on : Nat → Nat → Bool} {L : List Cm} {o : Nat → Bool} {nm : Nat → Rat} {n g : Nat} : sIt on (atI L o nm n) g = qs (List.range n) fun i => if o i = true then (if on ((L.map (·.pl)).getD i 0) g = true then nm i else 0) else 0 := by
  rw [sIt, atI, qs_map, qs_filter]
theorem sI_unit {on : Nat → Nat → Bool} {L : List Cm} {T : List Rat} {O : List Bool} (h1 : T.length = L.length) (h2 : O.length = L.length) (g : Nat) : sIt on (atI L (fun k => O.getD k false) (amK L) L.length) g = unitZ on (zz L T O) g := by
  have h3 := qs_range (fun z : Cm × Rat × Bool => if (on z.1.pl g && z.2.2) = true then z.1.am else 0) (zz L T O) (zz L T O).length (Nat.le_refl _)
  rw [List.take_length] at h3
  rw [sI_at, unitZ, h3, zz_len h1 h2]
  refine qs_congr fun i hi => ?_
  have hil := List.mem_range.1 hi
  rw [amK_at hil]
  simp only [List.getD_eq_getElem?_getD, List.getElem?_map, List.getElem?_eq_getElem hil, List.getElem?_eq_getElem (show i < O.length by omega), List.getElem?_eq_getElem (show i < (zz L T O).length by rw [zz_len h1 h2]; exact hil), zz_get hil (show i < T.length by omega) (show i < O.length by omega), Option.map_some, Option.getD_some]
  cases O[i] <;> cases on L[i].pl g <;> rfl
theorem qmin_shift (c p x : Rat) : qmin (c - p) x = qmin c (p + x) - p := by unfold qmin; grind
theorem rsT_grow {R : List Rch} {Gs : List Rat} {L : List Cm} {r : Nat} {T : List Rat} {O : List Bool} {p : Rat} (h : Rnd R Gs L r T O p) (q : Rat) (g : Nat) : rsT R Gs L (grT L T O q) g = rsT R Gs L T g - unitZ (onR R) (zz L T O) g * (q - p) := by
  have h1 := used_mid (on := onR R) (p' := q) (fun z hz hp => (h.inv.op z hz hp).2.2) g
  rw [mid_zz h.lt h.lo, tks_zz (grT_len h.lt h.lo q) h.lo, tks_zz h.lt h.lo] at h1
  rw [rsT, rsT, h1]; grind
theorem atI_big {L : List Cm} {o : Nat → Bool} {nm : Nat → Rat} {k : Nat} (hk : 1 ≤ k) (hk2 : k ≤ 100000) (hl : L.length ≤ 205) (hn : ∀ i, fewQ k (rQ (nm i))) (on : Nat → Nat → Bool) (i g : Nat) : big (sIt on ((atI L o nm L.length).take i) g) := by
  refine fewQ.big (k := (k + 1) * ((atI L o nm L.length).take i).length + 1) ?_ ?_
  · refine few_qs hk fun x hx => ?_
    split
    · obtain ⟨j, _, rfl⟩ := List.mem_map.1 (List.mem_of_mem_take hx)
      exact hn j
    · exact fewQ_zero
  · have h1 : ((atI L o nm L.length).take i).length ≤ 205 := by
      rw [List.length_take, atI, List.length_map]
      have := List.length_filter_le o (List.range L.length)
      rw [List.length_range] at this
      omega
    have h2 : (k + 1) * ((atI L o nm L.length).take i).length ≤ 100001 * 205 := Nat.mul_le_mul (by omega) h1
    omega
theorem atI_pl {L : List Cm} {o : Nat → Bool} {nm : Nat → Rat} {n : Nat} (hC : ∀ c ∈ L, c.pl < n) {e : Nat × Rat} (he : e ∈ atI L o nm L.length) : e.1 < n ∧ ∃ i, e.2 = nm i := by
  obtain ⟨i, hi, rfl⟩ := List.mem_map.1 he
  have hil := List.mem_range.1 (List.mem_filter.1 hi).1
  refine ⟨?_, i, rfl⟩
  dsimp only
  rw [List.getD_eq_getElem?_getD, List.getElem?_map, List.getElem?_eq_getElem hil]
  exact hC _ (List.getElem_mem hil)
/-! ### closures -/
theorem aIs_holds (w0 : World) (M : List Row) (w : World) (B15 Bb : Nat) (O : List Bool) (m tot k : Nat) (hm : O.length = m) (hk : k < m) (hw : Sat w0 ([.blk B15 79 [.slice (some ⟨Bb, 0, none⟩) m m] 1, .blk Bb 4 (flat oV O) tot] ++ M) w) :
    Calls Tryz.prog 40 (#[.int .i64 k] ++ #[.pointer (some ⟨B15, 0, none⟩)]) w fun e w' => e = .returned (.bool (O.getD k false)) ∧ Below w.heap.size w w' := by
  have hq1 := oGet (O := O) (k := k) (List.getElem?_eq_getElem (by omega))
  rw [List.getD_eq_getElem?_getD, List.getElem?_eq_getElem (by omega), Option.getD_some]
  have hsa : SlAt w (some ⟨Bb, 0, none⟩) 1 (O.map oV) := SlAt.ofBlk oV_len hw (.tail _ (.head _))
  have hb := hw.cellBlk (b := B15) (.head _) (j := 0) rfl
  have hlt := ((hw.old _ (.head _)).2 B15 rfl).2
  obtain ⟨bo, oo, e1, hro⟩ := SlAt.all hsa (by omega)
  cases e1
  have hrk := hro k (by omega)
  clear hro hq1 hsa
  generalize O[k]'_ = b at *
  dsimp only [oV] at hrk
  refine enterA [(0, .int .i64 k), (1, .pointer (some ⟨B15, 0, none⟩))] Tryz.func40 Tryz.ntmps40 ?_
  all_goals (refine go ?_; and_intros <;> (try exact trivial) <;> repeat (first | refine fun (Bk : Nat) => ?_ | intro h))
  repeat' ((first | (apply G.ld; rfl; (apply LdV.one; exact CellV.old hb hlt); rfl)) <;> (refine go ?_; and_intros <;> (try exact trivial) <;> repeat (first | refine fun (Bk : Nat) => ?_ | intro h)))
  all_goals refine ret1b Tryz.func40 Tryz.results40 ?_
  all_goals rfl
theorem aNm_holds (w0 : World) (M : List Row) (w : World) (B3 : Nat) (la : Option Addr) (L : List Cm) (lc k : Nat) (hL : SlAt w0 la 5 (L.map cmV)) (hk : k < L.length) (hw : Sat w0 ([.blk B3 26 [.slice la L.length lc] 1] ++ M) w) :
    Calls Tryz.prog 43 (#[.int .i64 k] ++ #[.pointer (some ⟨B3, 0, none⟩)]) w fun e w' => e = .returned (qA (rQ (amK L k))) ∧ Below w.heap.size w w' := by
  have hb := hw.cellBlk (b := B3) (.head _) (j := 0) rfl
  have hlt := ((hw.old _ (.head _)).2 B3 rfl).2
  obtain ⟨bl, ol, rfl, hrl⟩ := SlAt.all (hL.below hw.below) (by omega)
  have hrk := hrl k hk
  rw [amK_at hk]
  rw [cmV, qF] at hrk
  clear hrl hL
  generalize rQ L[k].am = q at *
  obtain ⟨s1, u1, v1⟩ := q
  dsimp only [qV, qA] at *
  refine enterA [(0, .int .i64 k), (1, .pointer (some ⟨B3, 0, none⟩))] Tryz.func43 Tryz.ntmps43 ?_
  all_goals (refine go ?_; and_intros <;> (try exact trivial) <;> repeat (first | refine fun (Bk : Nat) => ?_ | intro h))
  repeat' ((first | (apply G.ld; rfl; (apply LdV.one; exact CellV.old hb hlt); rfl)) <;> (refine go ?_; and_intros <;> (try exact trivial) <;> repeat (first | refine fun (Bk : Nat) => ?_ | intro h)))
  all_goals refine ret1b Tryz.func43 Tryz.results43 ?_
  all_goals rfl
theorem lIs_holds (w : World) (k : Nat) : Calls Tryz.prog 55 (#[.int .i64 k] ++ #[]) w fun e w' => e = .returned (.bool true) ∧ Below w.heap.size w w' := by
  refine enterA [(0, .int .i64 k)] Tryz.func55 Tryz.ntmps55 ?_
  all_goals (refine go ?_; and_intros <;> (try exact trivial) <;> repeat (first | refine fun (Bk : Nat) => ?_ | intro h))
  all_goals refine ret1b Tryz.func55 Tryz.results55 ?_
  all_goals rfl
theorem lNm_holds (w0 : World) (M : List Row) (w : World) (B5 : Nat) (ta : Option Addr) (T : List Rat) (tc k : Nat) (hT : SlAt w0 ta 3 (T.map qF)) (hk : k < T.length) (hw : Sat w0 ([.blk B5 23 [.slice ta T.length tc] 1] ++ M) w) :
    Calls Tryz.prog 56 (#[.int .i64 k] ++ #[.pointer (some ⟨B5, 0, none⟩)]) w fun e w' => e = .returned (qA (rQ (fsq T k))) ∧ Below w.heap.size w w' := by
  have hb := hw.cellBlk (b := B5) (.head _) (j := 0) rfl
  have hlt := ((hw.old _ (.head _)).2 B5 rfl).2
  obtain ⟨bl, ol, rfl, hrl⟩ := SlAt.all (hT.below hw.below) (by omega)
  have hrk := hrl k hk
  rw [fsq_lt hk]
  rw [qF] at hrk
  clear hrl hT
  generalize rQ T[k] = q at *
  obtain ⟨s1, u1, v1⟩ := q
  dsimp only [qV, qA] at *
  refine enterA [(0, .int .i64 k), (1, .pointer (some ⟨B5, 0, none⟩))] Tryz.func56 Tryz.ntmps56 ?_
  all_goals (refine go ?_; and_intros <;> (try exact trivial) <;> repeat (first | refine fun (Bk : Nat) => ?_ | intro h))
  repeat' ((first | (apply G.ld; rfl; (apply LdV.one; exact CellV.old hb hlt); rfl)) <;> (refine go ?_; and_intros <;> (try exact trivial) <;> repeat (first | refine fun (Bk : Nat) => ?_ | intro h)))
  all_goals refine ret1b Tryz.func56 Tryz.results56 ?_
  all_goals rfl
/-! ### whether one is open -/
theorem indexB_holds (a : Option Addr) (O : List Bool) (c : Nat) (w : World) (hA : SlAt w a 1 (O.map oV)) (hl : O.length ≤ 1000000) :
    Calls Tryz.prog 77 #[.slice a O.length c, .bool true] w fun e w' => ∃ x : { x : Int // 0 ≤ x ↔ O.any id = true }, e = .returned (.int .i64 x.1) ∧ Below w.heap.size w w' := by
  refine enterA [(0, .slice a O.length c), (1, .bool true)] Tryz.func77 Tryz.ntmps77 ?_
  all_goals (refine go ?_; and_intros <;> (try exact trivial) <;> repeat (first | refine fun (Bk : Nat) => ?_ | intro h))
  refine J.loop (c := _) (0 : Nat) (fun s => O.length - s) (fun s => [(0, .slice a O.length c), (1, .bool true), (7, .int .i64 O.length), (8, .int .i64 s)]) (fun s => []) (fun s => s ≤ O.length ∧ ∀ i (h : i < O.length), i < s → O[i] = false) ?_ sbT sbL ?_
  · exact ⟨Nat.zero_le _, fun i h h2 => absurd h2 (Nat.not_lt_zero _)⟩
  intro k ⟨h1, h2⟩ ih
  by_cases hk : k < O.length
  · obtain ⟨ba, oa, rfl, hra⟩ := SlAt.all hA (by omega)
    have hr := hra k hk
    have ih := fun (h : O[k] = false) => ih (k + 1) ⟨hk, fun i hi h3 => by
      rcases Nat.lt_or_ge i k with h4 | h4
      · exact h2 i hi h4
      · obtain rfl : i = k := by omega
        exact h⟩ (by omega)
    have hyes : O[k] = true → O.any id = true := fun h => List.any_eq_true.2 ⟨_, List.getElem_mem hk, h⟩
    clear hra h2
    generalize O[k] = b at *
    dsimp only [oV] at hr
    cases b
    · have ih := ih rfl
      all_goals (refine go ?_; and_intros <;> (try exact trivial) <;> repeat (first | refine fun (Bk : Nat) => ?_ | intro h))
      exact J.fin ih
    · have hyes := hyes rfl
      all_goals (refine go ?_; and_intros <;> (try exact trivial) <;> repeat (first | refine fun (Bk : Nat) => ?_ | intro h))
      (refine ret1 Tryz.func77 Tryz.results77 ?_; intro w' hw)
      exact ⟨⟨k, fun _ => hyes, fun _ => by omega⟩, rfl, hw.below⟩
  · have hno : O.any id = false := by
      rw [List.any_eq_false]
      intro b hb hb2
      obtain ⟨i, hi, rfl⟩ := List.getElem_of_mem hb
      rw [h2 i hi (by omega)] at hb2; cases hb2
    clear ih
    all_goals (refine go ?_; and_intros <;> (try exact trivial) <;> repeat (first | refine fun (Bk : Nat) => ?_ | intro h))
    (refine ret1 Tryz.func77 Tryz.results77 ?_; intro w' hw)
    exact ⟨⟨-1, fun h => by omega, fun h => by rw [hno] at h; cases h⟩, rfl, hw.below⟩
theorem containsB_holds (a : Option Addr) (O : List Bool) (c : Nat) (w : World) (hA : SlAt w a 1 (O.map oV)) (hl : O.length ≤ 1000000) :
    Calls Tryz.prog 41 #[.slice a O.length c, .bool true] w fun e w' => e = .returned (.bool (O.any id)) ∧ Below w.heap.size w w' := by
  have hi := fun w' (hb : Below w.heap.size w w') => indexB_holds a O c w' (hA.below hb) hl
  generalize O.any id = b at *
  refine enterA [(0, .slice a O.length c), (1, .bool true)] Tryz.func41 Tryz.ntmps41 ?_
  all_goals (refine go ?_; and_intros <;> (try exact trivial) <;> repeat (first | refine fun (Bk : Nat) => ?_ | intro h))
  repeat' ((first | (refine G.cX (g := 77) (X := { x : Int // 0 ≤ x ↔ b = true }) (v := fun x => .int .i64 x.1) (fun w' hb => hi w' hb) ?_; rintro ⟨x, hx⟩; dsimp only)) <;> (refine go ?_; and_intros <;> (try exact trivial) <;> repeat (first | refine fun (Bk : Nat) => ?_ | intro h)))
  all_goals refine ret1b Tryz.func41 Tryz.results41 ?_
  all_goals
    cases b
    all_goals first
      | rfl
      | (exfalso; simp at hx; omega)
end Go.Proofs.YteaccaieaigeaaaGreatDoor
/-
  Contracts of rights: the ranks of claims, in order; slices of one's own that nobody writes any more.
-/
namespace Go.Sl
open Go.RowKit Go.Proofs.YteaccaieaigeaaaGreatDoor
variable {C : Ctx} {st : List (Nat × Value)} {M : List Row} {k : List Item}
theorem J.ownSlF {A : Type} {f : A → List Value} {base n c E sz : Nat} {a : Option Addr} {l : List A} {M' : List Row} (hf : ∀ x, (f x).length = sz) (hp : Pick (.own base (.slice a n c) E sz n (flat f l)) M M') (hn : l.length = n) (h : J C st (slRow C.w0.heap.size a sz (l.map f) :: M') k) : J C st M k := .mk fun ac w hfit hd hw => by
  have hw2 := hw.perm hp.perm
  have h1 := SlAt.ofOwn hf (hw2.hold _ (.head _)) hn
  refine h.go ac w hfit hd ((hw2.forget (List.sublist_cons_self _ _)).addSl h1 fun p hp2 r hr hl => ?_)
  subst hp2
  exact ((List.pairwise_cons.1 hw2.apart).1 r hr p.block).1 rfl (Row.lock_sup hl)
end Go.Sl
namespace Go.Proofs.YteaccaieaigeaaaGreatDoor
open Go.RowKit Go.Sl Go.Num
theorem keys_put (x : Int) (v : Value) : ∀ Ls : List (Int × Value), (putM x v Ls).map (·.1) = if x ∈ Ls.map (·.1) then Ls.map (·.1) else Ls.map (·.1) ++ [x]
  | [] => by simp [putM]
  | (y, u) :: r => by
    rw [putM]
    by_cases h : x = y
    · subst h; rw [if_pos rfl, if_pos (by simp)]; rfl
    · rw [if_neg h, List.map_cons, keys_put x v r]
      by_cases h2 : x ∈ r.map (·.1)
      · rw [if_pos h2, if_pos (by rw [List.map_cons]; exact List.mem_cons_of_mem _ h2)]; rfl
      · rw [if_neg h2, if_neg (by rw [List.map_cons, List.mem_cons]; exact fun h3 => h3.elim h h2)]; rfl
/-- Ks are the ranks of claims. -/
def RkIs (L : List Cm) (Ks : List Int) : Prop := ∀ x : Int, x ∈ Ks ↔ ∃ c ∈ L, (c.rk : Int) = x
theorem RkIs.next {L : List Cm} {k : Nat} (hk : k < L.length) {Ls : List (Int × Value)} (h : RkIs (L.take k) (Ls.map (·.1))) (v : Value) : RkIs (L.take (k + 1)) ((putM (L[k].rk : Int) v Ls).map (·.1)) := fun x => by
  have h1 : x ∈ (putM (L[k].rk : Int) v Ls).map (·.1) ↔ x ∈ Ls.map (·.1) ∨ x = L[k].rk := by
    rw [keys_put]
    split
    · rename_i h2
      exact ⟨.inl, fun h3 => h3.elim id fun e => e ▸ h2⟩
    · rw [List.mem_append, List.mem_singleton]
  have h2 : L.take (k + 1) = L.take k ++ [L[k]] := by rw [List.take_add_one, List.getElem?_eq_getElem hk]; rfl
  rw [h1, h x, h2]
  constructor
  · rintro (⟨c, hc, e⟩ | e)
    · exact ⟨c, List.mem_append_left _ hc, e⟩
    · exact ⟨L[k], List.mem_append_right _ (List.mem_singleton.2 rfl), e.symm⟩
  · rintro ⟨c, hc, e⟩
    rcases List.mem_append.1 hc with hc | hc
    · exact .inl ⟨c, hc, e⟩
    · rw [List.mem_singleton] at hc; subst hc
      exact .inr e.symm
/-- The rank behind the first i ones. -/
def nxR (S : List Int) (i : Nat) : Nat := if i = 0 then 0 else (S.getD (i - 1) 0).toNat + 1
structure RkSo (L : List Cm) (S : List Int) : Prop where
  lt : S.Pairwise (· < ·)
  mem : RkIs L S
theorem RkSo.of {L : List Cm} {S Ks : List Int} (h : RkIs L Ks) (hn : Ks.Nodup) (hp : S.Perm Ks) (hs : S.Pairwise (· ≤ ·)) : RkSo L S := by
  refine ⟨?_, fun x => by rw [hp.mem_iff]; exact h x⟩
  have h1 : S.Nodup := (hp.nodup_iff).2 hn
  have h2 := List.Pairwise.and hs h1
  exact h2.imp fun ⟨h3, h4⟩ => by omega
theorem RkSo.nn {L : List Cm} {S : List Int} (h : RkSo L S) {i : Nat} (hi : i < S.length) : 0 ≤ S[i] := by
  obtain ⟨c, _, e⟩ := (h.mem S[i]).1 (List.getElem_mem hi)
  omega
theorem RkSo.skip {L : List Cm} {S : List Int} (h : RkSo L S) {i : Nat} (hi : i < S.length) (R : List Rch) (Gs : List Rat) : allT R Gs L S[i].toNat = allT R Gs L (nxR S i) ∧ nxR S (i + 1) = S[i].toNat + 1 := by
  have hle : nxR S i ≤ S[i].toNat := by
    rw [nxR]
    split
    · exact Nat.zero_le _
    · have h1 := List.pairwise_iff_getElem.1 h.lt (i - 1) i (by omega) hi (by omega)
      have h2 := h.nn (i := i - 1) (by omega)
      rw [List.getD_eq_getElem?_getD, List.getElem?_eq_getElem (by omega), Option.getD_some]
      omega
  refine ⟨?_, ?_⟩
  · obtain ⟨d, hd⟩ : ∃ d, S[i].toNat = nxR S i + d := ⟨S[i].toNat - nxR S i, by omega⟩
    rw [hd]
    refine allT_skip _ _ fun c hc hr => ?_
    obtain ⟨j, hj, e⟩ := List.getElem_of_mem ((h.mem (c.rk : Int)).2 ⟨c, hc, rfl⟩)
    have h3 : S[j] < S[i] := by have := h.nn hi; omega
    have h4 : j < i := by
      apply Nat.lt_of_not_le
      intro h5
      rcases Nat.lt_or_ge i j with h6 | h6
      · have := List.pairwise_iff_getElem.1 h.lt i j hi hj h6; omega
      · obtain rfl : i = j := by omega
        omega
    have h5 : S[j] ≤ S[i - 1]'(by omega) := by
      rcases Nat.lt_or_ge j (i - 1) with h6 | h6
      · have := List.pairwise_iff_getElem.1 h.lt j (i - 1) hj (by omega) h6; omega
      · obtain rfl : j = i - 1 := by omega
        exact Int.le_refl _
    have h6 := hr.1
    rw [nxR, if_neg (by omega), List.getD_eq_getElem?_getD, List.getElem?_eq_getElem (by omega), Option.getD_some] at h6
    omega
  · rw [nxR, if_neg (by omega), Nat.add_sub_cancel, List.getD_eq_getElem?_getD, List.getElem?_eq_getElem hi, Option.getD_some]
theorem RkSo.fin {L : List Cm} {S : List Int} (h : RkSo L S) (hc : ∀ c ∈ L, c.rk ≤ 100) (R : List Rch) (Gs : List Rat) : allT R Gs L 101 = allT R Gs L (nxR S S.length) := by
  have hle : nxR S S.length ≤ 101 := by
    rw [nxR]
    split
    · exact Nat.zero_le _
    · obtain ⟨c, h1, h2⟩ := (h.mem (S[S.length - 1]'(by omega))).1 (List.getElem_mem _)
      have := hc c h1
      rw [List.getD_eq_getElem?_getD, List.getElem?_eq_getElem (by omega), Option.getD_some]
      omega
  obtain ⟨d, hd⟩ : ∃ d, 101 = nxR S S.length + d := ⟨101 - nxR S S.length, by omega⟩
  rw [hd]
  refine allT_skip _ _ fun c hc hr => ?_
  obtain ⟨j, hj, e⟩ := List.getElem_of_mem ((h.mem (c.rk : Int)).2 ⟨c, hc, rfl⟩)
  have h5 : S[j] ≤ S[S.length - 1]'(by omega) := by
    rcases Nat.lt_or_ge j (S.length - 1) with h6 | h6
    · have := List.pairwise_iff_getElem.1 h.lt j (S.length - 1) hj (by omega) h6; omega
    · obtain rfl : j = S.length - 1 := by omega
      exact Int.le_refl _
  have h6 := hr.1
  rw [nxR, if_neg (by omega), List.getD_eq_getElem?_getD, List.getElem?_eq_getElem (by omega), Option.getD_some] at h6
  omega
/-! ### a round -/
theorem zeroB (m : Nat) (N : List Bool) : flat (fun x : List Value => x) (List.replicate m [Value.bool false]) = flat oV (mixL N (List.replicate m false) 0) := by
  rw [mixL_zero]
  induction m with
  | zero => rfl
  | succ m ih => rw [List.replicate_succ, List.replicate_succ, flat_cons, flat_cons, ih]; rfl
/-- Whether a claim stays open, by the first i gauges of its way. -/
def stO (R : List Rch) (f : Nat → Rat) (p : Nat) (b : Bool) (i : Nat) : Bool := b && (List.range i).all fun j => decide (f (itr R j (p : Int)).toNat ≠ 0)
theorem stO_succ (R : List Rch) (f : Nat → Rat) (p : Nat) (b : Bool) (i : Nat) : stO R f p b (i + 1) = (stO R f p b i && decide (f (itr R i (p : Int)).toNat ≠ 0)) := by
  rw [stO, stO, List.range_succ, List.all_append, List.all_cons, List.all_nil, Bool.and_true, Bool.and_assoc]
theorem stO_end {R : List Rch} (hR : Riv R) {f : Nat → Rat} {p : Nat} (hp : p < R.length) (b : Bool) : stO R f p b (dpt R (p : Int)) = (b && !dryZ (onR R) R.length f p) := by
  rw [stO]
  congr 1
  rw [Bool.eq_iff_iff, List.all_eq_true, Bool.not_eq_true', dryZ, List.any_eq_false]
  have hm := fun g => mem_wayN hR hp (g := g)
  simp only [wayN, List.mem_map] at hm
  constructor
  · intro h g hg hc
    rw [Bool.and_eq_true, decide_eq_true_eq] at hc
    obtain ⟨j, h1, rfl⟩ := (hm g).2 hc.1
    exact of_decide_eq_true (h j h1) hc.2
  · intro h j hj
    have h1 := (hm _).1 ⟨j, hj, rfl⟩
    refine decide_eq_true fun hc => h _ (List.mem_range.2 (onR_lt hR hp h1)) ?_
    rw [h1, hc, decide_eq_true rfl]; rfl
end Go.Proofs.YteaccaieaigeaaaGreatDoor
