/-
  Contract of solve.
-/
import Derived.Test.YtjfbdffcgapdlaaM

namespace Go.Proofs.Ytjfbdffcgapdlaa
open Go.RowKit Go.Sl


def fillN (f : Int × Int → Int) (sk : List (Int × Int)) (k : Nat) : List Int := (sk.map f).take k ++ List.replicate (sk.length - k) 0
theorem fillN_len (f : Int × Int → Int) (sk : List (Int × Int)) {k : Nat} (h : k ≤ sk.length) : (fillN f sk k).length = sk.length := by
  simp [fillN]; omega
theorem fillN_set (f : Int × Int → Int) {sk : List (Int × Int)} {k : Nat} (h : k < sk.length) : (fillN f sk k).set k (f sk[k]) = fillN f sk (k + 1) := by
  rw [fillN, fillN, List.set_append_right _ _ (by simp; omega), List.take_succ_eq_append_getElem (by simpa using h)]
  have e : sk.length - k = (sk.length - (k + 1)) + 1 := by omega
  have h0 : k - ((sk.map f).take k).length = 0 := by simp; omega
  rw [h0, e, List.replicate_succ, List.set_cons_zero, List.getElem_map]
  simp
theorem fillN_zero (f : Int × Int → Int) (sk : List (Int × Int)) : fillN f sk 0 = List.replicate sk.length 0 := by simp [fillN]
theorem fillN_all (f : Int × Int → Int) (sk : List (Int × Int)) {k : Nat} (h : sk.length ≤ k) : fillN f sk k = sk.map f := by
  rw [fillN, List.take_of_length_le (by simpa using h), show sk.length - k = 0 by omega]; simp
theorem flat_zero (n : Nat) : flat (fun x : List Value => x) (List.replicate n [.int .i64 0]) = flat inV (List.replicate n 0) := by
  simp [flat, inV]

theorem passS_len (es : List Ed) : ∀ x : List Int × Bool, (es.foldl stpS x).1.length = x.1.length := by
  induction es with
  | nil => exact fun _ => rfl
  | cons e r ih => exact fun x => (ih _).trans (stpS_len x e)
theorem settleS_len (es : List Ed) : ∀ (k : Nat) (l : List Int), (settleS es k l).1.length = l.length
  | 0, l => rfl
  | k + 1, l => by
    have h1 : (passS es l).1.length = l.length := passS_len es (l, true)
    rw [settleS]
    split
    · exact h1
    · exact (settleS_len es k _).trans h1
theorem passS_bnd {n : Nat} : ∀ {es : List Ed} (_ : ∀ e ∈ es, okEd n e) {N : Int} (x : List Int × Bool), BndL N x.1 → BndL (N + es.length * 9000000) (es.foldl stpS x).1
  | [], _, N, x, h => by simpa using h
  | e :: r, ho, N, x, h => by
    have h1 := stpS_bnd (ho e (.head _)) h
    have h2 := passS_bnd (fun e he => ho e (.tail _ he)) _ h1
    intro i
    have := h2 i
    simp only [List.foldl_cons, List.length_cons] at this ⊢
    omega
theorem settleS_bndk {n : Nat} {es : List Ed} (ho : ∀ e ∈ es, okEd n e) (hes : es.length ≤ 400) : ∀ (k : Nat) (N : Int) (l : List Int), BndL N l → BndL (N + k * 3600000000) (settleS es k l).1
  | 0, N, l, h => by simpa [settleS] using h
  | k + 1, N, l, h => by
    have h1 := passS_bnd ho (l, true) h
    have h2 : BndL (N + 3600000000) (passS es l).1 := fun i => by
      have := h1 i
      rw [passS]
      omega
    rw [settleS]
    split
    · intro i
      have := h2 i
      dsimp only
      omega
    · intro i
      have := settleS_bndk ho hes k _ _ h2 i
      omega
theorem settleS_bnd {n : Nat} {es : List Ed} (ho : ∀ e ∈ es, okEd n e) (hes : es.length ≤ 400) (hn : n ≤ 40) {l : List Int} (h : BndL 2000 l) : BndL 1000000000000 (settleS es (n + 2) l).1 := fun i => by
  have := settleS_bndk ho hes (n + 2) 2000 l h i
  omega

def fillG {A : Type} (z : A) (l : List A) (k : Nat) : List A := l.take k ++ List.replicate (l.length - k) z
theorem fillG_len {A : Type} (z : A) {l : List A} {k : Nat} (h : k ≤ l.length) : (fillG z l k).length = l.length := by
  simp [fillG]; omega
theorem fillG_set {A : Type} (z : A) {l : List A} {k : Nat} (h : k < l.length) : (fillG z l k).set k l[k] = fillG z l (k + 1) := by
  rw [fillG, fillG, List.set_append_right _ _ (by simp; omega), List.take_succ_eq_append_getElem h]
  have e : l.length - k = (l.length - (k + 1)) + 1 := by omega
  have h0 : k - (l.take k).length = 0 := by simp; omega
  rw [h0, e, List.replicate_succ, List.set_cons_zero, List.append_assoc]
  rfl
theorem fillG_all {A : Type} (z : A) {l : List A} {k : Nat} (h : l.length ≤ k) : fillG z l k = l := by
  rw [fillG, List.take_of_length_le h, show l.length - k = 0 by omega]; simp
theorem fillG_get {A : Type} (z : A) {l : List A} {k : Nat} (h : k < l.length) : (fillG z l (k + 1))[k]'(by rw [fillG_len z (by omega)]; exact h) = l[k] := by
  simp only [fillG]
  rw [List.getElem_append_left (by simp; omega), List.getElem_take]

def outS (lo hi : List Int) : List (Int × Int) := (lo.zip hi).map fun p => (p.1, -p.2)
def solveS (sk : List (Int × Int)) (ev : List Ev) : List (Int × Int) × Bool :=
  let lo := settleS (edgesS ev) (sk.length + 2) (sk.map (·.1))
  let hi := settleS ((edgesS ev).map swp) (sk.length + 2) (sk.map (-·.2))
  if lo.2 = false ∨ hi.2 = false ∨ emptyB (outS lo.1 hi.1) = true then ([], false) else (outS lo.1 hi.1, true)

theorem storeWE {C : Ctx} {st : List (Nat × Value)} {M : List Row} {k : List Item} {q q' : Md} {all rest : List Oper} {ty : TypeId} {pos : String} {after : Array Edge} {gd : Option (Nat × Bool)} {T n : TypeId} {i : Nat} {x y : Operand} {v : Value} {vs : List Value} {b j tot : Nat} {e : TypeId} {cs cs' : List Value} (hg : wnB all st gd = true) (hq : q.st i = some q')
    (hx : evS st x = some (.pointer (some ⟨b, j, none⟩))) (hm : M[i]? = some (.blk b e cs tot)) (hy : evS st y = some v) (hvs : v.cells = vs.toArray) (h1 : vs.all (·.oneCell') = true) (hs : setL cs j vs = cs') (hj : j + vs.length ≤ cs.length) [hT : TSize C.P T n] (hn : vs.length = n)
    (h : G q' C all st (M.set i (.blk b e cs' tot)) rest k) :
    G q C all st M ({ dst := none, op := .store T x y, type := ty, pos, after, guard := gd } :: rest) k := by
  subst hs; exact G.storeW hg hq hx hm hy hvs h1 hj hn h
theorem fillN_st (f : Int × Int → Int) {sk : List (Int × Int)} {k : Nat} (h : k < sk.length) {v : Int} (hv : v = f sk[k]) : setL (flat inV (fillN f sk k)) (0 + k * 1) [.int .i64 v] = flat inV (fillN f sk (k + 1)) := by
  rw [flat_inset (by rw [fillN_len f sk (by omega)]; exact h), hv, fillN_set f h]
theorem fillN_le (f : Int × Int → Int) {sk : List (Int × Int)} {k : Nat} (h : k < sk.length) : 0 + k * 1 + 1 ≤ (flat inV (fillN f sk k)).length := by
  rw [flat_len inV_len, fillN_len f sk (by omega)]; omega

theorem edges_ok {ev : List Ev} {n : Nat} (h : ∀ x ∈ ev, evErr x n = 0) : ∀ e ∈ edgesS ev, okEd n e := by
  intro e he
  obtain ⟨x, hx, he⟩ := List.mem_flatMap.1 he
  have hxx := evErr_zero (h x hx)
  simp only [edS, List.mem_cons, List.not_mem_nil, or_false] at he
  rcases he with rfl | rfl
  · exact ⟨by dsimp only; omega, by dsimp only; omega, by dsimp only; omega, by dsimp only; omega⟩
  · exact ⟨by dsimp only; omega, by dsimp only; omega, by dsimp only; omega, by dsimp only; omega⟩
theorem bnd_map (f : Int × Int → Int) {sk : List (Int × Int)} (h : ∀ k (h : k < sk.length), -2000 ≤ f sk[k] ∧ f sk[k] ≤ 2000) : BndL 2000 (sk.map f) := by
  intro i
  rw [List.getD_eq_getElem?_getD, List.getElem?_map]
  rcases Nat.lt_or_ge i sk.length with hi | hi
  · rw [List.getElem?_eq_getElem hi]; exact h i hi
  · rw [List.getElem?_eq_none hi]; exact ⟨by simp, by simp⟩

theorem outS_len {lo hi : List Int} (h : lo.length = hi.length) : (outS lo hi).length = lo.length := by simp [outS, h]
theorem outS_get {lo hi : List Int} {k : Nat} (h1 : k < lo.length) (h2 : k < hi.length) (h : k < (outS lo hi).length) : (outS lo hi)[k] = (lo.getD k 0, -hi.getD k 0) := by
  simp [outS, List.getD_eq_getElem?_getD, List.getElem?_eq_getElem h1, List.getElem?_eq_getElem h2]
theorem flat_zero2 (n : Nat) : flat (fun x : List Value => x) (List.replicate n [.int .i64 0, .int .i64 0]) = flat skV (List.replicate n (0, 0)) := by
  simp [flat, skV]

theorem c32 (a : Option Addr) (sk : List (Int × Int)) (c : Nat) (b : Option Addr) (ev : List Ev) (d : Nat) (w : World) (hc0 : checkS sk ev = 0) (hA : SlAt w a 2 (sk.map skV)) (hB : SlAt w b 6 (ev.map evV)) :
    Calls Try.prog 32 #[.agg #[.slice a sk.length c, .slice b ev.length d]] w fun e w' => ∃ a' c', e = .returned (.tuple #[.slice a' (solveS sk ev).1.length c', .bool (solveS sk ev).2]) ∧ SlAt w' a' 2 ((solveS sk ev).1.map skV) ∧ (∀ p, a' = some p → w.heap.size ≤ p.block) ∧ Below w.heap.size w w' := by
  obtain ⟨h1, h2, h3, h4⟩ := checkS_zero hc0
  have hval : ∀ k (h : k < sk.length), -2000 ≤ sk[k].1 ∧ sk[k].1 ≤ 2000 ∧ -2000 ≤ sk[k].2 ∧ sk[k].2 ≤ 2000 := fun k h => by
    have := h3 _ (List.getElem_mem h)
    simp only [validB, decide_eq_true_eq] at this
    omega
  have okE : ∀ e ∈ edgesS ev, okEd sk.length e := edges_ok h4
  have okB : ∀ e ∈ (edgesS ev).map swp, okEd sk.length e := fun e he => by
    obtain ⟨x, hx, rfl⟩ := List.mem_map.1 he
    obtain ⟨o1, o2, o3, o4⟩ := okE x hx
    exact ⟨o2, o1, o3, o4⟩
  have leE : (edgesS ev).length ≤ 400 := by rw [edS_len]; omega
  have leB : ((edgesS ev).map swp).length ≤ 400 := by rw [List.length_map]; exact leE
  have bdL : BndL 2000 (sk.map (·.1)) := bnd_map (·.1) fun k h => ⟨(hval k h).1, (hval k h).2.1⟩
  have bdH : BndL 2000 (sk.map (-·.2)) := bnd_map (-·.2) fun k h => by have := hval k h; omega
  refine enter [(0, .agg #[.slice a sk.length c, .slice b ev.length d])] Try.func32 rfl Try.ntmps32 (by simp) ⟨rfl, trivial⟩ ?_
  repeat' (first | first | (apply J.regA (.q 0 <| .q 1 <| .q 2 <| .q 4 <| .q 5 <| .q 6 <| .f 3 (.q 8 <| .e 7 <| .q 9 <| .nil) 7 (.e 3 <| .q 8 <| .q 9 <| .nil)); exact Try.mixed; decide +kernel) | apply G.fork | (apply G.make [.int .i64 0]; rfl; rfl; rfl; rfl; rfl; rfl; rfl; rfl; omega; omega; intro Bm) | (apply G.move; rfl; rfl; rfl; rfl) | (apply G.assign; rfl; rfl; rfl; rfl) | (apply G.fieldAddr; rfl; rfl; rfl; rfl) | (apply G.load; rfl; (first | (apply LdV.one; (first | exact CellV.row0 (by assumption) rfl | exact CellV.rowS (by assumption) rfl | (apply CellV.blk; (repeat (first | exact List.Mem.head _ | apply List.Mem.tail)); rfl))) | (apply LdV.aggBlk; (repeat (first | exact List.Mem.head _ | apply List.Mem.tail)); rfl) | (apply LdV.aggRow; assumption; rfl)); rfl; rfl; rfl) | (apply G.nil; rfl) | apply J.seq | (apply J.condT; rfl) | (apply J.condF; rfl) | apply J.skip | apply J.block | apply J.inBlock | (apply J.exit; rfl) | (apply G.skip; rfl; rfl; rfl; rfl; rfl) | (apply G.lenSlice; rfl; rfl; rfl; rfl) | (apply G.indexAddr; rfl; rfl; rfl; omega; rfl; rfl; rfl) | (apply G.notT; rfl; rfl; rfl; rfl) | (apply G.notF; rfl; rfl; rfl; rfl) | (apply G.pickT; rfl; rfl; rfl; rfl; rfl) | (apply G.pickF; rfl; rfl; rfl; rfl; rfl) | (apply G.lss; rfl; rfl; rfl; rfl; rfl; all_goals intro h; all_goals try (exfalso; omega)) | (apply G.leq; rfl; rfl; rfl; rfl; rfl; all_goals intro h; all_goals try (exfalso; omega)) | (apply G.gtr; rfl; rfl; rfl; rfl; rfl; all_goals intro h; all_goals try (exfalso; omega)) | (apply G.geq; rfl; rfl; rfl; rfl; rfl; all_goals intro h; all_goals try (exfalso; omega)) | (apply G.eql; rfl; rfl; rfl; rfl; rfl; all_goals intro h; all_goals try (exfalso; omega)) | (apply G.neq; rfl; rfl; rfl; rfl; rfl; all_goals intro h; all_goals try (exfalso; omega)) | (apply G.eql2; rfl; rfl; rfl; rfl; rfl; all_goals intro h; all_goals try (exfalso; omega)) | (apply G.neq2; rfl; rfl; rfl; rfl; rfl; all_goals intro h; all_goals try (exfalso; omega)) | (apply G.add; rfl; rfl; omega; omega; rfl; rfl; rfl) | (apply G.sub; rfl; rfl; omega; omega; rfl; rfl; rfl) | (apply G.addW; rfl; rfl; rfl; rfl; rfl) | (apply G.subW; rfl; rfl; rfl; rfl; rfl) | (apply G.extract; rfl; rfl; rfl; rfl; rfl) | (apply G.build; rfl; rfl; rfl; rfl; rfl) | (apply G.neg; rfl; omega; omega; rfl; rfl; rfl) | (apply G.max2; rfl; rfl; rfl; rfl; rfl) | (apply G.min2; rfl; rfl; rfl; rfl; rfl) | (apply G.box; rfl; rfl; rfl; rfl; rfl; intro Bk) | (apply G.alloc; rfl; rfl; rfl; intro Bk) | (apply G.store (i := 0); rfl; rfl; rfl; rfl; rfl; rfl; rfl; rfl; rfl) | (apply G.store (i := 1); rfl; rfl; rfl; rfl; rfl; rfl; rfl; rfl; rfl) | (apply G.store (i := 2); rfl; rfl; rfl; rfl; rfl; rfl; rfl; rfl; rfl) | (apply G.store (i := 3); rfl; rfl; rfl; rfl; rfl; rfl; rfl; rfl; rfl) | (apply G.store (i := 4); rfl; rfl; rfl; rfl; rfl; rfl; rfl; rfl; rfl) | (apply G.storeSame (i := 0); rfl; rfl; rfl; rfl; rfl; rfl; rfl; rfl; rfl; rfl) | (apply G.storeSame (i := 1); rfl; rfl; rfl; rfl; rfl; rfl; rfl; rfl; rfl; rfl) | (apply G.storeSame (i := 2); rfl; rfl; rfl; rfl; rfl; rfl; rfl; rfl; rfl; rfl) | (apply J.regQ; exact Try.mixed; decide +kernel) | apply J.reg)
  rename_i L
  rename Nat => H
  refine J.perm (M' := [.blk L 3 (flat (fun x => x) (List.replicate sk.length [.int .i64 0])) (sk.length * 1), .blk H 3 (flat (fun x => x) (List.replicate sk.length [.int .i64 0])) (sk.length * 1), .blk Bk 25 [.slice a sk.length c, .slice b ev.length d] 2]) (.swap _ _ _) ?_
  rotate_left
  rename_i H
  rename Nat => L
  all_goals
    rw [flat_zero]
    apply J.blkSl (i := 2) (f := fun _ : Unit => [.slice a sk.length c, .slice b ev.length d]) (sz := 2) (l := [()]) (fun _ => rfl) rfl
    simp only [List.set_cons_succ, List.set_cons_zero]
    refine J.loop (c := _) (0 : Nat) (fun x => sk.length - x) (fun x => [(1, .pointer (some ⟨Bk, 0, none⟩)), (4, .slice (some ⟨L, 0, none⟩) sk.length sk.length), (5, .slice (some ⟨H, 0, none⟩) sk.length sk.length), (21, .slice a sk.length c), (22, .int .i64 sk.length), (23, .int .i64 x)]) (fun x => [.blk L 3 (flat inV (fillN (·.1) sk x)) (sk.length * 1), .blk H 3 (flat inV (fillN (-·.2) sk x)) (sk.length * 1), capRow w Bk (.slice a sk.length c) (.slice b ev.length d)]) (fun x => x ≤ sk.length) ?_ (by (repeat' (first | exact trivial | refine ⟨rfl, ?_⟩))) (by (repeat' (first | exact List.Sublist.refl _ | apply List.Sublist.cons_cons | apply List.Sublist.cons))) ?_
    · exact Nat.zero_le _
    intro k hk ih
    by_cases hlt : k < sk.length
    · obtain ⟨ba, offa, rfl, hrow⟩ := hA.at k hlt
      have hv := hval k hlt
      have qL := fillN_st (·.1) hlt rfl
      have qH := fillN_st (-·.2) hlt rfl
      have rL := fillN_le (·.1) hlt
      have rH := fillN_le (-·.2) hlt
      generalize sk[k] = s at *
      repeat' (first | first | (apply J.regW 1 (.q 0 <| .q 1 <| .q 2 <| .q 3 <| .q 4 <| .q 5 <| .q 6 <| .q 7 <| .q 8 <| .q 9 <| .e 10 <| .q 11 <| .r 12 <| .nil); exact Try.mixed; decide +kernel) | (apply storeWE (i := 1); rfl; rfl; rfl; rfl; rfl; rfl; rfl; exact qL; exact rL; rfl) | (apply storeE (i := 2); rfl; rfl; rfl; rfl; rfl; rfl; rfl; exact qH; exact rH; rfl) | (apply G.move; rfl; rfl; rfl; rfl) | (apply G.assign; rfl; rfl; rfl; rfl) | (apply G.fieldAddr; rfl; rfl; rfl; rfl) | (apply G.load; rfl; (first | (apply LdV.one; (first | exact CellV.row0 (by assumption) rfl | exact CellV.rowS (by assumption) rfl | (apply CellV.blk; (repeat (first | exact List.Mem.head _ | apply List.Mem.tail)); rfl))) | (apply LdV.aggBlk; (repeat (first | exact List.Mem.head _ | apply List.Mem.tail)); rfl) | (apply LdV.aggRow; assumption; rfl)); rfl; rfl; rfl) | (apply G.nil; rfl) | apply J.seq | (apply J.condT; rfl) | (apply J.condF; rfl) | apply J.skip | apply J.block | apply J.inBlock | (apply J.exit; rfl) | (apply G.skip; rfl; rfl; rfl; rfl; rfl) | (apply G.lenSlice; rfl; rfl; rfl; rfl) | (apply G.indexAddr; rfl; rfl; rfl; omega; rfl; rfl; rfl) | (apply G.notT; rfl; rfl; rfl; rfl) | (apply G.notF; rfl; rfl; rfl; rfl) | (apply G.pickT; rfl; rfl; rfl; rfl; rfl) | (apply G.pickF; rfl; rfl; rfl; rfl; rfl) | (apply G.lss; rfl; rfl; rfl; rfl; rfl; all_goals intro h; all_goals try (exfalso; omega)) | (apply G.leq; rfl; rfl; rfl; rfl; rfl; all_goals intro h; all_goals try (exfalso; omega)) | (apply G.gtr; rfl; rfl; rfl; rfl; rfl; all_goals intro h; all_goals try (exfalso; omega)) | (apply G.geq; rfl; rfl; rfl; rfl; rfl; all_goals intro h; all_goals try (exfalso; omega)) | (apply G.eql; rfl; rfl; rfl; rfl; rfl; all_goals intro h; all_goals try (exfalso; omega)) | (apply G.neq; rfl; rfl; rfl; rfl; rfl; all_goals intro h; all_goals try (exfalso; omega)) | (apply G.eql2; rfl; rfl; rfl; rfl; rfl; all_goals intro h; all_goals try (exfalso; omega)) | (apply G.neq2; rfl; rfl; rfl; rfl; rfl; all_goals intro h; all_goals try (exfalso; omega)) | (apply G.add; rfl; rfl; omega; omega; rfl; rfl; rfl) | (apply G.sub; rfl; rfl; omega; omega; rfl; rfl; rfl) | (apply G.addW; rfl; rfl; rfl; rfl; rfl) | (apply G.subW; rfl; rfl; rfl; rfl; rfl) | (apply G.extract; rfl; rfl; rfl; rfl; rfl) | (apply G.build; rfl; rfl; rfl; rfl; rfl) | (apply G.neg; rfl; omega; omega; rfl; rfl; rfl) | (apply G.max2; rfl; rfl; rfl; rfl; rfl) | (apply G.min2; rfl; rfl; rfl; rfl; rfl) | (apply G.box; rfl; rfl; rfl; rfl; rfl; intro Bk) | (apply G.alloc; rfl; rfl; rfl; intro Bk) | (apply G.store (i := 0); rfl; rfl; rfl; rfl; rfl; rfl; rfl; rfl; rfl) | (apply G.store (i := 1); rfl; rfl; rfl; rfl; rfl; rfl; rfl; rfl; rfl) | (apply G.store (i := 2); rfl; rfl; rfl; rfl; rfl; rfl; rfl; rfl; rfl) | (apply G.store (i := 3); rfl; rfl; rfl; rfl; rfl; rfl; rfl; rfl; rfl) | (apply G.store (i := 4); rfl; rfl; rfl; rfl; rfl; rfl; rfl; rfl; rfl) | (apply G.storeSame (i := 0); rfl; rfl; rfl; rfl; rfl; rfl; rfl; rfl; rfl; rfl) | (apply G.storeSame (i := 1); rfl; rfl; rfl; rfl; rfl; rfl; rfl; rfl; rfl; rfl) | (apply G.storeSame (i := 2); rfl; rfl; rfl; rfl; rfl; rfl; rfl; rfl; rfl; rfl) | (apply J.regQ; exact Try.mixed; decide +kernel) | apply J.reg)
      refine J.forget (.cons _ (List.Sublist.refl _)) (J.sub (by (repeat' (first | exact trivial | refine ⟨rfl, ?_⟩))) (ih (k + 1) hlt (show sk.length - (k + 1) < sk.length - k by omega)))
    · have hk' : sk.length ≤ k := by omega
      rw [fillN_all _ _ hk', fillN_all _ _ hk']
      repeat' (first | first | (apply G.makeFunc; rfl; rfl; rfl; rfl) | (apply G.load; rfl; exact LdV.cap (.tail _ (.tail _ (.head _))); rfl; rfl; rfl) | (apply callE (g := 41) (X := Nat) (v := fun B => .func (.func 47) #[] #[.pointer (some ⟨B, 0, none⟩)]) (Mn := fun B => [capRow w B (.slice a sk.length c) (.slice b ev.length d)]); rfl; rfl; rfl; rfl; exact fun w' hw' => (c41 (.slice a sk.length c) (.slice b ev.length d) w').mono fun e w2 ⟨B, q1, q2, q3, q4⟩ => ⟨B, q1, capRow_call hw' q2 q3 q4⟩; intro B2) | (apply G.move; rfl; rfl; rfl; rfl) | (apply G.assign; rfl; rfl; rfl; rfl) | (apply G.fieldAddr; rfl; rfl; rfl; rfl) | (apply G.load; rfl; (first | (apply LdV.one; (first | exact CellV.row0 (by assumption) rfl | exact CellV.rowS (by assumption) rfl | (apply CellV.blk; (repeat (first | exact List.Mem.head _ | apply List.Mem.tail)); rfl))) | (apply LdV.aggBlk; (repeat (first | exact List.Mem.head _ | apply List.Mem.tail)); rfl) | (apply LdV.aggRow; assumption; rfl)); rfl; rfl; rfl) | (apply G.nil; rfl) | apply J.seq | (apply J.condT; rfl) | (apply J.condF; rfl) | apply J.skip | apply J.block | apply J.inBlock | (apply J.exit; rfl) | (apply G.skip; rfl; rfl; rfl; rfl; rfl) | (apply G.lenSlice; rfl; rfl; rfl; rfl) | (apply G.indexAddr; rfl; rfl; rfl; omega; rfl; rfl; rfl) | (apply G.notT; rfl; rfl; rfl; rfl) | (apply G.notF; rfl; rfl; rfl; rfl) | (apply G.pickT; rfl; rfl; rfl; rfl; rfl) | (apply G.pickF; rfl; rfl; rfl; rfl; rfl) | (apply G.lss; rfl; rfl; rfl; rfl; rfl; all_goals intro h; all_goals try (exfalso; omega)) | (apply G.leq; rfl; rfl; rfl; rfl; rfl; all_goals intro h; all_goals try (exfalso; omega)) | (apply G.gtr; rfl; rfl; rfl; rfl; rfl; all_goals intro h; all_goals try (exfalso; omega)) | (apply G.geq; rfl; rfl; rfl; rfl; rfl; all_goals intro h; all_goals try (exfalso; omega)) | (apply G.eql; rfl; rfl; rfl; rfl; rfl; all_goals intro h; all_goals try (exfalso; omega)) | (apply G.neq; rfl; rfl; rfl; rfl; rfl; all_goals intro h; all_goals try (exfalso; omega)) | (apply G.eql2; rfl; rfl; rfl; rfl; rfl; all_goals intro h; all_goals try (exfalso; omega)) | (apply G.neq2; rfl; rfl; rfl; rfl; rfl; all_goals intro h; all_goals try (exfalso; omega)) | (apply G.add; rfl; rfl; omega; omega; rfl; rfl; rfl) | (apply G.sub; rfl; rfl; omega; omega; rfl; rfl; rfl) | (apply G.addW; rfl; rfl; rfl; rfl; rfl) | (apply G.subW; rfl; rfl; rfl; rfl; rfl) | (apply G.extract; rfl; rfl; rfl; rfl; rfl) | (apply G.build; rfl; rfl; rfl; rfl; rfl) | (apply G.neg; rfl; omega; omega; rfl; rfl; rfl) | (apply G.max2; rfl; rfl; rfl; rfl; rfl) | (apply G.min2; rfl; rfl; rfl; rfl; rfl) | (apply G.box; rfl; rfl; rfl; rfl; rfl; intro Bk) | (apply G.alloc; rfl; rfl; rfl; intro Bk) | (apply G.store (i := 0); rfl; rfl; rfl; rfl; rfl; rfl; rfl; rfl; rfl) | (apply G.store (i := 1); rfl; rfl; rfl; rfl; rfl; rfl; rfl; rfl; rfl) | (apply G.store (i := 2); rfl; rfl; rfl; rfl; rfl; rfl; rfl; rfl; rfl) | (apply G.store (i := 3); rfl; rfl; rfl; rfl; rfl; rfl; rfl; rfl; rfl) | (apply G.store (i := 4); rfl; rfl; rfl; rfl; rfl; rfl; rfl; rfl; rfl) | (apply G.storeSame (i := 0); rfl; rfl; rfl; rfl; rfl; rfl; rfl; rfl; rfl; rfl) | (apply G.storeSame (i := 1); rfl; rfl; rfl; rfl; rfl; rfl; rfl; rfl; rfl; rfl) | (apply G.storeSame (i := 2); rfl; rfl; rfl; rfl; rfl; rfl; rfl; rfl; rfl; rfl) | (apply J.regQ; exact Try.mixed; decide +kernel) | apply J.reg)
      have callL := fun w' hw' => c43 w [capRow w B2 (.slice a sk.length c) (.slice b ev.length d)] 47 #[.pointer (some ⟨B2, 0, none⟩)] (edgesS ev) sk.length L sk.length (sk.length * 1) (sk.map (·.1)) (c47 w sk.length B2 (.slice a sk.length c) b ev d hB h4 h2) okE leE h1 (List.length_map _) bdL [.blk H 3 (flat inV (sk.map (-·.2))) (sk.length * 1), capRow w Bk (.slice a sk.length c) (.slice b ev.length d)] w' hw'
      have hrw : solveS sk ev = if (settleS (edgesS ev) (sk.length + 2) (sk.map (·.1))).2 = false ∨ (settleS ((edgesS ev).map swp) (sk.length + 2) (sk.map (-·.2))).2 = false ∨ emptyB (outS (settleS (edgesS ev) (sk.length + 2) (sk.map (·.1))).1 (settleS ((edgesS ev).map swp) (sk.length + 2) (sk.map (-·.2))).1) = true then ([], false) else (outS (settleS (edgesS ev) (sk.length + 2) (sk.map (·.1))).1 (settleS ((edgesS ev).map swp) (sk.length + 2) (sk.map (-·.2))).1, true) := rfl
      have lL := settleS_len (edgesS ev) (sk.length + 2) (sk.map (·.1))
      have lH := settleS_len ((edgesS ev).map swp) (sk.length + 2) (sk.map (-·.2))
      have bL := settleS_bnd okE leE h1 bdL
      have bH := settleS_bnd okB leB h1 bdH
      have callH := fun Lo w' hw' => c43 w [capRow w Bk (.slice a sk.length c) (.slice b ev.length d)] 40 #[.pointer (some ⟨Bk, 0, none⟩)] ((edgesS ev).map swp) sk.length H sk.length (sk.length * 1) (sk.map (-·.2)) (c40 w sk.length Bk (.slice a sk.length c) b ev d hB h4 h2) okB leB h1 (List.length_map _) bdH [capRow w B2 (.slice a sk.length c) (.slice b ev.length d), .blk L 3 (flat inV Lo) (sk.length * 1)] w' hw'
      generalize settleS (edgesS ev) (sk.length + 2) (sk.map (·.1)) = rL at *
      generalize settleS ((edgesS ev).map swp) (sk.length + 2) (sk.map (-·.2)) = rH at *
      obtain ⟨loL, okL⟩ := rL
      obtain ⟨hiL, okH⟩ := rH
      dsimp only at callL callH hrw lL lH bL bH
      have hperm : [capRow w B2 (.slice a sk.length c) (.slice b ev.length d), .blk L 3 (flat inV loL) (sk.length * 1), .blk H 3 (flat inV (sk.map (-·.2))) (sk.length * 1), capRow w Bk (.slice a sk.length c) (.slice b ev.length d)].Perm ([capRow w Bk (.slice a sk.length c) (.slice b ev.length d)] ++ (.blk H 3 (flat inV (sk.map (-·.2))) (sk.length * 1) :: [capRow w B2 (.slice a sk.length c) (.slice b ev.length d), .blk L 3 (flat inV loL) (sk.length * 1)])) := perm_cat [[capRow w B2 (.slice a sk.length c) (.slice b ev.length d)], [.blk L 3 (flat inV loL) (sk.length * 1)], [.blk H 3 (flat inV (sk.map (-·.2))) (sk.length * 1)], [capRow w Bk (.slice a sk.length c) (.slice b ev.length d)]] [0, 1, 2, 3] [3, 2, 0, 1] rfl
      repeat' (first | first | (apply G.callMB (g := 43) okL [capRow w B2 (.slice a sk.length c) (.slice b ev.length d), .blk L 3 (flat inV loL) (sk.length * 1), .blk H 3 (flat inV (sk.map (-·.2))) (sk.length * 1), capRow w Bk (.slice a sk.length c) (.slice b ev.length d)]; rfl; rfl; rfl; rfl; exact callL; all_goals intro hok1) | (apply G.callMB (g := 43) okH [capRow w Bk (.slice a sk.length c) (.slice b ev.length d), .blk H 3 (flat inV hiL) (sk.length * 1), capRow w B2 (.slice a sk.length c) (.slice b ev.length d), .blk L 3 (flat inV loL) (sk.length * 1)]; rfl; rfl; rfl; rfl; exact fun w' hw' => callH loL w' (hw'.perm hperm); all_goals intro hok2) | (apply G.make [.int .i64 0, .int .i64 0]; rfl; rfl; rfl; rfl; rfl; rfl; rfl; rfl; omega; omega; intro Bm) | (apply G.move; rfl; rfl; rfl; rfl) | (apply G.assign; rfl; rfl; rfl; rfl) | (apply G.fieldAddr; rfl; rfl; rfl; rfl) | (apply G.load; rfl; (first | (apply LdV.one; (first | exact CellV.row0 (by assumption) rfl | exact CellV.rowS (by assumption) rfl | (apply CellV.blk; (repeat (first | exact List.Mem.head _ | apply List.Mem.tail)); rfl))) | (apply LdV.aggBlk; (repeat (first | exact List.Mem.head _ | apply List.Mem.tail)); rfl) | (apply LdV.aggRow; assumption; rfl)); rfl; rfl; rfl) | (apply G.nil; rfl) | apply J.seq | (apply J.condT; rfl) | (apply J.condF; rfl) | apply J.skip | apply J.block | apply J.inBlock | (apply J.exit; rfl) | (apply G.skip; rfl; rfl; rfl; rfl; rfl) | (apply G.lenSlice; rfl; rfl; rfl; rfl) | (apply G.indexAddr; rfl; rfl; rfl; omega; rfl; rfl; rfl) | (apply G.notT; rfl; rfl; rfl; rfl) | (apply G.notF; rfl; rfl; rfl; rfl) | (apply G.pickT; rfl; rfl; rfl; rfl; rfl) | (apply G.pickF; rfl; rfl; rfl; rfl; rfl) | (apply G.lss; rfl; rfl; rfl; rfl; rfl; all_goals intro h; all_goals try (exfalso; omega)) | (apply G.leq; rfl; rfl; rfl; rfl; rfl; all_goals intro h; all_goals try (exfalso; omega)) | (apply G.gtr; rfl; rfl; rfl; rfl; rfl; all_goals intro h; all_goals try (exfalso; omega)) | (apply G.geq; rfl; rfl; rfl; rfl; rfl; all_goals intro h; all_goals try (exfalso; omega)) | (apply G.eql; rfl; rfl; rfl; rfl; rfl; all_goals intro h; all_goals try (exfalso; omega)) | (apply G.neq; rfl; rfl; rfl; rfl; rfl; all_goals intro h; all_goals try (exfalso; omega)) | (apply G.eql2; rfl; rfl; rfl; rfl; rfl; all_goals intro h; all_goals try (exfalso; omega)) | (apply G.neq2; rfl; rfl; rfl; rfl; rfl; all_goals intro h; all_goals try (exfalso; omega)) | (apply G.add; rfl; rfl; omega; omega; rfl; rfl; rfl) | (apply G.sub; rfl; rfl; omega; omega; rfl; rfl; rfl) | (apply G.addW; rfl; rfl; rfl; rfl; rfl) | (apply G.subW; rfl; rfl; rfl; rfl; rfl) | (apply G.extract; rfl; rfl; rfl; rfl; rfl) | (apply G.build; rfl; rfl; rfl; rfl; rfl) | (apply G.neg; rfl; omega; omega; rfl; rfl; rfl) | (apply G.max2; rfl; rfl; rfl; rfl; rfl) | (apply G.min2; rfl; rfl; rfl; rfl; rfl) | (apply G.box; rfl; rfl; rfl; rfl; rfl; intro Bk) | (apply G.alloc; rfl; rfl; rfl; intro Bk) | (apply G.store (i := 0); rfl; rfl; rfl; rfl; rfl; rfl; rfl; rfl; rfl) | (apply G.store (i := 1); rfl; rfl; rfl; rfl; rfl; rfl; rfl; rfl; rfl) | (apply G.store (i := 2); rfl; rfl; rfl; rfl; rfl; rfl; rfl; rfl; rfl) | (apply G.store (i := 3); rfl; rfl; rfl; rfl; rfl; rfl; rfl; rfl; rfl) | (apply G.store (i := 4); rfl; rfl; rfl; rfl; rfl; rfl; rfl; rfl; rfl) | (apply G.storeSame (i := 0); rfl; rfl; rfl; rfl; rfl; rfl; rfl; rfl; rfl; rfl) | (apply G.storeSame (i := 1); rfl; rfl; rfl; rfl; rfl; rfl; rfl; rfl; rfl; rfl) | (apply G.storeSame (i := 2); rfl; rfl; rfl; rfl; rfl; rfl; rfl; rfl; rfl; rfl) | (apply J.regQ; exact Try.mixed; decide +kernel) | apply J.reg)
      · have hn : (outS loL hiL).length = sk.length := by rw [outS_len (by rw [lL, lH]; simp), lL]; simp
        subst hok1
        subst hok2
        rw [List.length_map] at lL lH
        have hget := fun k h => outS_get (lo := loL) (hi := hiL) (k := k) (show k < loL.length by omega) (show k < hiL.length by omega) h
        generalize outS loL hiL = out at *
        clear callL callH hperm
        have e0 : flat skV (List.replicate sk.length (0, 0)) = flat skV (fillG (0, 0) out 0) := by simp [fillG, hn]
        rw [flat_zero2, e0]
        clear e0 ih
        refine J.loop (c := _) (0 : Nat) (fun x => sk.length - x) (fun x => [(4, .slice (some ⟨L, 0, none⟩) sk.length sk.length), (5, .slice (some ⟨H, 0, none⟩) sk.length sk.length), (10, .slice (some ⟨Bm, 0, none⟩) sk.length sk.length), (58, .int .i64 sk.length), (59, .int .i64 x)]) (fun x => [.blk Bm 47 (flat skV (fillG (0, 0) out x)) (sk.length * 2), .blk H 3 (flat inV hiL) (sk.length * 1), .blk L 3 (flat inV loL) (sk.length * 1)]) (fun x => x ≤ sk.length ∧ emptyB (out.drop x) = emptyB out) ?_ (by (repeat' (first | exact trivial | refine ⟨rfl, ?_⟩))) (by (repeat' (first | exact List.Sublist.refl _ | apply List.Sublist.cons_cons | apply List.Sublist.cons))) ?_
        · exact ⟨Nat.zero_le _, rfl⟩
        intro k ⟨hk, hr⟩ ih
        by_cases hlt : k < sk.length
        · have q1 := flat_in (l := loL) (i := k) (by omega)
          have q2 := flat_in (l := hiL) (i := k) (by omega)
          have b1 := bL k
          have b2 := bH k
          have hg := hget k (by omega)
          have hst := flat_setk (l := fillG (0, 0) out k) (i := k) (by rw [fillG_len _ (by omega)]; omega) (loL.getD k 0) (-hiL.getD k 0)
          rw [← hg, fillG_set _ (by omega)] at hst
          have hle : 0 + k * 2 + 2 ≤ (flat skV (fillG (0, 0) out k)).length := by rw [flat_len skV_len, fillG_len _ (by omega)]; omega
          obtain ⟨g1, g2⟩ := flat_sk (l := fillG (0, 0) out (k + 1)) (i := k) (by rw [fillG_len _ (by omega)]; omega)
          rw [gS_get (by rw [fillG_len _ (by omega)]; omega), fillG_get _ (by omega), hg] at g1 g2
          dsimp only at g1 g2
          have hzz : emptyB (out.drop k) = (decide (-hiL.getD k 0 < loL.getD k 0) || emptyB (out.drop (k + 1))) := by
            rw [List.drop_eq_getElem_cons (by omega), hg]; rfl
          generalize loL.getD k 0 = x1 at *
          generalize hiL.getD k 0 = x2 at *
          repeat' (first | first | (apply J.regA (.q 0 <| .q 1 <| .q 2 <| .q 3 <| .q 4 <| .q 5 <| .q 6 <| .q 7 <| .q 8 <| .q 9 <| .q 10 <| .q 11 <| .q 12 <| .r 13 <| .nil); exact Try.mixed; decide +kernel) | (apply G.load; rfl; (apply LdV.one; first | exact CellV.blk (.tail _ (.tail _ (.head _))) q1 | exact CellV.blk (.tail _ (.head _)) q2 | exact CellV.blk (.head _) g1 | exact CellV.blk (.head _) g2); rfl; rfl; rfl) | (apply storeE (i := 0); rfl; rfl; rfl; rfl; rfl; rfl; rfl; exact hst; exact hle; rfl) | (apply G.move; rfl; rfl; rfl; rfl) | (apply G.assign; rfl; rfl; rfl; rfl) | (apply G.fieldAddr; rfl; rfl; rfl; rfl) | (apply G.load; rfl; (first | (apply LdV.one; (first | exact CellV.row0 (by assumption) rfl | exact CellV.rowS (by assumption) rfl | (apply CellV.blk; (repeat (first | exact List.Mem.head _ | apply List.Mem.tail)); rfl))) | (apply LdV.aggBlk; (repeat (first | exact List.Mem.head _ | apply List.Mem.tail)); rfl) | (apply LdV.aggRow; assumption; rfl)); rfl; rfl; rfl) | (apply G.nil; rfl) | apply J.seq | (apply J.condT; rfl) | (apply J.condF; rfl) | apply J.skip | apply J.block | apply J.inBlock | (apply J.exit; rfl) | (apply G.skip; rfl; rfl; rfl; rfl; rfl) | (apply G.lenSlice; rfl; rfl; rfl; rfl) | (apply G.indexAddr; rfl; rfl; rfl; omega; rfl; rfl; rfl) | (apply G.notT; rfl; rfl; rfl; rfl) | (apply G.notF; rfl; rfl; rfl; rfl) | (apply G.pickT; rfl; rfl; rfl; rfl; rfl) | (apply G.pickF; rfl; rfl; rfl; rfl; rfl) | (apply G.lss; rfl; rfl; rfl; rfl; rfl; all_goals intro h; all_goals try (exfalso; omega)) | (apply G.leq; rfl; rfl; rfl; rfl; rfl; all_goals intro h; all_goals try (exfalso; omega)) | (apply G.gtr; rfl; rfl; rfl; rfl; rfl; all_goals intro h; all_goals try (exfalso; omega)) | (apply G.geq; rfl; rfl; rfl; rfl; rfl; all_goals intro h; all_goals try (exfalso; omega)) | (apply G.eql; rfl; rfl; rfl; rfl; rfl; all_goals intro h; all_goals try (exfalso; omega)) | (apply G.neq; rfl; rfl; rfl; rfl; rfl; all_goals intro h; all_goals try (exfalso; omega)) | (apply G.eql2; rfl; rfl; rfl; rfl; rfl; all_goals intro h; all_goals try (exfalso; omega)) | (apply G.neq2; rfl; rfl; rfl; rfl; rfl; all_goals intro h; all_goals try (exfalso; omega)) | (apply G.add; rfl; rfl; omega; omega; rfl; rfl; rfl) | (apply G.sub; rfl; rfl; omega; omega; rfl; rfl; rfl) | (apply G.addW; rfl; rfl; rfl; rfl; rfl) | (apply G.subW; rfl; rfl; rfl; rfl; rfl) | (apply G.extract; rfl; rfl; rfl; rfl; rfl) | (apply G.build; rfl; rfl; rfl; rfl; rfl) | (apply G.neg; rfl; omega; omega; rfl; rfl; rfl) | (apply G.max2; rfl; rfl; rfl; rfl; rfl) | (apply G.min2; rfl; rfl; rfl; rfl; rfl) | (apply G.box; rfl; rfl; rfl; rfl; rfl; intro Bk) | (apply G.alloc; rfl; rfl; rfl; intro Bk) | (apply G.store (i := 0); rfl; rfl; rfl; rfl; rfl; rfl; rfl; rfl; rfl) | (apply G.store (i := 1); rfl; rfl; rfl; rfl; rfl; rfl; rfl; rfl; rfl) | (apply G.store (i := 2); rfl; rfl; rfl; rfl; rfl; rfl; rfl; rfl; rfl) | (apply G.store (i := 3); rfl; rfl; rfl; rfl; rfl; rfl; rfl; rfl; rfl) | (apply G.store (i := 4); rfl; rfl; rfl; rfl; rfl; rfl; rfl; rfl; rfl) | (apply G.storeSame (i := 0); rfl; rfl; rfl; rfl; rfl; rfl; rfl; rfl; rfl; rfl) | (apply G.storeSame (i := 1); rfl; rfl; rfl; rfl; rfl; rfl; rfl; rfl; rfl; rfl) | (apply G.storeSame (i := 2); rfl; rfl; rfl; rfl; rfl; rfl; rfl; rfl; rfl; rfl) | (apply J.regQ; exact Try.mixed; decide +kernel) | apply J.reg)
          · skip
            (apply leave Try.func32; (apply RunsTo.two Try.results32; (first | (apply ResV.tmp; rfl) | (apply ResV.cell; rfl; (first | (apply LdV.one; (first | exact CellV.row0 (by assumption) rfl | exact CellV.rowS (by assumption) rfl | (apply CellV.blk; (repeat (first | exact List.Mem.head _ | apply List.Mem.tail)); rfl))) | (apply LdV.aggBlk; (repeat (first | exact List.Mem.head _ | apply List.Mem.tail)); rfl) | (apply LdV.aggRow; assumption; rfl)))); (first | (apply ResV.tmp; rfl) | (apply ResV.cell; rfl; (first | (apply LdV.one; (first | exact CellV.row0 (by assumption) rfl | exact CellV.rowS (by assumption) rfl | (apply CellV.blk; (repeat (first | exact List.Mem.head _ | apply List.Mem.tail)); rfl))) | (apply LdV.aggBlk; (repeat (first | exact List.Mem.head _ | apply List.Mem.tail)); rfl) | (apply LdV.aggRow; assumption; rfl))))); intro w' hw)
            have hf : emptyB out = true := by rw [← hr, hzz, decide_eq_true (by assumption)]; rfl
            rw [if_pos (.inr (.inr hf))] at hrw
            exact ⟨none, 0, by rw [hrw]; rfl, by rw [hrw]; exact SlAt.nil, (fun p hp => by cases hp), hw.below⟩
          · refine J.forget (List.Sublist.refl _) (J.sub (by (repeat' (first | exact trivial | refine ⟨rfl, ?_⟩))) (ih (k + 1) ⟨hlt, ?_⟩ (show sk.length - (k + 1) < sk.length - k by omega)))
            rw [← hr, hzz, decide_eq_false (by assumption)]; rfl
        · skip
          repeat' (first | (apply G.move; rfl; rfl; rfl; rfl) | (apply G.assign; rfl; rfl; rfl; rfl) | (apply G.fieldAddr; rfl; rfl; rfl; rfl) | (apply G.load; rfl; (first | (apply LdV.one; (first | exact CellV.row0 (by assumption) rfl | exact CellV.rowS (by assumption) rfl | (apply CellV.blk; (repeat (first | exact List.Mem.head _ | apply List.Mem.tail)); rfl))) | (apply LdV.aggBlk; (repeat (first | exact List.Mem.head _ | apply List.Mem.tail)); rfl) | (apply LdV.aggRow; assumption; rfl)); rfl; rfl; rfl) | (apply G.nil; rfl) | apply J.seq | (apply J.condT; rfl) | (apply J.condF; rfl) | apply J.skip | apply J.block | apply J.inBlock | (apply J.exit; rfl) | (apply G.skip; rfl; rfl; rfl; rfl; rfl) | (apply G.lenSlice; rfl; rfl; rfl; rfl) | (apply G.indexAddr; rfl; rfl; rfl; omega; rfl; rfl; rfl) | (apply G.notT; rfl; rfl; rfl; rfl) | (apply G.notF; rfl; rfl; rfl; rfl) | (apply G.pickT; rfl; rfl; rfl; rfl; rfl) | (apply G.pickF; rfl; rfl; rfl; rfl; rfl) | (apply G.lss; rfl; rfl; rfl; rfl; rfl; all_goals intro h; all_goals try (exfalso; omega)) | (apply G.leq; rfl; rfl; rfl; rfl; rfl; all_goals intro h; all_goals try (exfalso; omega)) | (apply G.gtr; rfl; rfl; rfl; rfl; rfl; all_goals intro h; all_goals try (exfalso; omega)) | (apply G.geq; rfl; rfl; rfl; rfl; rfl; all_goals intro h; all_goals try (exfalso; omega)) | (apply G.eql; rfl; rfl; rfl; rfl; rfl; all_goals intro h; all_goals try (exfalso; omega)) | (apply G.neq; rfl; rfl; rfl; rfl; rfl; all_goals intro h; all_goals try (exfalso; omega)) | (apply G.eql2; rfl; rfl; rfl; rfl; rfl; all_goals intro h; all_goals try (exfalso; omega)) | (apply G.neq2; rfl; rfl; rfl; rfl; rfl; all_goals intro h; all_goals try (exfalso; omega)) | (apply G.add; rfl; rfl; omega; omega; rfl; rfl; rfl) | (apply G.sub; rfl; rfl; omega; omega; rfl; rfl; rfl) | (apply G.addW; rfl; rfl; rfl; rfl; rfl) | (apply G.subW; rfl; rfl; rfl; rfl; rfl) | (apply G.extract; rfl; rfl; rfl; rfl; rfl) | (apply G.build; rfl; rfl; rfl; rfl; rfl) | (apply G.neg; rfl; omega; omega; rfl; rfl; rfl) | (apply G.max2; rfl; rfl; rfl; rfl; rfl) | (apply G.min2; rfl; rfl; rfl; rfl; rfl) | (apply G.box; rfl; rfl; rfl; rfl; rfl; intro Bk) | (apply G.alloc; rfl; rfl; rfl; intro Bk) | (apply G.store (i := 0); rfl; rfl; rfl; rfl; rfl; rfl; rfl; rfl; rfl) | (apply G.store (i := 1); rfl; rfl; rfl; rfl; rfl; rfl; rfl; rfl; rfl) | (apply G.store (i := 2); rfl; rfl; rfl; rfl; rfl; rfl; rfl; rfl; rfl) | (apply G.store (i := 3); rfl; rfl; rfl; rfl; rfl; rfl; rfl; rfl; rfl) | (apply G.store (i := 4); rfl; rfl; rfl; rfl; rfl; rfl; rfl; rfl; rfl) | (apply G.storeSame (i := 0); rfl; rfl; rfl; rfl; rfl; rfl; rfl; rfl; rfl; rfl) | (apply G.storeSame (i := 1); rfl; rfl; rfl; rfl; rfl; rfl; rfl; rfl; rfl; rfl) | (apply G.storeSame (i := 2); rfl; rfl; rfl; rfl; rfl; rfl; rfl; rfl; rfl; rfl) | (apply J.regQ; exact Try.mixed; decide +kernel) | apply J.reg)
          (apply leave Try.func32; (apply RunsTo.two Try.results32; (first | (apply ResV.tmp; rfl) | (apply ResV.cell; rfl; (first | (apply LdV.one; (first | exact CellV.row0 (by assumption) rfl | exact CellV.rowS (by assumption) rfl | (apply CellV.blk; (repeat (first | exact List.Mem.head _ | apply List.Mem.tail)); rfl))) | (apply LdV.aggBlk; (repeat (first | exact List.Mem.head _ | apply List.Mem.tail)); rfl) | (apply LdV.aggRow; assumption; rfl)))); (first | (apply ResV.tmp; rfl) | (apply ResV.cell; rfl; (first | (apply LdV.one; (first | exact CellV.row0 (by assumption) rfl | exact CellV.rowS (by assumption) rfl | (apply CellV.blk; (repeat (first | exact List.Mem.head _ | apply List.Mem.tail)); rfl))) | (apply LdV.aggBlk; (repeat (first | exact List.Mem.head _ | apply List.Mem.tail)); rfl) | (apply LdV.aggRow; assumption; rfl))))); intro w' hw)
          rw [List.drop_eq_nil_of_le (by omega)] at hr
          have hf : emptyB out = false := by rw [← hr]; rfl
          rw [if_neg (by simp [hf])] at hrw
          rw [fillG_all _ (by omega)] at hw
          refine ⟨some ⟨Bm, 0, none⟩, sk.length, by rw [hrw]; dsimp only; rw [hn], ?_, fun p hp => by cases hp; exact ((hw.old _ (.head _)).2 Bm rfl).1, hw.below⟩
          rw [hrw]
          exact SlAt.ofBlk skV_len hw (.head _)
      · skip
        (apply leave Try.func32; (apply RunsTo.two Try.results32; (first | (apply ResV.tmp; rfl) | (apply ResV.cell; rfl; (first | (apply LdV.one; (first | exact CellV.row0 (by assumption) rfl | exact CellV.rowS (by assumption) rfl | (apply CellV.blk; (repeat (first | exact List.Mem.head _ | apply List.Mem.tail)); rfl))) | (apply LdV.aggBlk; (repeat (first | exact List.Mem.head _ | apply List.Mem.tail)); rfl) | (apply LdV.aggRow; assumption; rfl)))); (first | (apply ResV.tmp; rfl) | (apply ResV.cell; rfl; (first | (apply LdV.one; (first | exact CellV.row0 (by assumption) rfl | exact CellV.rowS (by assumption) rfl | (apply CellV.blk; (repeat (first | exact List.Mem.head _ | apply List.Mem.tail)); rfl))) | (apply LdV.aggBlk; (repeat (first | exact List.Mem.head _ | apply List.Mem.tail)); rfl) | (apply LdV.aggRow; assumption; rfl))))); intro w' hw)
        rw [if_pos (.inr (.inl hok2))] at hrw
        exact ⟨none, 0, by rw [hrw]; rfl, by rw [hrw]; exact SlAt.nil, (fun p hp => by cases hp), hw.below⟩
      · skip
        (apply leave Try.func32; (apply RunsTo.two Try.results32; (first | (apply ResV.tmp; rfl) | (apply ResV.cell; rfl; (first | (apply LdV.one; (first | exact CellV.row0 (by assumption) rfl | exact CellV.rowS (by assumption) rfl | (apply CellV.blk; (repeat (first | exact List.Mem.head _ | apply List.Mem.tail)); rfl))) | (apply LdV.aggBlk; (repeat (first | exact List.Mem.head _ | apply List.Mem.tail)); rfl) | (apply LdV.aggRow; assumption; rfl)))); (first | (apply ResV.tmp; rfl) | (apply ResV.cell; rfl; (first | (apply LdV.one; (first | exact CellV.row0 (by assumption) rfl | exact CellV.rowS (by assumption) rfl | (apply CellV.blk; (repeat (first | exact List.Mem.head _ | apply List.Mem.tail)); rfl))) | (apply LdV.aggBlk; (repeat (first | exact List.Mem.head _ | apply List.Mem.tail)); rfl) | (apply LdV.aggRow; assumption; rfl))))); intro w' hw)
        rw [if_pos (.inl hok1)] at hrw
        exact ⟨none, 0, by rw [hrw]; rfl, by rw [hrw]; exact SlAt.nil, (fun p hp => by cases hp), hw.below⟩
end Go.Proofs.Ytjfbdffcgapdlaa
