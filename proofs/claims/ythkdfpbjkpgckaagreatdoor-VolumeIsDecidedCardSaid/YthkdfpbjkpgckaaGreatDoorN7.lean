/-
  Contracts: the ledger that adds up volumes.
-/
import Derived.Test.YthkdfpbjkpgckaaGreatDoorN6
set_option linter.unusedVariables false
set_option linter.unusedSimpArgs false
set_option linter.unusedSectionVars false
namespace Go.Proofs.YthkdfpbjkpgckaaGreatDoor
open Go.RowKit Go.Sl Go.Num
def k2V (p : Int × Int) : Value := .agg #[.int .i64 p.1, .int .i64 p.2]
instance : TMap Tryz.prog 93 3 3 (.int .i64 0) := ⟨by kernel_rfl, fun w => Tryz.zeroValue3 w⟩
instance : TMap Tryz.prog 95 142 32 (qA zero3) := ⟨by kernel_rfl, fun w => Tryz.zeroValue32 w⟩
instance tkI : TKey Tryz.prog 3 (Value.int .i64) := TKey.int (by kernel_rfl)
theorem chkI (n : Nat) (e : Bool) (v : Value) (w : World) : (Instr.checkKey e (n + 1) 3 v).run Tryz.prog w = .ok () w := by
  rw [Instr.checkKey]; simp [underlying, Tryz.underlying3]
theorem chk2 (e : Bool) (a b : Int) (w : World) : (Instr.checkKey e 10000 142 (.agg #[.int .i64 a, .int .i64 b])).run Tryz.prog w = .ok () w := by
  show (Instr.checkKey e (9998 + 1 + 1) 142 _).run Tryz.prog w = _
  have h := chkI 9998 e
  generalize 9998 = n at *
  rw [Instr.checkKey]
  have hu : ∀ w, (underlying 142).run Tryz.prog w = .ok (.array 2 3) w := fun w => by simp [underlying, Tryz.underlying142]
  have hs : ∀ w, (Go.sizeOf 3).run Tryz.prog w = .ok 1 w := fun w => Tryz.sizeOf3 w
  simp only [Sem.run_bind, hu, Result.andThen_ok]
  simp only [Std.Legacy.Range.forIn_eq_forIn_range', Std.Legacy.Range.size]
  simp only [List.range', List.forIn_cons, List.forIn_nil, Sem.run_bind, hs, Result.andThen_ok]
  simp [part, h]
instance tk2 : TKey Tryz.prog 142 k2V := TKey.ask Tryz.underlying142 (fun x y => rfl) (fun e x w => chk2 e x.1 x.2 w) (fun x y w => by
    rw [k2V, k2V, TEq2.h]
    congr 2
    rw [Prod.ext_iff]) (fun x => by simp [k2V, Instr.sameBits])
/-- The rate of a span of a list, by its place; 0 for the place -1. -/
def ofR (l : List Spn) (k t : Int) : Rat := if k < 0 then 0 else match l[k.toNat]? with
  | some s => rateOf s t
  | none => 0
/-- A map that holds rates of spans. -/
def Rates (l : List Spn) (o : Obj) : Prop := ∃ es clock L, o = .map es clock ∧ MapIs k2V es clock L ∧ ∀ k t v, getM (k, t) L = some v → v = qA (rQ (ofR l k t))
theorem Rates.nil {l : List Spn} : Rates l (.map #[] 0) := ⟨_, _, [], rfl, MapIs.nil, fun k t v h => by cases h⟩
theorem ofR_at {l : List Spn} {k : Nat} {t : Int} (hk : k < l.length) : ofR l (k : Int) t = rateOf l[k] t := by
  rw [ofR, if_neg (by omega), Int.toNat_natCast, List.getElem?_eq_getElem hk]
theorem fewQ_of {l : List Spn} {k t : Int} (hf : ∀ s ∈ l, fewS s) (hR : ∀ s ∈ l, RightS s) (ht : 0 ≤ t ∧ t ≤ 1000) : fewQ 140 (rQ (ofR l k t)) := by
  rw [ofR]
  split
  · exact fewQ_zero
  · split
    · rename_i s hs
      exact fewQ_rate (hf _ (List.mem_of_getElem? hs)) (hR _ (List.mem_of_getElem? hs)) ht.1 ht.2
    · exact fewQ_zero
/-- The rows of a ledger. -/
theorem of_holds (w0 : World) (M : List Row) (w : World) (bl bm N : Nat) (a : Option Addr) (l : List Spn) (c : Nat) (S : Q3) (k t : Int) (hw : Sat w0 (.blk bl 97 [.slice a l.length c, .map (some bm), .bool S.neg, .string (bs S.num), .string (bs S.den)] 5 :: .inv bm (Rates l) :: slRow N a 7 (l.map spV) :: M) w)
    (hP : ∀ s ∈ l, PtsAt w0 s) (hf : ∀ s ∈ l, fewS s) (hR : ∀ s ∈ l, RightS s) (hk : k < l.length) (ht : 0 ≤ t ∧ t ≤ 1000) (hl : l.length ≤ 1000000) (ha : ∃ b off, a = some ⟨b, off, none⟩ ∨ l = []) :
    Calls Tryz.prog 53 #[.pointer (some ⟨bl, 0, none⟩), .int .i64 k, .int .i64 t] w fun e w' => e = .returned (qA (rQ (ofR l k t))) ∧ Sat w0 (.blk bl 97 [.slice a l.length c, .map (some bm), .bool S.neg, .string (bs S.num), .string (bs S.den)] 5 :: .inv bm (Rates l) :: slRow N a 7 (l.map spV) :: M) w' := by
  by_cases h0 : k < 0
  · rw [ofR, if_pos h0]
    refine enterR [(0, .pointer (some ⟨bl, 0, none⟩)), (1, .int .i64 k), (2, .int .i64 t)] hw Tryz.func53 Tryz.ntmps53 ?_
    all_goals (refine go ?_; and_intros <;> (try exact trivial) <;> intros)
    refine ret1 Tryz.func53 Tryz.results53 ?_
    exact fun w' hw' => ⟨rfl, hw'.forget sbL⟩
  · obtain ⟨n, rfl⟩ : ∃ n : Nat, k = n := ⟨k.toNat, by omega⟩
    have hn : n < l.length := by omega
    obtain ⟨b, off, ha⟩ := ha
    have ha := ha.resolve_right (fun e => by subst e; exact absurd hn (Nat.not_lt_zero _))
    subst ha
    have hs := List.getElem_mem hn
    have hr := fun w' (hb : Below w0.heap.size w0 w') => vrate_holds l[n] t w' ((hP _ hs).below hb) (hf _ hs) (hR _ hs) ht.1 ht.2
    have e0 : ofR l (n : Int) t = rateOf l[n] t := ofR_at hn
    rw [← e0] at hr
    refine enterR [(0, .pointer (some ⟨bl, 0, none⟩)), (1, .int .i64 n), (2, .int .i64 t)] hw Tryz.func53 Tryz.ntmps53 ?_
    refine J.bare RAt.au fun o ho => ?_
    obtain ⟨es, clock, L, rfl, hI, hL⟩ := ho
    have hput : ∀ k' t' v, getM (k', t') (putM ((n : Int), t) (qA (rQ (ofR l n t))) L) = some v → v = qA (rQ (ofR l k' t')) := by
      intro k' t' v hv
      rw [getM_put] at hv
      split at hv
      · rename_i e
        cases e; cases hv; rfl
      · exact hL _ _ _ hv
    cases hg : getM ((n : Int), t) L with
    | some v =>
      have hv := hL _ _ _ hg
      subst hv
      all_goals (refine goR ?_; and_intros <;> (try exact trivial) <;> intros)
      repeat' ((first | (apply J.regA (.q 0 <| .q 1 <| .q 2 <| .q 3 <| .q 4 <| .q 5 <| .q 6 <| .q 7 <| .q 8 <| .e 9 <| .r 10 <| .q 11 <| .nil); exact Tryz.mixed; decide +kernel) | (apply G.lko (kf := k2V) (a := ((n : Int), t)) hI hg; rfl; rfl; exact mm; rfl) | (apply J.regQ; exact Tryz.mixed; decide +kernel) | (apply J.regL'; exact Tryz.mixed; decide +kernel)) <;> (refine goR ?_; and_intros <;> (try exact trivial) <;> intros))
      refine ret1 Tryz.func53 Tryz.results53 ?_
      exact fun w' hw' => ⟨rfl, (hw'.shutI (A := Rates l) RAt.au ⟨es, clock, L, rfl, hI, hL⟩).forget sbL⟩
    | none =>
      all_goals (refine goR ?_; and_intros <;> (try exact trivial) <;> intros)
      repeat' ((first | (apply J.regA (.q 0 <| .q 1 <| .q 2 <| .q 3 <| .q 4 <| .q 5 <| .q 6 <| .q 7 <| .q 8 <| .e 9 <| .r 10 <| .q 11 <| .nil); exact Tryz.mixed; decide +kernel) | (apply G.lko (kf := k2V) (a := ((n : Int), t)) hI hg; rfl; rfl; exact mm; rfl) | (apply G.ld; rfl; exact LdV.aggSl mm hn (by rfl); rfl) | (refine G.cvb hr ?_) | (apply G.mu (kf := k2V) (a := ((n : Int), t)) hI rfl; rfl; rfl; rfl; rfl; (repeat (first | exact RAt.head | apply RAt.tail)); intro es2 c2 hI2) | (apply J.regQ; exact Tryz.mixed; decide +kernel) | (apply J.regL'; exact Tryz.mixed; decide +kernel)) <;> (refine goR ?_; and_intros <;> (try exact trivial) <;> intros))
      refine ret1 Tryz.func53 Tryz.results53 ?_
      exact fun w' hw' => ⟨rfl, (hw'.shutI (A := Rates l) RAt.au ⟨_, _, _, rfl, hI2, hput⟩).forget sbL⟩
/-- A rate for so many ticks is added. -/
theorem add_holds (w0 : World) (M : List Row) (w : World) (bl bm N : Nat) (a : Option Addr) (l : List Spn) (c : Nat) (x : Rat) (n k t : Int) (m : Nat) (S : Q3) (hS : S = rQ x) (hw : Sat w0 (.blk bl 97 [.slice a l.length c, .map (some bm), .bool S.neg, .string (bs S.num), .string (bs S.den)] 5 :: .inv bm (Rates l) :: slRow N a 7 (l.map spV) :: M) w)
    (hP : ∀ s ∈ l, PtsAt w0 s) (hf : ∀ s ∈ l, fewS s) (hR : ∀ s ∈ l, RightS s) (hk : k < l.length) (ht : 0 ≤ t ∧ t ≤ 1000) (hl : l.length ≤ 1000000) (ha : ∃ b off, a = some ⟨b, off, none⟩ ∨ l = [])
    (hn : -999999999999999 ≤ n ∧ n ≤ 999999999999999) (hx : fewQ m S) (hm : m ≤ 134217728) (S' : Q3) (hS' : S' = rQ (x + n * ofR l k t)) :
    Calls Tryz.prog 43 #[.pointer (some ⟨bl, 0, none⟩), .int .i64 n, .int .i64 k, .int .i64 t] w fun e w' => e = .returned (.tuple #[]) ∧ Sat w0 (.blk bl 97 [.slice a l.length c, .map (some bm), .bool S'.neg, .string (bs S'.num), .string (bs S'.den)] 5 :: .inv bm (Rates l) :: slRow N a 7 (l.map spV) :: M) w' := by
  have hi := fun w' => int_holds n w' hn.1 hn.2
  have z := fewQ_int hn.1 hn.2
  have zo := fewQ_of (k := k) hf hR ht
  have ml := fun w' => ratMul_holds (rQ (n : Rat)) (rQ (ofR l k t)) w' (fewQ_le z (by decide)).1 (fewQ_le z (by decide)).2 (fewQ_le zo (by decide)).1 (fewQ_le zo (by decide)).2
  have zm := fewQ_mul z zo (by decide) (by decide)
  have ad := fun w' => ratAdd_holds S (rQ (n * ofR l k t)) w' (fewQ_le hx hm).1 (fewQ_le hx hm).2 (fewQ_le zm (by decide)).1 (fewQ_le zm (by decide)).2
  rw [qR_rQ, qR_rQ] at ml
  rw [hS, qR_rQ, qR_rQ, ← hS, ← hS'] at ad
  clear z zo zm hx hS'
  have hof := fun w' hw' => of_holds w0 M w' bl bm N a l c S k t hw' hP hf hR hk ht hl ha
  generalize rQ (n * ofR l k t) = W at *
  generalize rQ (n : Rat) = V at *
  generalize rQ (ofR l k t) = U at *
  refine enterR [(0, .pointer (some ⟨bl, 0, none⟩)), (1, .int .i64 n), (2, .int .i64 k), (3, .int .i64 t)] hw Tryz.func43 Tryz.ntmps43 ?_
  all_goals (refine goR ?_; and_intros <;> (try exact trivial) <;> intros)
  repeat' ((first | (apply J.regA (.q 0 <| .q 1 <| .q 2 <| .q 3 <| .q 4 <| .q 5 <| .q 6 <| .q 7 <| .q 8 <| .q 9 <| .e 10 <| .q 11 <| .q 12 <| .q 13 <| .q 14 <| .r 15 <| .nil); exact Tryz.mixed; decide +kernel) | (refine G.cI rfl rfl (.refl _) hof ?_) | (apply G.cV (g := 40); rfl; rfl; exact fun w' _ => hi w') | (apply G.cV (g := 30); rfl; rfl; exact fun w' _ => ml w') | (apply G.cV (g := 29); rfl; rfl; exact fun w' _ => ad w') | (apply J.regQ; exact Tryz.mixed; decide +kernel) | (apply J.regL'; exact Tryz.mixed; decide +kernel)) <;> (refine goR ?_; and_intros <;> (try exact trivial) <;> intros))
  refine end0 Tryz.func43 Tryz.results43 ?_
  exact fun w' hw' => ⟨rfl, hw'⟩
theorem book_holds (w0 : World) (M : List Row) (w : World) (a : Option Addr) (l : List Spn) (c : Nat) (hw : Sat w0 M w) :
    Calls Tryz.prog 42 #[.slice a l.length c] w fun e w' => ∃ x : Nat × Nat, e = .returned (.pointer (some ⟨x.1, 0, none⟩)) ∧ Sat w0 (.blk x.1 97 [.slice a l.length c, .map (some x.2), .bool false, .string (bs []), .string (bs [])] 5 :: .inv x.2 (Rates l) :: M) w' := by
  refine enterR [(0, .slice a l.length c)] hw Tryz.func42 Tryz.ntmps42 ?_
  all_goals (refine go ?_; and_intros <;> (try exact trivial) <;> intros)
  repeat' ((first | (apply G.mkm; rfl; intro bm)) <;> (refine go ?_; and_intros <;> (try exact trivial) <;> intros))
  refine ret1 Tryz.func42 Tryz.results42 ?_
  exact fun w' hw' => ⟨(_, bm), rfl, hw'.shutI (A := Rates l) RAt.au Rates.nil⟩
/-- A call of add, wherever the rows stand. -/
theorem G.addL {C : Ctx} {st : List (Nat × Value)} {M M1 M2 M3 : List Row} {k : List Item} {q q' : Md} {all rest : List Oper} {d : Nat} {ty : TypeId} {pos : String} {after : Array Edge} {gd : Option (Nat × Bool)} {args : List Operand} {at_ : Array TypeId} (hP : C.P = Tryz.prog)
    {bl bm N : Nat} {a : Option Addr} {l : List Spn} {c : Nat} {n sp t : Int} {S : Q3} (x : Rat) (m : Nat)
    (hs : sideB all st gd d C.N q.res = some q') (ha : evL st args = some [.pointer (some ⟨bl, 0, none⟩), .int .i64 n, .int .i64 sp, .int .i64 t])
    (p1 : Pick (.blk bl 97 [.slice a l.length c, .map (some bm), .bool S.neg, .string (bs S.num), .string (bs S.den)] 5) M M1) (p2 : Pick (.inv bm (Rates l)) M1 M2) (p3 : Pick (slRow N a 7 (l.map spV)) M2 M3)
    (hq : (S = rQ x ∧ fewQ m S ∧ m ≤ 134217728) ∧ (∀ s ∈ l, PtsAt C.w0 s) ∧ (∀ s ∈ l, fewS s) ∧ (∀ s ∈ l, RightS s) ∧ sp < l.length ∧ (0 ≤ t ∧ t ≤ 1000) ∧ l.length ≤ 1000000 ∧ (∃ b off, a = some ⟨b, off, none⟩ ∨ l = []) ∧ -999999999999999 ≤ n ∧ n ≤ 999999999999999)
    (h : ∀ S' : Q3, S' = rQ (x + n * ofR l sp t) → G q' C all ((d, .tuple #[]) :: st) (.blk bl 97 [.slice a l.length c, .map (some bm), .bool S'.neg, .string (bs S'.num), .string (bs S'.den)] 5 :: .inv bm (Rates l) :: slRow N a 7 (l.map spV) :: M3) rest k) :
    G q C all st M ({ dst := some d, op := .call { callee := .value (.func 43), args := args.toArray, argTypes := at_ }, type := ty, pos, after, guard := gd } :: rest) k := by
  obtain ⟨P, b, PHI, N0, w0, D⟩ := C
  dsimp only at hP; subst hP
  obtain ⟨⟨h1, h2, h3⟩, h4, h5, h6, h7, h8, h9, h10, h11, h12⟩ := hq
  refine G.cM (X := Unit) (fun _ => .tuple #[]) (fun _ => _) hs ha (fun w hw => ?_) fun _ => h _ rfl
  refine (add_holds w0 M3 w bl bm N a l c x n sp t m S h1 (hw.perm (p1.perm.trans (List.Perm.cons _ (p2.perm.trans (List.Perm.cons _ p3.perm))))) h4 h5 h6 h7 h8 h9 h10 ⟨h11, h12⟩ h2 h3 _ rfl).mono fun e w' he => ⟨(), he.1, he.2⟩
end Go.Proofs.YthkdfpbjkpgckaaGreatDoor
namespace Go.Proofs.YthkdfpbjkpgckaaGreatDoor
open Go.RowKit Go.Sl Go.Num
/-- The sum of a span's rates at some stages. -/
def segSum (g : Int → Rat) : List Int → Rat
  | [] => 0
  | x :: r => g x + segSum g r
/-- The spans stand in order, from a tick on. -/
def InOrd : Int → List Spn → Prop
  | _, [] => True
  | x, s :: r => x ≤ s.from_ ∧ s.from_ < s.to_ ∧ InOrd s.to_ r
theorem InOrd.mono {x y : Int} {l : List Spn} (h : InOrd y l) (hxy : x ≤ y) : InOrd x l := by
  cases l with
  | nil => trivial
  | cons s r => exact ⟨Int.le_trans hxy h.1, h.2⟩
theorem inOrd_of {l : List Spn} {x : Int} (h : spErr x l = 0) : InOrd x l := by
  induction l generalizing x with
  | nil => trivial
  | cons s r ih =>
    rw [spErr] at h
    split at h
    · cases h
    rename_i c1
    simp only [Bool.or_eq_true, Bool.not_eq_true', decide_eq_false_iff_not, decide_eq_true_eq, not_or, Decidable.not_not] at c1
    exact ⟨by omega, c1.1.1.2.1, ih h⟩
theorem InOrd.none {x t : Int} {l : List Spn} (h : InOrd x l) (ht : t < x) : spanAt l t = l.length := by
  induction l generalizing x with
  | nil => rfl
  | cons s r ih =>
    have h1 := ih h.2.2 (by have := h.1; have := h.2.1; omega)
    unfold spanAt at *
    rw [List.findIdx_cons, show inS t s = false from by have := h.1; simp [inS]; omega, h1]; simp
theorem worth_cons {x t st : Int} {s : Spn} {l : List Spn} (h : InOrd x (s :: l)) : worthOf (s :: l) t st = (if inS t s = true then rateOf s st else 0) + worthOf l t st := by
  unfold worthOf spanAt
  rw [List.findIdx_cons]
  cases hi : inS t s with
  | true =>
    have h1 : t < s.to_ := by simp [inS] at hi; exact hi.2
    have h2 := h.2.2.none h1
    unfold spanAt at h2
    rw [h2]
    simp [Rat.add_zero]
  | false => simp [Rat.zero_add]
/-- Of a history's stages those at which a span counts. -/
def inSeg (g : Int → Rat) (s : Spn) : Int → List Int → Rat
  | _, [] => 0
  | f, x :: r => (if inS f s = true then g x else 0) + inSeg g s (f + 1) r
theorem volSum_cons {x : Int} {s : Spn} {l : List Spn} (h : InOrd x (s :: l)) (f : Int) (hs : List Int) : volSum (s :: l) f hs = inSeg (rateOf s) s f hs + volSum l f hs := by
  induction hs generalizing f with
  | nil => rw [volSum, volSum, inSeg, Rat.add_zero]
  | cons y r ih => rw [volSum, volSum, inSeg, worth_cons h, ih]; grind
theorem volSum_nil (f : Int) (hs : List Int) : volSum [] f hs = 0 := by
  induction hs generalizing f with
  | nil => rfl
  | cons y r ih => rw [volSum, ih, Rat.add_zero]; rfl
theorem inSeg_late {g : Int → Rat} {s : Spn} {f : Int} (h : s.to_ ≤ f) (hs : List Int) : inSeg g s f hs = 0 := by
  induction hs generalizing f with
  | nil => rfl
  | cons y r ih => rw [inSeg, ih (by omega), if_neg (by simp [inS]; omega), Rat.add_zero]
theorem inSeg_from {g : Int → Rat} {s : Spn} (n : Nat) : ∀ (hs : List Int) (f : Int), s.from_ ≤ f → s.to_ = f + n → inSeg g s f hs = segSum g (hs.take n)
  | [], f, _, _ => by simp [inSeg, segSum]
  | y :: r, f, h1, h2 => by
    cases n with
    | zero => rw [inSeg_late (by omega), List.take_zero, segSum]
    | succ n =>
      rw [List.take_succ_cons, inSeg, segSum, if_pos (by simp [inS]; omega), inSeg_from n r (f + 1) (by omega) (by omega)]
theorem inSeg_eq {g : Int → Rat} {s : Spn} : ∀ (hs : List Int) (f : Int) (d : Nat), s.from_ = f + d → s.from_ ≤ s.to_ → inSeg g s f hs = segSum g ((hs.drop d).take (s.to_ - s.from_).toNat)
  | [], f, d, _, _ => by simp [inSeg, segSum]
  | y :: r, f, d, h1, h2 => by
    cases d with
    | zero => rw [List.drop_zero, ← inSeg_from (s := s) (s.to_ - s.from_).toNat (y :: r) f (by omega) (by omega)]
    | succ d => rw [inSeg, if_neg (by simp [inS]; omega), Rat.zero_add, List.drop_succ_cons, inSeg_eq r (f + 1) d (by omega) h2]
/-! ### counts -/
def iv (p : Int × Int) : Int × Value := (p.1, .int .i64 p.2)
def bump (x : Int) : List (Int × Int) → List (Int × Int)
  | [] => [(x, 1)]
  | (y, n) :: r => if x = y then (x, n + 1) :: r else (y, n) :: bump x r
def cnt (x : Int) : List (Int × Int) → Int
  | [] => 0
  | (y, n) :: r => if x = y then n else cnt x r
theorem get_iv (x : Int) : ∀ L : List (Int × Int), (getM x (L.map iv)).getD (.int .i64 0) = .int .i64 (cnt x L)
  | [] => rfl
  | (y, n) :: r => by
    rw [List.map_cons, iv, getM, cnt]
    split
    · rfl
    · exact get_iv x r
theorem put_iv (x : Int) : ∀ L : List (Int × Int), putM x (.int .i64 (cnt x L + 1)) (L.map iv) = (bump x L).map iv
  | [] => rfl
  | (y, n) :: r => by
    rw [List.map_cons, iv, putM, bump, cnt]
    split
    · rfl
    · rw [put_iv x r]; rfl
/-- What counts are worth. -/
def wsum (g : Int → Rat) : List (Int × Int) → Rat
  | [] => 0
  | (x, n) :: r => (n : Rat) * g x + wsum g r
theorem wsum_bump (g : Int → Rat) (x : Int) : ∀ L : List (Int × Int), wsum g (bump x L) = wsum g L + g x
  | [] => by simp [bump, wsum]; grind
  | (y, n) :: r => by
    rw [bump]
    split
    · rename_i h; subst h
      rw [wsum, wsum, Rat.intCast_add]; grind
    · rw [wsum, wsum, wsum_bump g x r]; grind
theorem wsum_erase (g : Int → Rat) : ∀ (L : List (Int × Int)) (i : Nat) (hi : i < L.length), wsum g L = ((L[i].2 : Int) : Rat) * g L[i].1 + wsum g (L.eraseIdx i)
  | (y, n) :: r, 0, _ => rfl
  | (y, n) :: r, i + 1, hi => by
    rw [List.eraseIdx_cons_succ, wsum, wsum, wsum_erase g r i (by simpa using hi)]
    simp only [List.getElem_cons_succ]; grind
def okL (n : Int) (L : List (Int × Int)) : Prop := ∀ p ∈ L, (0 ≤ p.1 ∧ p.1 ≤ 1000) ∧ 0 ≤ p.2 ∧ p.2 ≤ n
theorem okL.bump {n x : Int} (hx : 0 ≤ x ∧ x ≤ 1000) (hn : 0 ≤ n) : ∀ {L : List (Int × Int)}, okL n L → okL (n + 1) (bump x L)
  | [], _, p, hp => by simp [Proofs.YthkdfpbjkpgckaaGreatDoor.bump] at hp; subst hp; exact ⟨hx, by show (0 : Int) ≤ 1; decide, by show (1 : Int) ≤ n + 1; omega⟩
  | (y, m) :: r, h, p, hp => by
    have h1 := h _ (List.mem_cons_self ..)
    rw [Proofs.YthkdfpbjkpgckaaGreatDoor.bump] at hp
    split at hp
    · rcases List.mem_cons.1 hp with rfl | hp
      · exact ⟨hx, by show 0 ≤ m + 1; have := h1.2.1; dsimp only at this; omega, by show m + 1 ≤ n + 1; have := h1.2.2; dsimp only at this; omega⟩
      · have h2 := h _ (List.mem_cons_of_mem _ hp); exact ⟨h2.1, h2.2.1, by omega⟩
    · rcases List.mem_cons.1 hp with rfl | hp
      · exact ⟨h1.1, h1.2.1, by have := h1.2.2; omega⟩
      · exact okL.bump hx hn (fun q hq => h q (List.mem_cons_of_mem _ hq)) p hp
theorem okL.len {x : Int} : ∀ (L : List (Int × Int)), (Proofs.YthkdfpbjkpgckaaGreatDoor.bump x L).length ≤ L.length + 1
  | [] => Nat.le_refl _
  | (y, m) :: r => by
    rw [Proofs.YthkdfpbjkpgckaaGreatDoor.bump]
    split
    · simp
    · simpa using okL.len r
theorem okL.cnt {n x : Int} (hn : 0 ≤ n) : ∀ {L : List (Int × Int)}, okL n L → 0 ≤ Proofs.YthkdfpbjkpgckaaGreatDoor.cnt x L ∧ Proofs.YthkdfpbjkpgckaaGreatDoor.cnt x L ≤ n
  | [], _ => ⟨Int.le_refl _, hn⟩
  | (y, m) :: r, h => by
    rw [Proofs.YthkdfpbjkpgckaaGreatDoor.cnt]
    split
    · exact (h _ (List.mem_cons_self ..)).2
    · exact okL.cnt hn fun q hq => h q (List.mem_cons_of_mem _ hq)
end Go.Proofs.YthkdfpbjkpgckaaGreatDoor
namespace Go.Sl
open Go.RowKit
variable {C : Ctx} {st : List (Nat × Value)} {M : List Row} {k : List Item} {q q' : Md} {all rest : List Oper} {d : Nat} {opn : Op} {ty : TypeId} {pos : String} {after : Array Edge} {gd : Option (Nat × Bool)}
/-- A call whose value is one of many. -/
theorem G.cX {X : Type} {g : FuncId} {args : List Operand} {vs : List Value} {at_ : Array TypeId} {v : X → Value} {w : World} [hF : Fun C.P g]
    (hc : ∀ w', Below w.heap.size w w' → Calls C.P g vs.toArray w' fun e w'' => ∃ x, e = .returned (v x) ∧ Below w'.heap.size w' w'') (h : ∀ x, G q' C all ((d, v x) :: st) M rest k) (hw : w = C.w0 := by rfl) (ha : evL st args = some vs := by rfl) (hs : sideB all st gd d C.N q.ext = some q' := by rfl) :
    G q C all st M ({ dst := some d, op := .call { callee := .value (.func g), args := args.toArray, argTypes := at_ }, type := ty, pos, after, guard := gd } :: rest) k := by
  subst hw
  obtain ⟨g1, g2, g3⟩ := sideB_ok hs
  exact G.call0 (X := X) (v := v) (Mn := fun _ => []) g1 g2 g3 ha (fun w hw => (hc w hw.below).mono fun e w' ⟨x, h1, h2⟩ => ⟨x, h1, hw.ext h2⟩) h
/-- A call that lays rows. -/
theorem G.cR {X : Type} {g : FuncId} {args : List Operand} {vs : List Value} {at_ : Array TypeId} {v : X → Value} {Mn : X → List Row} (ha : evL st args = some vs) (hs : sideB all st gd d C.N q.ext = some q') [hF : Fun C.P g]
    (hc : ∀ w, Sat C.w0 M w → Calls C.P g vs.toArray w fun e w' => ∃ x, e = .returned (v x) ∧ Sat C.w0 (Mn x ++ M) w') (h : ∀ x, G q' C all ((d, v x) :: st) (Mn x ++ M) rest k) :
    G q C all st M ({ dst := some d, op := .call { callee := .value (.func g), args := args.toArray, argTypes := at_ }, type := ty, pos, after, guard := gd } :: rest) k := by
  obtain ⟨g1, g2, g3⟩ := sideB_ok hs
  exact G.call0 g1 g2 g3 ha hc h
theorem J.front3 {r1 r2 r3 : Row} {M1 M2 M3 : List Row} (p1 : Pick r1 M M1) (p2 : Pick r2 M1 M2) (p3 : Pick r3 M2 M3) (h : J C st (r1 :: r2 :: r3 :: M3) k) : J C st M k :=
  J.perm (p1.perm.trans (List.Perm.cons _ (p2.perm.trans (List.Perm.cons _ p3.perm)))) h
end Go.Sl
namespace Go.Proofs.YthkdfpbjkpgckaaGreatDoor
open Go.RowKit Go.Sl Go.Num
theorem inOrd_drop {l : List Spn} {x : Int} (h : InOrd x l) (k : Nat) : ∃ y, InOrd y (l.drop k) := by
  induction l generalizing x k with
  | nil => exact ⟨0, by rw [List.drop_nil]; trivial⟩
  | cons s r ih =>
    cases k with
    | zero => exact ⟨x, h⟩
    | succ k => exact ih h.2.2 k
theorem SpansAt.nz {w : World} {b : Option Addr} {l : List Spn} (h : SpansAt w b l) : ∃ bb off, b = some ⟨bb, off, none⟩ ∨ l = [] := by
  cases l with
  | nil => exact ⟨0, 0, .inr rfl⟩
  | cons s r => obtain ⟨b', o', e, _⟩ := SlAt.all h.1 (Nat.succ_pos _); exact ⟨b', o', .inl e⟩
theorem erase_map {A B : Type} (g : A → B) (l : List A) (i : Nat) : (l.map g).eraseIdx i = (l.eraseIdx i).map g := by
  rw [List.eraseIdx_eq_take_drop_succ, List.eraseIdx_eq_take_drop_succ, List.map_append, List.map_take, List.map_drop]
theorem fewQ_step {x r : Rat} {n : Int} {m : Nat} (hx : fewQ m (rQ x)) (hm : 1 ≤ m) (hn : -999999999999999 ≤ n ∧ n ≤ 999999999999999) (hr : fewQ 140 (rQ r)) : fewQ (m + 150) (rQ (x + n * r)) :=
  fewQ_le (fewQ_add hx (fewQ_mul (fewQ_int hn.1 hn.2) hr (by decide) (by decide)) hm (by decide)) (by omega)
theorem vValue_holds (f : Int) (a b : Option Addr) (hs : List Int) (l : List Spn) (c d : Nat) (w : World) (hA : SlAt w a 1 (hs.map isV)) (hB : SpansAt w b l) (hf : ∀ s ∈ l, fewS s) (hl : hs.length ≤ 1000) (hcap : hs.length ≤ c)
    (hOf : ∀ w', Below w.heap.size w w' → Calls Tryz.prog 28 #[.agg #[.int .i64 f, .slice a hs.length c]] w' fun e w'' => ∃ u : Value, e = .returned (.tuple #[u, .int .i64 (if rightH f hs = false then 1 else 0)]) ∧ Below w'.heap.size w' w'') :
    Calls Tryz.prog 11 #[.agg #[.int .i64 f, .slice a hs.length c], .slice b l.length d] w fun e w' => e = .returned (.tuple #[qA (volE f hs l).1, .int .i64 (volE f hs l).2]) ∧ Below w.heap.size w w' := by
  have hc := fun w' (hb : Below w.heap.size w w') => vCheck_holds b l d w' (hB.below hb) hf
  rw [volE]
  by_cases h1 : spansErr l = 0
  · rw [if_neg (fun e => e h1)]
    have ⟨k1, k2⟩ := spansErr_ok h1
    have hO : InOrd 0 l := by
      rw [spansErr, if_neg (by omega)] at h1
      exact inOrd_of h1
    rw [h1] at hc
    by_cases h2 : rightH f hs = false
    · rw [if_pos h2]
      rw [if_pos h2] at hOf
      refine enterA [(0, .agg #[.int .i64 f, .slice a hs.length c]), (1, .slice b l.length d)] Tryz.func11 Tryz.ntmps11 ?_
      all_goals (refine go ?_; and_intros <;> (try exact trivial) <;> intros)
      repeat' ((first | (refine G.cvb hc ?_) | (refine G.cX hOf ?_; intro u)) <;> (refine go ?_; and_intros <;> (try exact trivial) <;> intros))
      all_goals refine ret2b Tryz.func11 Tryz.results11 ?_
      all_goals rfl
    · rw [if_neg h2]
      rw [if_neg h2] at hOf
      have h2 : rightH f hs = true := by simpa using h2
      obtain ⟨k3, k4⟩ := rightH_ok h2
      refine enterA [(0, .agg #[.int .i64 f, .slice a hs.length c]), (1, .slice b l.length d)] Tryz.func11 Tryz.ntmps11 ?_
      generalize hT : volSum l f hs = T
      all_goals (refine go ?_; and_intros <;> (try exact trivial) <;> intros)
      repeat' ((first | (refine G.cvb hc ?_) | (refine G.cX hOf ?_; intro u) | (apply G.cR (g := 42) (v := fun x : Nat × Nat => .pointer (some ⟨x.1, 0, none⟩)) (Mn := fun x => [.blk x.1 97 [.slice b l.length d, .map (some x.2), .bool false, .string (bs []), .string (bs [])] 5, .inv x.2 (Rates l)]); rfl; rfl; exact fun w' hw' => book_holds w _ w' b l d hw'; rintro ⟨bl, bm⟩)) <;> (refine go ?_; and_intros <;> (try exact trivial) <;> intros))
      clear hc hOf
      refine J.slOld hB.1 (J.front3 (r1 := .blk bl 97 [.slice b l.length d, .map (some bm), .bool false, .string (bs []), .string (bs [])] 5) (r2 := .inv bm (Rates l)) (r3 := slRow w.heap.size b 7 (l.map spV)) (by (repeat (first | exact Pick.head | apply Pick.tail))) (by (repeat (first | exact Pick.head | apply Pick.tail))) (by (repeat (first | exact Pick.head | apply Pick.tail))) ?_)
      refine J.loop (c := _) ((0, 0, zero3) : Nat × Rat × Q3) (fun s => l.length - s.1) (fun s => [(2, .pointer (some ⟨_, 0, none⟩)), (4, .pointer (some ⟨_, 0, none⟩)), (9, .pointer (some ⟨bl, 0, none⟩)), (33, .slice b l.length d), (34, .int .i64 l.length), (35, .int .i64 s.1)]) (fun s => [.blk bl 97 [.slice b l.length d, .map (some bm), .bool s.2.2.neg, .string (bs s.2.2.num), .string (bs s.2.2.den)] 5, .inv bm (Rates l), slRow w.heap.size b 7 (l.map spV), .blk _ 32 [.bool false, .string (bs []), .string (bs [])] 3, .blk _ 24 [.int .i64 f, .slice a hs.length c] 2]) (fun s => s.1 ≤ l.length ∧ s.2.2 = rQ s.2.1 ∧ fewQ (1 + 150000 * s.1) s.2.2 ∧ s.2.1 + volSum (l.drop s.1) f hs = T ∧ ∀ i (hi : i < l.length), i < s.1 → outH f hs.length l[i] = false) ?_ sbT sbL ?_
      · exact ⟨Nat.zero_le _, rfl, ⟨Nat.zero_le _, Nat.zero_le _⟩, by rw [Rat.zero_add]; exact hT, fun i h h2 => absurd h2 (Nat.not_lt_zero _)⟩
      intro ⟨k, x, S⟩ ⟨h3, h4, h5, h6, h7⟩ ih
      dsimp only at h3 h4 h5 h6 h7 ⊢
      by_cases hk : k < l.length
      · obtain ⟨bb, ob, rfl, hrb⟩ := SlAt.all hB.1 (by omega)
        have hrk := hrb k hk
        by_cases hq : outH f hs.length l[k] = true
        · rw [if_pos (List.any_eq_true.2 ⟨_, List.getElem_mem hk, hq⟩)]
          simp only [outH, Bool.or_eq_true, decide_eq_true_eq] at hq
          clear ih h7
          generalize l[k] = s at *
          obtain ⟨fr, tt, wt, dt, pts, adr, cap⟩ := s
          dsimp only [spV] at *
          all_goals (refine go ?_; and_intros <;> (try exact trivial) <;> intros)
          all_goals refine ret2b Tryz.func11 Tryz.results11 ?_
          all_goals rfl
        · have hq2 : outH f hs.length l[k] = false := by simpa using hq
          have h7' : ∀ i (hi : i < l.length), i < k + 1 → outH f hs.length l[i] = false := fun i hi h8 => by
            rcases Nat.lt_or_ge i k with h9 | h9
            · exact h7 i hi h9
            · obtain rfl : i = k := by omega
              exact hq2
          simp only [outH, Bool.or_eq_false_iff, decide_eq_false_iff_not] at hq2
          obtain ⟨y, hy⟩ := inOrd_drop hO k
          rw [List.drop_eq_getElem_cons hk] at h6 hy
          rw [volSum_cons hy] at h6
          have hRk := k2 _ (List.getElem_mem hk)
          have hof : ∀ t, ofR l (k : Int) t = rateOf l[k] t := fun t => ofR_at hk
          have hp : ∃ p : Nat, l[k].from_ = f + p := ⟨(l[k].from_ - f).toNat, by omega⟩
          have hn : ∃ n : Nat, l[k].to_ = l[k].from_ + n ∧ 0 < n := ⟨(l[k].to_ - l[k].from_).toNat, by have := hRk.1; omega, by have := hRk.1; omega⟩
          obtain ⟨p, hp⟩ := hp
          obtain ⟨n, hn, hn0⟩ := hn
          rw [inSeg_eq hs f p hp (by omega), show (l[k].to_ - l[k].from_).toNat = n by omega] at h6
          have hpn : p + n ≤ hs.length := by omega
          obtain ⟨ba, oa, rfl, hra⟩ := SlAt.all hA (by omega)
          clear h7 hq hRk
          generalize rateOf l[k] = g at *
          generalize hV : volSum (l.drop (k + 1)) f hs = V at *
          generalize l[k] = s at *
          obtain ⟨fr, tt, wt, dt, pts, adr, cap⟩ := s
          dsimp only [spV] at *
          subst hp
          subst hn
          have hseg : ∀ i (hi : i < n), ((hs.drop p).take n).drop i = hs[p + i] :: ((hs.drop p).take n).drop (i + 1) := fun i hi => by
            rw [List.drop_eq_getElem_cons (by simp; omega)]
            simp
          have hlen : ((hs.drop p).take n).length = n := by simp; omega
          generalize hsg : (hs.drop p).take n = sg at *
          all_goals (refine go ?_; and_intros <;> (try exact trivial) <;> intros)
          repeat' ((first | (apply G.slp (l := p) (h := p + n) (off := oa + p * 1) (len := n); rfl; rfl; rfl; omega; omega; omega; omega; omega; rfl; omega; rfl) | (apply G.mkm; rfl; intro bq)) <;> (refine go ?_; and_intros <;> (try exact trivial) <;> intros))
          refine J.loop (c := _) ((0, #[], 0, []) : Nat × Array MapEntry × Nat × List (Int × Int)) (fun s => n - s.1) (fun s => [(2, .pointer (some ⟨_, 0, none⟩)), (4, .pointer (some ⟨_, 0, none⟩)), (9, .pointer (some ⟨bl, 0, none⟩)), (10, .int .i64 k), (12, .map (some bq)), (33, .slice (some ⟨bb, ob, none⟩) l.length d), (34, .int .i64 l.length), (35, .int .i64 k), (70, .slice (some ⟨ba, oa + p * 1, none⟩) n _), (71, .int .i64 n), (72, .int .i64 s.1)]) (fun s => [.obj bq (.map s.2.1 s.2.2.1), .blk bl 97 [.slice (some ⟨bb, ob, none⟩) l.length d, .map (some bm), .bool S.neg, .string (bs S.num), .string (bs S.den)] 5, .inv bm (Rates l), slRow w.heap.size (some ⟨bb, ob, none⟩) 7 (l.map spV), .blk _ 32 [.bool false, .string (bs []), .string (bs [])] 3, .blk _ 24 [.int .i64 f, .slice (some ⟨ba, oa, none⟩) hs.length c] 2]) (fun s => s.1 ≤ n ∧ MapIs (Value.int .i64) s.2.1 s.2.2.1 (s.2.2.2.map iv) ∧ wsum g s.2.2.2 + segSum g (sg.drop s.1) = segSum g sg ∧ okL s.1 s.2.2.2 ∧ s.2.2.2.length ≤ s.1) ?_ sbT sbL ?_
          · exact ⟨Nat.zero_le _, MapIs.nil, Rat.zero_add _, fun p hp => (by cases hp), Nat.le_refl _⟩
          intro ⟨i, es, ck, Lc⟩ ⟨e1, hI, e2, e3, e4⟩ ih2
          dsimp only at e1 hI e2 e3 e4 ⊢
          by_cases hin : i < n
          · have hr1 : RowAt w ba (oa + p * 1 + i * 1) [.int .i64 hs[p + i]] := by
              have := hra (p + i) (by omega)
              rw [show oa + p * 1 + i * 1 = oa + (p + i) * 1 by omega]; exact this
            have hx := k4 (p + i) (by omega)
            rw [hseg i hin, segSum] at e2
            clear hra
            generalize hs[p + i] = z at *
            have hcn := okL.cnt (x := z) (Int.natCast_nonneg i) e3
            all_goals (refine go ?_; and_intros <;> (try exact trivial) <;> intros)
            repeat' ((first | (apply G.lk (kf := Value.int .i64) (a := z) hI; rfl; rfl; exact mm; exact get_iv z Lc; rfl) | (apply G.mu (kf := Value.int .i64) (a := z) hI (put_iv z Lc); rfl; rfl; rfl; rfl; (repeat (first | exact RAt.head | apply RAt.tail)); intro es2 c2 hI2)) <;> (refine go ?_; and_intros <;> (try exact trivial) <;> intros))
            exact J.fin (ih2 (i + 1, es2, c2, bump z Lc) ⟨hin, hI2, by dsimp only; rw [wsum_bump]; grind, by dsimp only; exact_mod_cast okL.bump hx (Int.natCast_nonneg i) e3, by dsimp only; have := okL.len (x := z) Lc; omega⟩ (by dsimp only; omega))
          · obtain rfl : i = n := by omega
            rw [show sg.drop i = [] from List.drop_eq_nil_of_le (by omega), segSum, Rat.add_zero] at e2
            clear ih2
            all_goals (refine go ?_; and_intros <;> (try exact trivial) <;> intros)
            repeat' ((first | (apply G.rg; rfl; exact mm; rfl; intro br)) <;> (refine go ?_; and_intros <;> (try exact trivial) <;> intros))
            rw [← e2, ← Rat.add_assoc] at h6
            clear e2 e1
            refine J.front3 (r1 := .blk bl 97 [.slice (some ⟨bb, ob, none⟩) l.length d, .map (some bm), .bool S.neg, .string (bs S.num), .string (bs S.den)] 5) (r2 := .inv bm (Rates l)) (r3 := slRow w.heap.size (some ⟨bb, ob, none⟩) 7 (l.map spV)) (by (repeat (first | exact Pick.head | apply Pick.tail))) (by (repeat (first | exact Pick.head | apply Pick.tail))) (by (repeat (first | exact Pick.head | apply Pick.tail))) ?_
            refine J.loop (c := _) ((x, S, #[], Lc) : Rat × Q3 × Array Nat × List (Int × Int)) (fun s => s.2.2.2.length) (fun s => [(2, .pointer (some ⟨_, 0, none⟩)), (4, .pointer (some ⟨_, 0, none⟩)), (9, .pointer (some ⟨bl, 0, none⟩)), (10, .int .i64 k), (33, .slice (some ⟨bb, ob, none⟩) l.length d), (34, .int .i64 l.length), (35, .int .i64 k), (82, .pointer (some ⟨br, 0, none⟩))]) (fun s => [.blk bl 97 [.slice (some ⟨bb, ob, none⟩) l.length d, .map (some bm), .bool s.2.1.neg, .string (bs s.2.1.num), .string (bs s.2.1.den)] 5, .inv bm (Rates l), slRow w.heap.size (some ⟨bb, ob, none⟩) 7 (l.map spV), .obj br (.mapIter (some bq) ck s.2.2.1 ck), .obj bq (.map es ck), .blk _ 32 [.bool false, .string (bs []), .string (bs [])] 3, .blk _ 24 [.int .i64 f, .slice (some ⟨ba, oa, none⟩) hs.length c] 2]) (fun s => s.2.1 = rQ s.1 ∧ s.2.2.2.length ≤ i ∧ fewQ (1 + 150000 * k + 150 * (i - s.2.2.2.length)) s.2.1 ∧ s.1 + wsum g s.2.2.2 + V = T ∧ Rem (Value.int .i64) es s.2.2.1 (s.2.2.2.map iv) ∧ okL i s.2.2.2) ?_ sbT sbL ?_
            · exact ⟨h4, e4, fewQ_le h5 (by omega), h6, Rem.start hI, e3⟩
            clear h4 h5 h6 e3 e4
            intro ⟨x1, S1, seen, R⟩ ⟨h4, e4, h5, h6, hRm, e3⟩ ih2
            dsimp only at h4 e4 h5 h6 hRm e3 ⊢
            by_cases hR0 : R = []
            · subst hR0
              clear ih2
              all_goals (refine go ?_; and_intros <;> (try exact trivial) <;> intros)
              repeat' ((first | (apply G.nx0 hI hRm; rfl; rfl; exact mm; exact mm)) <;> (refine go ?_; and_intros <;> (try exact trivial) <;> intros))
              exact J.fin (ih (k + 1, x1, S1) ⟨hk, h4, fewQ_le h5 (by dsimp only; omega), by dsimp only; rw [wsum, Rat.add_zero] at h6; rw [hV]; exact h6, h7'⟩ (by dsimp only; omega))
            · have hadd : ∀ j (hj : j < R.length), (S1 = rQ x1 ∧ fewQ (1 + 150000 * k + 150 * (i - R.length)) S1 ∧ (1 + 150000 * k + 150 * (i - R.length)) ≤ 134217728) ∧ (∀ s ∈ l, PtsAt w s) ∧ (∀ s ∈ l, fewS s) ∧ (∀ s ∈ l, RightS s) ∧ (k : Int) < l.length ∧ (0 ≤ R[j].1 ∧ R[j].1 ≤ 1000) ∧ l.length ≤ 1000000 ∧ (∃ b' off, (some ⟨bb, ob, none⟩ : Option Addr) = some ⟨b', off, none⟩ ∨ l = []) ∧ -999999999999999 ≤ R[j].2 ∧ R[j].2 ≤ 999999999999999 := fun j hj => by
                have := e3 _ (List.getElem_mem hj)
                exact ⟨⟨h4, h5, by omega⟩, hB.2, hf, k2, by omega, this.1, by omega, ⟨bb, ob, .inl rfl⟩, by omega, by omega⟩
              all_goals (refine go ?_; and_intros <;> (try exact trivial) <;> intros)
              repeat' ((first | (apply G.nx1 hI hRm (fun e => hR0 (List.map_eq_nil_iff.1 e)); rfl; rfl; (repeat (first | exact RAt.head | apply RAt.tail)); exact mm; intro j hj seen' hRm' ⟨e, he, hsn, hek, hev⟩; rw [List.length_map] at hj; rw [List.getElem_map, iv] at hek hev; dsimp only at hek hev) | (apply G.en hI he hsn hek hev; rfl; rfl; exact mm; exact mm) | (apply G.addL rfl x1 (1 + 150000 * k + 150 * (i - R.length)); rfl; rfl; (repeat (first | exact Pick.head | apply Pick.tail)); (repeat (first | exact Pick.head | apply Pick.tail)); (repeat (first | exact Pick.head | apply Pick.tail)); exact hadd j hj; intro S2 hS2)) <;> (refine go ?_; and_intros <;> (try exact trivial) <;> intros))
              have hj3 := e3 _ (List.getElem_mem hj)
              rw [hof] at hS2
              have hfew := fewQ_of (k := (k : Int)) hf k2 hj3.1
              rw [hof] at hfew
              have hst := fewQ_step (n := R[j].2) (h4 ▸ h5) (by omega) (by omega) hfew
              rw [wsum_erase g R j hj] at h6
              have hlenR : (R.eraseIdx j).length = R.length - 1 := by rw [List.length_eraseIdx, if_pos hj]
              exact J.fin (ih2 (x1 + R[j].2 * g R[j].1, S2, seen', R.eraseIdx j) ⟨hS2, by dsimp only; omega, by dsimp only; rw [hS2]; exact fewQ_le hst (by omega), by dsimp only; grind, by dsimp only; rw [← erase_map]; exact hRm', fun p hp => e3 p (List.mem_of_mem_eraseIdx hp)⟩ (by dsimp only; omega))
      · rw [show l.any (outH f hs.length) = false from List.any_eq_false.2 fun x hx => by
          obtain ⟨i, h8, rfl⟩ := List.getElem_of_mem hx
          rw [h7 i h8 (by omega)]; decide]
        rw [if_neg (by decide)]
        rw [show k = l.length by omega, List.drop_length, volSum_nil, Rat.add_zero] at h6
        subst h6
        rw [← h4]
        clear ih h7
        all_goals (refine go ?_; and_intros <;> (try exact trivial) <;> intros)
        all_goals refine ret2b Tryz.func11 Tryz.results11 ?_
        all_goals rfl
  · rw [if_pos h1]
    generalize spansErr l = E at *
    refine enterA [(0, .agg #[.int .i64 f, .slice a hs.length c]), (1, .slice b l.length d)] Tryz.func11 Tryz.ntmps11 ?_
    all_goals (refine go ?_; and_intros <;> (try exact trivial) <;> intros)
    repeat' ((first | (refine G.cvb hc ?_)) <;> (refine go ?_; and_intros <;> (try exact trivial) <;> intros))
    all_goals refine ret2b Tryz.func11 Tryz.results11 ?_
    all_goals rfl
end Go.Proofs.YthkdfpbjkpgckaaGreatDoor
namespace Go.Proofs.YthkdfpbjkpgckaaGreatDoor
open Go.RowKit Go.Sl Go.Num
/-- A run of one stage. -/
def rawR (r : Rn) (s : Int) : Prop := r.tab = [(s, r.to_ - r.from_)] ∧ r.lo = 0 ∧ r.hi = 0
theorem rnV_len (r : Rn) : (rnV r).length = 5 := rfl
theorem bothEq_holds (p r : Rn) (s : Int) (w : World) (hp : rawR p s) (hr : rawR r s) (hA : TabAt w p) (hB : TabAt w r) (h1 : 0 ≤ p.from_ ∧ p.from_ ≤ 1402560) (h2 : 0 ≤ r.to_ ∧ r.to_ ≤ 1402560) :
    Calls Tryz.prog 66 #[rnA p, rnA r] w fun e w' => ∃ a' c', e = .returned (.tuple #[.agg #[.int .i64 p.from_, .int .i64 r.to_, .slice a' 1 c', .int .i64 0, .int .i64 0], .bool true]) ∧ SlAt w' a' 2 ([(s, r.to_ - p.from_)].map hoV) ∧ (∀ p, a' = some p → w.heap.size ≤ p.block) ∧ Below w.heap.size w w' := by
  have hra := fun w' => raw_holds p w'
  have hrb := fun w' => raw_holds r w'
  have hh := fun w' => held_holds p.from_ r.to_ s w' h1 h2
  obtain ⟨f, t, tab, adr, cap, lo, hi⟩ := p
  obtain ⟨f2, t2, tab2, adr2, cap2, lo2, hi2⟩ := r
  dsimp only [rawR] at hp hr h1 h2 hh
  obtain ⟨rfl, rfl, rfl⟩ := hp
  obtain ⟨rfl, rfl, rfl⟩ := hr
  obtain ⟨b1, o1, rfl, hr1⟩ := SlAt.all hA (Nat.succ_pos _)
  obtain ⟨b2, o2, rfl, hr2⟩ := SlAt.all hB (Nat.succ_pos _)
  have hr1 := hr1 0 (Nat.succ_pos _)
  have hr2 := hr2 0 (Nat.succ_pos _)
  dsimp only [rnA, hoV, List.getElem_cons_zero, List.length_cons, List.length_nil, List.map_cons, List.map_nil] at *
  simp only [Nat.zero_add, eq_self, decide_true] at hra hrb
  refine enterA [(0, .agg #[.int .i64 f, .int .i64 t, .slice (some ⟨b1, o1, none⟩) 1 cap, .int .i64 0, .int .i64 0]), (1, .agg #[.int .i64 f2, .int .i64 t2, .slice (some ⟨b2, o2, none⟩) 1 cap2, .int .i64 0, .int .i64 0])] Tryz.func66 Tryz.ntmps66 ?_
  all_goals (refine goR ?_; and_intros <;> (try exact trivial) <;> intros)
  repeat' ((first | (apply G.cV (g := 104) (vs := [.agg #[.int .i64 f, .int .i64 t, .slice (some ⟨b1, o1, none⟩) 1 cap, .int .i64 0, .int .i64 0]]); rfl; rfl; exact fun w' _ => hra w') | (apply G.cV (g := 104) (vs := [.agg #[.int .i64 f2, .int .i64 t2, .slice (some ⟨b2, o2, none⟩) 1 cap2, .int .i64 0, .int .i64 0]]); rfl; rfl; exact fun w' _ => hrb w') | (apply J.regA (.q 0 <| .q 1 <| .q 2 <| .q 3 <| .q 4 <| .q 5 <| .q 6 <| .q 7 <| .q 8 <| .e 9 <| .r 10 <| .q 11 <| .nil); exact Tryz.mixed; decide +kernel) | (apply G.cN (g := 65) (fun a' c' => .agg #[.int .i64 f, .int .i64 t2, .slice a' 1 c', .int .i64 0, .int .i64 0]) ([(s, t2 - f)].map hoV); rfl; rfl; exact fun w' _ => hh w'; intro a1 c1 hp1 hq1) | (apply J.regQ; exact Tryz.mixed; decide +kernel) | (apply J.regL'; exact Tryz.mixed; decide +kernel)) <;> (refine goR ?_; and_intros <;> (try exact trivial) <;> intros))
  refine ret2 Tryz.func66 Tryz.results66 ?_
  exact fun w' hw' => ⟨a1, c1, rfl, hw'.sl (N := w.heap.size) mm, hq1, hw'.below⟩
theorem bothNe_holds (p r : Rn) (s u : Int) (w : World) (hp : rawR p s) (hr : rawR r u) (hA : TabAt w p) (hB : TabAt w r) (hsu : s ≠ u) :
    Calls Tryz.prog 66 #[rnA p, rnA r] w fun e w' => e = .returned (.tuple #[.agg #[.int .i64 0, .int .i64 0, .slice none 0 0, .int .i64 0, .int .i64 0], .bool false]) ∧ Below w.heap.size w w' := by
  have hra := fun w' => raw_holds p w'
  have hrb := fun w' => raw_holds r w'
  have hga := fun w' => gap_holds p w'
  obtain ⟨f, t, tab, adr, cap, lo, hi⟩ := p
  obtain ⟨f2, t2, tab2, adr2, cap2, lo2, hi2⟩ := r
  dsimp only [rawR] at hp hr
  obtain ⟨rfl, rfl, rfl⟩ := hp
  obtain ⟨rfl, rfl, rfl⟩ := hr
  obtain ⟨b1, o1, rfl, hr1⟩ := SlAt.all hA (Nat.succ_pos _)
  obtain ⟨b2, o2, rfl, hr2⟩ := SlAt.all hB (Nat.succ_pos _)
  have hr1 := hr1 0 (Nat.succ_pos _)
  have hr2 := hr2 0 (Nat.succ_pos _)
  dsimp only [rnA, hoV, List.getElem_cons_zero, List.length_cons, List.length_nil, List.map_cons, List.map_nil] at *
  simp only [Nat.zero_add, eq_self, decide_true, Nat.one_ne_zero, decide_false] at hra hrb hga
  refine enterA [(0, .agg #[.int .i64 f, .int .i64 t, .slice (some ⟨b1, o1, none⟩) 1 cap, .int .i64 0, .int .i64 0]), (1, .agg #[.int .i64 f2, .int .i64 t2, .slice (some ⟨b2, o2, none⟩) 1 cap2, .int .i64 0, .int .i64 0])] Tryz.func66 Tryz.ntmps66 ?_
  all_goals (refine goR ?_; and_intros <;> (try exact trivial) <;> intros)
  repeat' ((first | (apply G.cV (g := 104) (vs := [.agg #[.int .i64 f, .int .i64 t, .slice (some ⟨b1, o1, none⟩) 1 cap, .int .i64 0, .int .i64 0]]); rfl; rfl; exact fun w' _ => hra w') | (apply G.cV (g := 104) (vs := [.agg #[.int .i64 f2, .int .i64 t2, .slice (some ⟨b2, o2, none⟩) 1 cap2, .int .i64 0, .int .i64 0]]); rfl; rfl; exact fun w' _ => hrb w') | (apply G.cV (g := 72) (vs := [.agg #[.int .i64 f, .int .i64 t, .slice (some ⟨b1, o1, none⟩) 1 cap, .int .i64 0, .int .i64 0]]); rfl; rfl; exact fun w' _ => hga w') | (apply J.regQ; exact Tryz.mixed; decide +kernel) | (apply J.regL'; exact Tryz.mixed; decide +kernel)) <;> (refine goR ?_; and_intros <;> (try exact trivial) <;> intros))
  all_goals refine ret2b Tryz.func66 Tryz.results66 ?_
  all_goals rfl
/-- The runs of a history, so far: where each begins and ends, and its stage. -/
def ofStep (o : List (Int × Int × Int)) (k s : Int) : List (Int × Int × Int) := match o.getLast? with
  | none => [(k, k + 1, s)]
  | some p => if p.2.2 = s then o.dropLast ++ [(p.1, k + 1, s)] else o ++ [(k, k + 1, s)]
def ofL : Int → List Int → List (Int × Int × Int) → List (Int × Int × Int)
  | _, [], o => o
  | k, s :: r, o => ofL (k + 1) r (ofStep o k s)
theorem nil_or_snoc {A : Type} (l : List A) : l = [] ∨ ∃ o p, l = o ++ [p] := by
  rcases List.eq_nil_or_concat l with rfl | ⟨o, p, rfl⟩
  · exact .inl rfl
  · exact .inr ⟨o, p, List.concat_eq_append⟩
def stg (r : Rn) : Int := (r.tab.headD (0, 0)).1
def key (r : Rn) : Int × Int × Int := (r.from_, r.to_, stg r)
def RawsOf (o : List Rn) (l : List (Int × Int × Int)) : Prop := o.map key = l ∧ ∀ r ∈ o, rawR r (stg r)
def newR (N : Nat) (o : List Rn) : Prop := ∀ r ∈ o, ∀ p, r.adr = some p → N ≤ p.block
theorem famTab {w0 w : World} {M : List Row} {N : Nat} {o : List Rn} {r : Rn} (hw : Sat w0 M w) (hr : r ∈ o) (hm : famRow N Rn.adr 2 (fun r => r.tab.map hoV) o ∈ M := by (repeat (first | exact List.Mem.head _ | apply List.Mem.tail))) : TabAt w r := hw.fam hm r hr
theorem slTab {w0 w : World} {M : List Row} {N : Nat} {r : Rn} (hw : Sat w0 M w) (hm : slRow N r.adr 2 (r.tab.map hoV) ∈ M := by (repeat (first | exact List.Mem.head _ | apply List.Mem.tail))) : TabAt w r := hw.sl hm
theorem ofRuns_holds (f : Int) (a : Option Addr) (hs : List Int) (c : Nat) (w : World) (hA : SlAt w a 1 (hs.map isV)) (hl : hs.length ≤ 1000) (hr : rightH f hs = true) :
    Calls Tryz.prog 28 #[.agg #[.int .i64 f, .slice a hs.length c]] w fun e w' => ∃ (L : List Rn) (a' : Option Addr) (c' : Nat), RawsOf L (ofL f hs []) ∧ e = .returned (.tuple #[.slice a' L.length c', .int .i64 0]) ∧ L.length ≤ c' ∧ L.length ≤ hs.length ∧ RunsAt w' a' L ∧ (∀ p, a' = some p → w.heap.size ≤ p.block) ∧ newR w.heap.size L ∧ Below w.heap.size w w' := by
  have hri := fun w' (hb : Below w.heap.size w w') => hRight_holds f a hs c w' (hA.below hb) (by omega)
  rw [hr] at hri
  obtain ⟨k3, k4⟩ := rightH_ok hr
  generalize hT : ofL f hs [] = T
  refine enterA [(0, .agg #[.int .i64 f, .slice a hs.length c])] Tryz.func28 Tryz.ntmps28 ?_
  all_goals (refine go ?_; and_intros <;> (try exact trivial) <;> intros)
  repeat' ((first | (refine G.cvb hri ?_)) <;> (refine go ?_; and_intros <;> (try exact trivial) <;> intros))
  clear hri
  apply J.nilOwn (E := 28) (size := 5)
  apply J.fam0 Rn.adr 2 (fun r => r.tab.map hoV)
  refine J.loop (c := _) ((0, .slice none 0 0, 0, []) : Nat × Value × Nat × List Rn) (fun s => hs.length - s.1) (fun s => [(1, .pointer (some ⟨_, 0, none⟩)), (4, s.2.1), (14, .slice a hs.length c), (15, .int .i64 hs.length), (16, .int .i64 s.1)]) (fun s => [famRow w.heap.size Rn.adr 2 (fun r => r.tab.map hoV) s.2.2.2, .own 0 s.2.1 28 5 s.2.2.1 (flat rnV s.2.2.2), .blk _ 24 [.int .i64 f, .slice a hs.length c] 2]) (fun s => s.1 ≤ hs.length ∧ s.2.2.2.length = s.2.2.1 ∧ s.2.2.1 ≤ s.1 ∧ ofL (f + s.1) (hs.drop s.1) (s.2.2.2.map key) = T ∧ (∀ r ∈ s.2.2.2, rawR r (stg r)) ∧ (∀ r ∈ s.2.2.2, 0 ≤ r.from_ ∧ r.from_ ≤ 1402560) ∧ newR w.heap.size s.2.2.2) ?_ sbT sbL ?_
  · exact ⟨Nat.zero_le _, rfl, Nat.le_refl _, by dsimp only; rw [List.drop_zero, List.map_nil, Int.natCast_zero, Int.add_zero]; exact hT, fun r h => (by cases h), fun r h => (by cases h), fun r h => (by cases h)⟩
  clear hT
  intro ⟨k, u, j, o⟩ ⟨h3, h4, h5, h6, h7, h8, h9⟩ ih
  dsimp only at h3 h4 h5 h6 h7 h8 h9 ⊢
  by_cases hk : k < hs.length
  · obtain ⟨ba, oa, rfl, hra⟩ := SlAt.all hA (by omega)
    have hrk := hra k hk
    rw [List.drop_eq_getElem_cons hk, ofL] at h6
    generalize hs[k] = s at *
    dsimp only [isV] at *
    have hh := fun w' => held_holds (f + k) (f + k + 1) s w' (by omega) (by omega)
    rcases nil_or_snoc o with rfl | ⟨o', p, rfl⟩
    · obtain rfl : j = 0 := by simpa using h4.symm
      all_goals (refine go ?_; and_intros <;> (try exact trivial) <;> intros)
      repeat' ((first | (apply G.cN (g := 65) (fun a' c' => .agg #[.int .i64 (f + k), .int .i64 (f + k + 1), .slice a' 1 c', .int .i64 0, .int .i64 0]) ([(s, f + k + 1 - (f + k))].map hoV); rfl; rfl; exact fun w' _ => hh w'; intro a1 c1 hp1 hq1) | (apply G.sliceL; rfl; rfl; rfl; rfl; rfl; rfl; rfl; rfl; intro Bs) | (apply G.ap; rfl; rfl; rfl; (repeat (first | exact RAt.head | apply RAt.tail)); exact SrcV.blk (by exact mm) rfl rfl; exact flat1 rnV [] ⟨f + k, f + k + 1, [(s, f + k + 1 - (f + k))], a1, c1, 0, 0⟩; omega; omega; intro v2) | (refine G.ownOpen RAt.au (by omega) ?_; intro g cap hgc hcm hv; subst hv)) <;> (refine go ?_; and_intros <;> (try exact trivial) <;> intros))
      refine J.blkCut (l' := [⟨f + k, f + k + 1, [(s, f + k + 1 - (f + k))], a1, c1, 0, 0⟩]) 1 rnV_len RAt.au hgc hcm (Nat.le_refl _) rfl ?_
      refine J.famAdd (r := (⟨f + k, f + k + 1, [(s, f + k + 1 - (f + k))], a1, c1, 0, 0⟩ : Rn)) (o := []) mm mm ?_
      exact J.fin (ih (k + 1, _, 1, [⟨f + k, f + k + 1, [(s, f + k + 1 - (f + k))], a1, c1, 0, 0⟩]) ⟨hk, rfl, by dsimp only; omega, by dsimp only; rw [← h6, show f + ((k + 1 : Nat) : Int) = f + k + 1 by omega]; rfl, fun r hr => by rw [List.mem_singleton.1 hr]; exact ⟨rfl, rfl, rfl⟩, fun r hr => by rw [List.mem_singleton.1 hr]; dsimp only; omega, fun r hr => by rw [List.mem_singleton.1 hr]; exact hq1⟩ (by dsimp only; omega))
    · have hj : j = o'.length + 1 := by rw [← h4]; simp
      have hpm : p ∈ o' ++ [p] := by simp
      have hp7 := h7 p hpm
      have hp8 := h8 p hpm
      rw [List.map_append, List.map_cons, List.map_nil, ofStep, List.getLast?_concat] at h6
      dsimp only at h6
      subst hj
      have hrw : ∀ a1 c1, rawR (⟨f + k, f + k + 1, [(s, f + k + 1 - (f + k))], a1, c1, 0, 0⟩ : Rn) s := fun _ _ => ⟨rfl, rfl, rfl⟩
      have hL1 : ∀ a1 c1, ((o' ++ [p]) ++ [(⟨f + k, f + k + 1, [(s, f + k + 1 - (f + k))], a1, c1, 0, 0⟩ : Rn)])[o'.length]? = some p := fun _ _ => by simp
      have hL2 : ∀ a1 c1, ((o' ++ [p]) ++ [(⟨f + k, f + k + 1, [(s, f + k + 1 - (f + k))], a1, c1, 0, 0⟩ : Rn)])[o'.length + 1]? = some ⟨f + k, f + k + 1, [(s, f + k + 1 - (f + k))], a1, c1, 0, 0⟩ := fun _ _ => by simp
      by_cases hs : stg p = s
      · rw [if_pos (show (key p).2.2 = s from hs), List.dropLast_concat] at h6
        dsimp only [key] at h6
        rw [hs] at hp7
        have hbe := fun a1 c1 w' hA' hB' => bothEq_holds p ⟨f + k, f + k + 1, [(s, f + k + 1 - (f + k))], a1, c1, 0, 0⟩ s w' hp7 (hrw a1 c1) hA' hB' hp8 (by dsimp only; omega)
        dsimp only at hbe
        all_goals (refine goR ?_; and_intros <;> (try exact trivial) <;> intros)
        repeat' ((first | (apply G.cN (g := 65) (fun a' c' => .agg #[.int .i64 (f + k), .int .i64 (f + k + 1), .slice a' 1 c', .int .i64 0, .int .i64 0]) ([(s, f + k + 1 - (f + k))].map hoV); rfl; rfl; exact fun w' _ => hh w'; intro a1 c1 hp1 hq1) | (apply G.sliceL; rfl; rfl; rfl; rfl; rfl; rfl; rfl; rfl; intro Bs) | (apply G.ap; rfl; rfl; rfl; (repeat (first | exact RAt.head | apply RAt.tail)); exact SrcV.blk (by exact mm) rfl rfl; exact flat1 rnV (o' ++ [p]) ⟨f + k, f + k + 1, [(s, f + k + 1 - (f + k))], a1, c1, 0, 0⟩; omega; omega; intro v2) | (refine G.ownOpen RAt.au (by omega) ?_; intro g cap hgc hcm hv; subst hv) | (apply J.regA (.q 0 <| .q 1 <| .q 2 <| .q 3 <| .q 4 <| .q 5 <| .q 6 <| .q 7 <| .q 8 <| .q 9 <| .f 10 (.q 11 <| .q 12 <| .q 13 <| .e 14 <| .r 15 <| .q 16 <| .nil) 14 (.e 10 <| .q 11 <| .q 12 <| .q 13 <| .r 15 <| .q 16 <| .nil)); exact Tryz.mixed; decide +kernel) | (apply G.ix (i := o'.length); rfl; rfl; omega; omega; rfl) | (apply G.ix (i := o'.length + 1); rfl; rfl; omega; omega; rfl) | (apply G.ld; rfl; exact LdV.flat rnV_len mm (hL1 a1 c1) rfl; rfl) | (apply G.ld; rfl; exact LdV.flat rnV_len mm (hL2 a1 c1) rfl; rfl) | (apply G.cN (g := 66) (fun a' c' => .tuple #[.agg #[.int .i64 p.from_, .int .i64 (f + k + 1), .slice a' 1 c', .int .i64 0, .int .i64 0], .bool true]) ([(s, f + k + 1 - p.from_)].map hoV); rfl; rfl; exact fun w' hw' => hbe a1 c1 w' (famTab (N := w.heap.size) hw' hpm) (slTab (N := w.heap.size) hw'); intro a2 c2 hp2 hq2) | (apply G.fork) | (apply J.regQ; exact Tryz.mixed; decide +kernel) | (apply J.regL'; exact Tryz.mixed; decide +kernel)) <;> (refine goR ?_; and_intros <;> (try exact trivial) <;> intros))
        all_goals
          refine J.blkCut (l' := o') o'.length rnV_len RAt.au (by omega) hcm (by simp) (by simp) ?_
          all_goals (refine goR ?_; and_intros <;> (try exact trivial) <;> intros)
          repeat' ((first | (apply J.regA (.q 0 <| .q 1 <| .q 2 <| .q 3 <| .q 4 <| .e 5 <| .r 6 <| .q 7 <| .nil); exact Tryz.mixed; decide +kernel) | (apply G.slH (len := o'.length); rfl; rfl; omega; omega; omega; rfl) | (apply G.sliceL; rfl; rfl; rfl; rfl; rfl; rfl; rfl; rfl; intro Bs) | (apply G.ap; rfl; rfl; rfl; (repeat (first | exact RAt.head | apply RAt.tail)); exact SrcV.blk (by exact mm) rfl rfl; exact flat1 rnV o' ⟨p.from_, f + k + 1, [(s, f + k + 1 - p.from_)], a2, c2, 0, 0⟩; omega; omega; intro v3) | (apply J.regQ; exact Tryz.mixed; decide +kernel) | (apply J.regL'; exact Tryz.mixed; decide +kernel)) <;> (refine goR ?_; and_intros <;> (try exact trivial) <;> intros))
          refine J.famSub (o := o' ++ [p]) (o' := o') mm (fun r hr => List.mem_append_left _ hr) ?_
          refine J.famAdd (r := (⟨p.from_, f + k + 1, [(s, f + k + 1 - p.from_)], a2, c2, 0, 0⟩ : Rn)) (o := o') mm mm ?_
          exact J.fin (ih (k + 1, _, o'.length + 1, o' ++ [⟨p.from_, f + k + 1, [(s, f + k + 1 - p.from_)], a2, c2, 0, 0⟩]) ⟨hk, by simp, by dsimp only; omega, by dsimp only; rw [← h6, show f + ((k + 1 : Nat) : Int) = f + k + 1 by omega, List.map_append]; rfl, fun r hr => (List.mem_append.1 hr).elim (fun h => h7 r (List.mem_append_left _ h)) (fun h => by rw [List.mem_singleton.1 h]; exact ⟨rfl, rfl, rfl⟩), fun r hr => (List.mem_append.1 hr).elim (fun h => h8 r (List.mem_append_left _ h)) (fun h => by rw [List.mem_singleton.1 h]; exact hp8), fun r hr => (List.mem_append.1 hr).elim (fun h => h9 r (List.mem_append_left _ h)) (fun h => by rw [List.mem_singleton.1 h]; exact hq2)⟩ (by dsimp only; omega))
      · rw [if_neg (show ¬ (key p).2.2 = s from hs)] at h6
        have hbn := fun a1 c1 w' hA' hB' => bothNe_holds p ⟨f + k, f + k + 1, [(s, f + k + 1 - (f + k))], a1, c1, 0, 0⟩ (stg p) s w' hp7 (hrw a1 c1) hA' hB' hs
        all_goals (refine goR ?_; and_intros <;> (try exact trivial) <;> intros)
        repeat' ((first | (apply G.cN (g := 65) (fun a' c' => .agg #[.int .i64 (f + k), .int .i64 (f + k + 1), .slice a' 1 c', .int .i64 0, .int .i64 0]) ([(s, f + k + 1 - (f + k))].map hoV); rfl; rfl; exact fun w' _ => hh w'; intro a1 c1 hp1 hq1) | (apply G.sliceL; rfl; rfl; rfl; rfl; rfl; rfl; rfl; rfl; intro Bs) | (apply G.ap; rfl; rfl; rfl; (repeat (first | exact RAt.head | apply RAt.tail)); exact SrcV.blk (by exact mm) rfl rfl; exact flat1 rnV (o' ++ [p]) ⟨f + k, f + k + 1, [(s, f + k + 1 - (f + k))], a1, c1, 0, 0⟩; omega; omega; intro v2) | (refine G.ownOpen RAt.au (by omega) ?_; intro g cap hgc hcm hv; subst hv) | (apply J.regA (.q 0 <| .q 1 <| .q 2 <| .q 3 <| .q 4 <| .q 5 <| .q 6 <| .q 7 <| .q 8 <| .q 9 <| .q 10 <| .q 11 <| .q 12 <| .q 13 <| .e 14 <| .r 15 <| .q 16 <| .nil); exact Tryz.mixed; decide +kernel) | (apply G.ix (i := o'.length); rfl; rfl; omega; omega; rfl) | (apply G.ix (i := o'.length + 1); rfl; rfl; omega; omega; rfl) | (apply G.ld; rfl; exact LdV.flat rnV_len mm (hL1 a1 c1) rfl; rfl) | (apply G.ld; rfl; exact LdV.flat rnV_len mm (hL2 a1 c1) rfl; rfl) | (apply G.cV (g := 66); rfl; rfl; exact fun w' hw' => hbn a1 c1 w' (famTab (N := w.heap.size) hw' hpm) (slTab (N := w.heap.size) hw')) | (apply J.regQ; exact Tryz.mixed; decide +kernel) | (apply J.regL'; exact Tryz.mixed; decide +kernel)) <;> (refine goR ?_; and_intros <;> (try exact trivial) <;> intros))
        refine J.blkCut (l' := o' ++ [p] ++ [⟨f + k, f + k + 1, [(s, f + k + 1 - (f + k))], a1, c1, 0, 0⟩]) (o'.length + 2) rnV_len RAt.au (by omega) hcm (by simp) (by rw [List.take_of_length_le (by simp)]) ?_
        refine J.famAdd (r := (⟨f + k, f + k + 1, [(s, f + k + 1 - (f + k))], a1, c1, 0, 0⟩ : Rn)) (o := o' ++ [p]) mm mm ?_
        exact J.fin (ih (k + 1, _, o'.length + 2, o' ++ [p] ++ [⟨f + k, f + k + 1, [(s, f + k + 1 - (f + k))], a1, c1, 0, 0⟩]) ⟨hk, by simp, by dsimp only; omega, by dsimp only; rw [← h6, show f + ((k + 1 : Nat) : Int) = f + k + 1 by omega, List.map_append, List.map_append]; rfl, fun r hr => (List.mem_append.1 hr).elim (fun h => h7 r h) (fun h => by rw [List.mem_singleton.1 h]; exact ⟨rfl, rfl, rfl⟩), fun r hr => (List.mem_append.1 hr).elim (fun h => h8 r h) (fun h => by rw [List.mem_singleton.1 h]; dsimp only; omega), fun r hr => (List.mem_append.1 hr).elim (fun h => h9 r h) (fun h => by rw [List.mem_singleton.1 h]; exact hq1)⟩ (by dsimp only; omega))
  · obtain rfl : k = hs.length := by omega
    rw [List.drop_length, ofL] at h6
    subst h4
    apply J.ownForm (i := 1) rfl
    intro a2 c2 hu
    subst hu
    clear ih
    all_goals (refine go ?_; and_intros <;> (try exact trivial) <;> intros)
    refine ret2 Tryz.func28 Tryz.results28 ?_
    intro w' hw'
    have ho := hw'.hold (Row.own 0 (.slice a2 o.length c2) 28 5 o.length (flat rnV o)) (by exact mm)
    refine ⟨o, a2, c2, ⟨h6, h7⟩, rfl, ?_, h5, ⟨SlAt.ofOwn rnV_len ho rfl, fun r hr => famTab (N := w.heap.size) hw' hr⟩, ?_, h9, hw'.below⟩
    · obtain ⟨_, ⟨e1, e2⟩ | ⟨g, cap, cur, e1, _, _, e2, _⟩⟩ := ho
      · omega
      · cases e1; exact e2
    · rintro p rfl
      exact ((hw'.old (Row.own 0 (.slice (some p) o.length c2) 28 5 o.length (flat rnV o)) (by exact mm)).2 p.block rfl).1
end Go.Proofs.YthkdfpbjkpgckaaGreatDoor
namespace Go.Proofs.YthkdfpbjkpgckaaGreatDoor
open Go.RowKit Go.Sl Go.Num
theorem ofBad_holds (f : Int) (a : Option Addr) (hs : List Int) (c : Nat) (w : World) (hA : SlAt w a 1 (hs.map isV)) (hl : hs.length ≤ 1000000000) (hr : rightH f hs = false) :
    Calls Tryz.prog 28 #[.agg #[.int .i64 f, .slice a hs.length c]] w fun e w' => e = .returned (.tuple #[.slice none 0 0, .int .i64 1]) ∧ Below w.heap.size w w' := by
  have hri := fun w' (hb : Below w.heap.size w w') => hRight_holds f a hs c w' (hA.below hb) hl
  rw [hr] at hri
  refine enterA [(0, .agg #[.int .i64 f, .slice a hs.length c])] Tryz.func28 Tryz.ntmps28 ?_
  all_goals (refine go ?_; and_intros <;> (try exact trivial) <;> intros)
  repeat' ((first | (refine G.cvb hri ?_)) <;> (refine go ?_; and_intros <;> (try exact trivial) <;> intros))
  all_goals refine ret2b Tryz.func28 Tryz.results28 ?_
  all_goals rfl
theorem val_holds (f : Int) (a b : Option Addr) (hs : List Int) (l : List Spn) (c d : Nat) (w : World) (hA : SlAt w a 1 (hs.map isV)) (hB : SpansAt w b l) (hf : ∀ s ∈ l, fewS s) (hl : hs.length ≤ 1000) (hcap : hs.length ≤ c) :
    Calls Tryz.prog 11 #[.agg #[.int .i64 f, .slice a hs.length c], .slice b l.length d] w fun e w' => e = .returned (.tuple #[qA (volE f hs l).1, .int .i64 (volE f hs l).2]) ∧ Below w.heap.size w w' := by
  refine vValue_holds f a b hs l c d w hA hB hf hl hcap fun w' hb => ?_
  cases hr : rightH f hs with
  | false => exact (ofBad_holds f a hs c w' (hA.below hb) (by omega) hr).mono fun e w'' h => ⟨.slice none 0 0, h.1, h.2⟩
  | true => exact (ofRuns_holds f a hs c w' (hA.below hb) hl hr).mono fun e w'' ⟨L, a', c', _, h2, _, _, _, _, _, h8⟩ => ⟨.slice a' L.length c', h2, h8⟩
/-! ### runs without an error -/
theorem oneE_gap {r : Rn} (h : oneE r = 0) (h0 : r.tab.length = 0) : 0 ≤ r.lo ∧ r.lo ≤ r.hi ∧ r.hi ≤ 1000 := by
  rw [oneE, if_pos h0] at h
  split at h
  · cases h
  · omega
theorem oneE_tab {r : Rn} (h : oneE r = 0) (h0 : r.tab.length ≠ 0) : (∀ x ∈ r.tab, (0 ≤ x.1 ∧ x.1 ≤ 1000) ∧ 1 ≤ x.2 ∧ x.2 ≤ 1402560) ∧ sortedT none r.tab = true ∧ sumT r.tab = r.to_ - r.from_ ∧ r.lo = 0 ∧ r.hi = 0 := by
  rw [oneE, if_neg h0] at h
  split at h
  · cases h
  · rename_i h1
    split at h
    · rename_i h2
      refine ⟨fun x hx => ?_, h2⟩
      have h3 := fun e => h1 (List.any_eq_true.2 ⟨x, hx, e⟩)
      simpa [badH] using h3
    · cases h
theorem rnErr_one {p : Option Rn} {l : List Rn} (h : rnErr p l = 0) : ∀ r ∈ l, oneE r = 0 := by
  induction l generalizing p with
  | nil => simp
  | cons s r ih =>
    obtain ⟨B, hs⟩ : ∃ B : Bool, (if inT s = false then 3 else if B = true then 1 else if oneE s ≠ 0 then oneE s else rnErr (some s) r) = (0 : Int) := by
      cases p with
      | none => exact ⟨false, h⟩
      | some q => exact ⟨decide (s.from_ ≠ q.to_), h⟩
    by_cases c1 : inT s = false
    · rw [if_pos c1] at hs; cases hs
    rw [if_neg c1] at hs
    cases B
    · rw [if_neg (by decide)] at hs
      by_cases c2 : oneE s ≠ 0
      · rw [if_pos c2] at hs; exact absurd hs c2
      rw [if_neg c2] at hs
      intro t ht
      rcases List.mem_cons.1 ht with rfl | ht
      · exact Decidable.not_not.1 c2
      · exact ih hs t ht
    · rw [if_pos rfl] at hs; cases hs
theorem runsErr_rn {l : List Rn} (h : runsErr l = 0) : rnErr none l = 0 := by
  rw [runsErr] at h
  split at h
  · cases h
  · split at h
    · rename_i h1; exact absurd h h1
    · rename_i h1; exact Decidable.not_not.1 h1
theorem runsErr_one {l : List Rn} (h : runsErr l = 0) : ∀ r ∈ l, oneE r = 0 := rnErr_one (runsErr_rn h)
/-- The volume of a run, or the error. -/
def tableE (r : Rn) (s : Spn) : Q3 × Int :=
  if runsErr [r] ≠ 0 then (zero3, runsErr [r]) else if ¬ RightS s then (zero3, 1) else if r.from_ < s.from_ ∨ s.to_ < r.to_ then (zero3, 3)
  else if r.tab.length = 0 then (if rateOf s r.lo = rateOf s r.hi then (rQ (((r.to_ - r.from_ : Int) : Rat) * rateOf s r.lo), 0) else (zero3, 29)) else (rQ (wsum (rateOf s) r.tab), 0)
theorem rQ_inj {x y : Rat} (h : rQ x = rQ y) : x = y := by
  have := congrArg qR h
  rwa [qR_rQ, qR_rQ] at this
end Go.Proofs.YthkdfpbjkpgckaaGreatDoor
namespace Go.Proofs.YthkdfpbjkpgckaaGreatDoor
open Go.RowKit Go.Sl Go.Num
theorem vTable_holds (r : Rn) (s : Spn) (w : World) (hA : TabAt w r) (hB : PtsAt w s) (hr : r.tab.length ≤ 64) (hf : fewS s) :
    Calls Tryz.prog 22 #[rnA r, spA s] w fun e w' => e = .returned (.tuple #[qA (tableE r s).1, .int .i64 (tableE r s).2]) ∧ Below w.heap.size w w' := by
  have hck : ∀ b w', SlAt w' (some ⟨b, 0, none⟩) 5 ([r].map rnV) → Below w.heap.size w w' → Calls Tryz.prog 52 #[.slice (some ⟨b, 0, none⟩) 1 1] w' fun e w'' => e = .returned (.int .i64 (runsErr [r])) ∧ Below w'.heap.size w' w'' := fun b w' h hb =>
    vRuns_holds (some ⟨b, 0, none⟩) [r] 1 w' ⟨h, fun x hx => by rw [List.mem_singleton.1 hx]; exact hA.below hb⟩ (fun x hx => by rw [List.mem_singleton.1 hx]; exact hr)
  have hri := fun w' (hb : Below w.heap.size w w') => vRight_holds s w' (hB.below hb) hf
  rw [tableE]
  by_cases h1 : runsErr [r] = 0
  · have h1o := runsErr_one h1 r (List.mem_singleton.2 rfl)
    have h1i := (runsErr_ok h1).2.1 r (List.mem_singleton.2 rfl)
    rw [inT, decide_eq_true_eq] at h1i
    rw [if_neg (fun e => e h1)]
    rw [h1] at hck
    by_cases h2 : RightS s
    · rw [if_neg (fun e => e h2)]
      rw [decide_eq_true h2] at hri
      by_cases h3 : r.from_ < s.from_ ∨ s.to_ < r.to_
      · rw [if_pos h3]
        clear hA h1o
        obtain ⟨f, t, tab, adr, cap, lo, hi⟩ := r
        obtain ⟨sf, su, wt, dt, pts, sa, sc⟩ := s
        dsimp only [rnA, spA] at *
        refine enterA [(0, .agg #[.int .i64 f, .int .i64 t, .slice adr tab.length cap, .int .i64 lo, .int .i64 hi]), (1, .agg #[.int .i64 sf, .int .i64 su, .bool wt.neg, .string (bs wt.num), .string (bs wt.den), .int .i64 dt, .slice sa pts.length sc])] Tryz.func22 Tryz.ntmps22 ?_
        all_goals (refine go ?_; and_intros <;> (try exact trivial) <;> intros)
        repeat' ((first | (apply G.sliceL; rfl; rfl; rfl; rfl; rfl; rfl; rfl; rfl; intro Bs) | (apply G.cV (g := 52); rfl; rfl; exact fun w' hw' => hck _ w' (SlAt.ofBlk (f := rnV) (sz := 5) (l := [⟨f, t, tab, adr, cap, lo, hi⟩]) (fun _ => rfl) hw' (by exact mm)) hw'.below) | (refine G.cvb hri ?_)) <;> (refine go ?_; and_intros <;> (try exact trivial) <;> intros))
        all_goals refine ret2b Tryz.func22 Tryz.results22 ?_
        all_goals rfl
      · rw [if_neg h3]
        have hone : ∀ t, ofR [s] 0 t = rateOf s t := fun t => rfl
        have hP : ∀ x ∈ [s], PtsAt w x := fun x hx => by rw [List.mem_singleton.1 hx]; exact hB
        have hF : ∀ x ∈ [s], fewS x := fun x hx => by rw [List.mem_singleton.1 hx]; exact hf
        have hR : ∀ x ∈ [s], RightS x := fun x hx => by rw [List.mem_singleton.1 hx]; exact h2
        have hwf : ∀ t, 0 ≤ t → t ≤ 1000 → fewQ 140 (rQ (rateOf s t)) := fun t a b => fewQ_rate hf h2 a b
        generalize rateOf s = g at *
        have hft : r.tab.length = 0 → 0 ≤ r.lo ∧ r.lo ≤ r.hi ∧ r.hi ≤ 1000 := oneE_gap h1o
        have htt : r.tab.length ≠ 0 → _ := oneE_tab h1o
        clear h1o
        obtain ⟨f, t, tab, adr, cap, lo, hi⟩ := r
        obtain ⟨sf, su, wt, dt, pts, sa, sc⟩ := s
        have hA : SlAt w adr 2 (tab.map hoV) := hA
        have hl0 : (0 : Int) < ([(⟨sf, su, wt, dt, pts, sa, sc⟩ : Spn)] : List Spn).length := by simp
        have hl1 : ([(⟨sf, su, wt, dt, pts, sa, sc⟩ : Spn)] : List Spn).length ≤ 1000000 := by simp
        dsimp only [rnA, spA] at *
        refine enterA [(0, .agg #[.int .i64 f, .int .i64 t, .slice adr tab.length cap, .int .i64 lo, .int .i64 hi]), (1, .agg #[.int .i64 sf, .int .i64 su, .bool wt.neg, .string (bs wt.num), .string (bs wt.den), .int .i64 dt, .slice sa pts.length sc])] Tryz.func22 Tryz.ntmps22 ?_
        all_goals (refine go ?_; and_intros <;> (try exact trivial) <;> intros)
        repeat' ((first | (apply G.sliceL; rfl; rfl; rfl; rfl; rfl; rfl; rfl; rfl; intro Bs) | (apply G.cV (g := 52); rfl; rfl; exact fun w' hw' => hck _ w' (SlAt.ofBlk (f := rnV) (sz := 5) (l := [⟨f, t, tab, adr, cap, lo, hi⟩]) (fun _ => rfl) hw' (by exact mm)) hw'.below) | (refine G.cvb hri ?_) | (apply G.cR (g := 42) (v := fun x : Nat × Nat => .pointer (some ⟨x.1, 0, none⟩)) (Mn := fun x => [.blk x.1 97 [.slice _ 1 1, .map (some x.2), .bool false, .string (bs []), .string (bs [])] 5, .inv x.2 (Rates [(⟨sf, su, wt, dt, pts, sa, sc⟩ : Spn)])]); rfl; rfl; exact fun w' hw' => book_holds w _ w' _ [(⟨sf, su, wt, dt, pts, sa, sc⟩ : Spn)] 1 hw'; rintro ⟨bl, bm⟩)) <;> (refine go ?_; and_intros <;> (try exact trivial) <;> intros))
        refine J.blkSl (f := spV) (sz := 7) (i := 2) (l := [(⟨sf, su, wt, dt, pts, sa, sc⟩ : Spn)]) (fun _ => rfl) rfl ?_
        clear hck hri
        by_cases h4 : tab.length = 0
        · rw [if_pos h4]
          obtain ⟨e1, e2, e3⟩ := hft h4
          clear hft htt
          refine J.loop (c := _) () (fun s => 0) (fun s => [(2, .pointer (some ⟨_, 0, none⟩)), (4, .pointer (some ⟨_, 0, none⟩)), (7, .pointer (some ⟨bl, 0, none⟩)), (38, .slice adr tab.length cap), (39, .int .i64 tab.length), (40, .int .i64 0)]) (fun s => [.blk bl 97 [.slice (some ⟨Bs, 0, none⟩) 1 1, .map (some bm), .bool zero3.neg, .string (bs zero3.num), .string (bs zero3.den)] 5, .inv bm (Rates [(⟨sf, su, wt, dt, pts, sa, sc⟩ : Spn)]), slRow w.heap.size (some ⟨Bs, 0, none⟩) 7 ([(⟨sf, su, wt, dt, pts, sa, sc⟩ : Spn)].map spV), .blk _ 32 [.bool false, .string (bs []), .string (bs [])] 3, .blk _ 28 [.int .i64 f, .int .i64 t, .slice adr tab.length cap, .int .i64 lo, .int .i64 hi] 5]) (fun s => True) ?_ sbT sbL ?_
          · trivial
          intro _ _ ih
          clear ih
          have hol := fun M w' hw' => of_holds w M w' bl bm w.heap.size (some ⟨Bs, 0, none⟩) [(⟨sf, su, wt, dt, pts, sa, sc⟩ : Spn)] 1 zero3 0 lo hw' hP hF hR hl0 ⟨e1, by omega⟩ hl1 ⟨Bs, 0, .inl rfl⟩
          have hoh := fun M w' hw' => of_holds w M w' bl bm w.heap.size (some ⟨Bs, 0, none⟩) [(⟨sf, su, wt, dt, pts, sa, sc⟩ : Spn)] 1 zero3 0 hi hw' hP hF hR hl0 ⟨by omega, e3⟩ hl1 ⟨Bs, 0, .inl rfl⟩
          rw [hone] at hol hoh
          have hgg : rQ (g lo) = rQ (g hi) ↔ g lo = g hi := ⟨rQ_inj, fun e => by rw [e]⟩
          by_cases h5 : g lo = g hi
          · rw [if_pos h5]
            have h6 := hgg.2 h5
            clear hgg h5 hwf
            generalize hLo : rQ (g lo) = A at *
            generalize rQ (g hi) = B at *
            subst h6
            all_goals (refine goR ?_; and_intros <;> (try exact trivial) <;> intros)
            repeat' ((first | (apply J.regA (.q 0 <| .q 1 <| .q 2 <| .q 4 <| .q 5 <| .q 6 <| .e 3 <| .e 7 <| .q 8 <| .nil); exact Tryz.mixed; decide +kernel) | (apply G.cI (vs := [.pointer (some ⟨bl, 0, none⟩), .int .i64 0, .int .i64 lo]); rfl; rfl; exact List.Perm.refl _; exact hol _) | (apply G.cI (vs := [.pointer (some ⟨bl, 0, none⟩), .int .i64 0, .int .i64 hi]); rfl; rfl; exact List.Perm.refl _; exact hoh _) | (apply G.neR A A; rfl; rfl; rfl; all_goals intro h; all_goals try (exact absurd rfl h)) | (apply G.addL (l := [(⟨sf, su, wt, dt, pts, sa, sc⟩ : Spn)]) rfl 0 1; rfl; rfl; (repeat (first | exact Pick.head | apply Pick.tail)); (repeat (first | exact Pick.head | apply Pick.tail)); (repeat (first | exact Pick.head | apply Pick.tail)); exact ⟨⟨(rfl : zero3 = rQ 0), ⟨Nat.zero_le _, Nat.zero_le _⟩, by decide⟩, hP, hF, hR, hl0, ⟨e1, by omega⟩, hl1, ⟨_, _, .inl rfl⟩, by omega, by omega⟩; intro S2 hS2) | (apply J.regQ; exact Tryz.mixed; decide +kernel) | (apply J.regL'; exact Tryz.mixed; decide +kernel)) <;> (refine goR ?_; and_intros <;> (try exact trivial) <;> intros))
            rw [hone, Rat.zero_add] at hS2
            rw [← hS2]
            all_goals refine ret2b Tryz.func22 Tryz.results22 ?_
            all_goals rfl
          · rw [if_neg h5]
            have h6 := fun e => h5 (hgg.1 e)
            clear hgg h5 hwf
            generalize rQ (g lo) = A at *
            generalize rQ (g hi) = B at *
            all_goals (refine goR ?_; and_intros <;> (try exact trivial) <;> intros)
            repeat' ((first | (apply J.regA (.q 0 <| .q 1 <| .q 2 <| .q 4 <| .q 5 <| .q 6 <| .e 3 <| .e 7 <| .q 8 <| .nil); exact Tryz.mixed; decide +kernel) | (apply G.cI (vs := [.pointer (some ⟨bl, 0, none⟩), .int .i64 0, .int .i64 lo]); rfl; rfl; exact List.Perm.refl _; exact hol _) | (apply G.cI (vs := [.pointer (some ⟨bl, 0, none⟩), .int .i64 0, .int .i64 hi]); rfl; rfl; exact List.Perm.refl _; exact hoh _) | (apply G.neR A B; rfl; rfl; rfl; all_goals intro h; all_goals try (exact absurd h h6)) | (apply J.regQ; exact Tryz.mixed; decide +kernel) | (apply J.regL'; exact Tryz.mixed; decide +kernel)) <;> (refine goR ?_; and_intros <;> (try exact trivial) <;> intros))
            all_goals refine ret2b Tryz.func22 Tryz.results22 ?_
            all_goals rfl
        · rw [if_neg h4]
          obtain ⟨e1, _, _, _, _⟩ := htt h4
          clear hft htt
          generalize hT : wsum g tab = T
          refine J.loop (c := _) ((0, 0, zero3) : Nat × Rat × Q3) (fun s => tab.length - s.1) (fun s => [(2, .pointer (some ⟨_, 0, none⟩)), (4, .pointer (some ⟨_, 0, none⟩)), (7, .pointer (some ⟨bl, 0, none⟩)), (38, .slice adr tab.length cap), (39, .int .i64 tab.length), (40, .int .i64 s.1)]) (fun s => [.blk bl 97 [.slice (some ⟨Bs, 0, none⟩) 1 1, .map (some bm), .bool s.2.2.neg, .string (bs s.2.2.num), .string (bs s.2.2.den)] 5, .inv bm (Rates [(⟨sf, su, wt, dt, pts, sa, sc⟩ : Spn)]), slRow w.heap.size (some ⟨Bs, 0, none⟩) 7 ([(⟨sf, su, wt, dt, pts, sa, sc⟩ : Spn)].map spV), .blk _ 32 [.bool false, .string (bs []), .string (bs [])] 3, .blk _ 28 [.int .i64 f, .int .i64 t, .slice adr tab.length cap, .int .i64 lo, .int .i64 hi] 5]) (fun s => s.1 ≤ tab.length ∧ s.2.2 = rQ s.2.1 ∧ fewQ (1 + 160 * s.1) s.2.2 ∧ s.2.1 + wsum g (tab.drop s.1) = T) ?_ sbT sbL ?_
          · exact ⟨Nat.zero_le _, rfl, ⟨Nat.zero_le _, Nat.zero_le _⟩, by rw [Rat.zero_add]; exact hT⟩
          clear hT
          intro ⟨k, x, S⟩ ⟨h6, h9, h7, h8⟩ ih
          dsimp only at h6 h7 h8 h9 ⊢
          by_cases hk : k < tab.length
          · obtain ⟨ba, oa, rfl, hra⟩ := SlAt.all hA (by omega)
            have hrk := hra k hk
            have he := e1 _ (List.getElem_mem hk)
            rw [List.drop_eq_getElem_cons hk, wsum, ← Rat.add_assoc] at h8
            generalize tab[k] = z at *
            obtain ⟨z, n⟩ := z
            dsimp only [hoV] at *
            have hzf := hwf z he.1.1 he.1.2
            have hst := fewQ_step (n := n) (h9 ▸ h7) (by omega) (by omega) hzf
            all_goals (refine go ?_; and_intros <;> (try exact trivial) <;> intros)
            repeat' ((first | (apply G.addL (l := [(⟨sf, su, wt, dt, pts, sa, sc⟩ : Spn)]) rfl x (1 + 160 * k); rfl; rfl; (repeat (first | exact Pick.head | apply Pick.tail)); (repeat (first | exact Pick.head | apply Pick.tail)); (repeat (first | exact Pick.head | apply Pick.tail)); exact ⟨⟨h9, h7, by omega⟩, hP, hF, hR, hl0, he.1, hl1, ⟨_, _, .inl rfl⟩, by omega, by omega⟩; intro S2 hS2)) <;> (refine go ?_; and_intros <;> (try exact trivial) <;> intros))
            rw [hone] at hS2
            exact J.fin (ih (k + 1, x + n * g z, S2) ⟨hk, hS2, by dsimp only; rw [hS2]; exact fewQ_le hst (by omega), h8⟩ (by dsimp only; omega))
          · obtain rfl : k = tab.length := by omega
            rw [List.drop_length, wsum, Rat.add_zero] at h8
            subst h8
            clear ih
            rw [← h9]
            all_goals (refine go ?_; and_intros <;> (try exact trivial) <;> intros)
            all_goals refine ret2b Tryz.func22 Tryz.results22 ?_
            all_goals rfl
    · rw [if_pos h2]
      rw [decide_eq_false h2] at hri
      clear hA h1o
      obtain ⟨f, t, tab, adr, cap, lo, hi⟩ := r
      obtain ⟨sf, su, wt, dt, pts, sa, sc⟩ := s
      dsimp only [rnA, spA] at *
      refine enterA [(0, .agg #[.int .i64 f, .int .i64 t, .slice adr tab.length cap, .int .i64 lo, .int .i64 hi]), (1, .agg #[.int .i64 sf, .int .i64 su, .bool wt.neg, .string (bs wt.num), .string (bs wt.den), .int .i64 dt, .slice sa pts.length sc])] Tryz.func22 Tryz.ntmps22 ?_
      all_goals (refine go ?_; and_intros <;> (try exact trivial) <;> intros)
      repeat' ((first | (apply G.sliceL; rfl; rfl; rfl; rfl; rfl; rfl; rfl; rfl; intro Bs) | (apply G.cV (g := 52); rfl; rfl; exact fun w' hw' => hck _ w' (SlAt.ofBlk (f := rnV) (sz := 5) (l := [⟨f, t, tab, adr, cap, lo, hi⟩]) (fun _ => rfl) hw' (by exact mm)) hw'.below) | (refine G.cvb hri ?_)) <;> (refine go ?_; and_intros <;> (try exact trivial) <;> intros))
      all_goals refine ret2b Tryz.func22 Tryz.results22 ?_
      all_goals rfl
  · rw [if_pos h1]
    generalize runsErr [r] = E at *
    clear hA
    obtain ⟨f, t, tab, adr, cap, lo, hi⟩ := r
    obtain ⟨sf, su, wt, dt, pts, sa, sc⟩ := s
    dsimp only [rnA, spA] at *
    refine enterA [(0, .agg #[.int .i64 f, .int .i64 t, .slice adr tab.length cap, .int .i64 lo, .int .i64 hi]), (1, .agg #[.int .i64 sf, .int .i64 su, .bool wt.neg, .string (bs wt.num), .string (bs wt.den), .int .i64 dt, .slice sa pts.length sc])] Tryz.func22 Tryz.ntmps22 ?_
    all_goals (refine go ?_; and_intros <;> (try exact trivial) <;> intros)
    repeat' ((first | (apply G.sliceL; rfl; rfl; rfl; rfl; rfl; rfl; rfl; rfl; intro Bs) | (apply G.cV (g := 52); rfl; rfl; exact fun w' hw' => hck _ w' (SlAt.ofBlk (f := rnV) (sz := 5) (l := [⟨f, t, tab, adr, cap, lo, hi⟩]) (fun _ => rfl) hw' (by exact mm)) hw'.below) | (refine G.cvb hri ?_)) <;> (refine go ?_; and_intros <;> (try exact trivial) <;> intros))
    all_goals refine ret2b Tryz.func22 Tryz.results22 ?_
    all_goals rfl
end Go.Proofs.YthkdfpbjkpgckaaGreatDoor
namespace Go.Sl
open Go.RowKit
variable {C : Ctx} {st : List (Nat × Value)} {M : List Row} {k : List Item} {q q' : Md} {all rest : List Oper} {d : Nat} {opn : Op} {ty : TypeId} {pos : String} {after : Array Edge} {gd : Option (Nat × Bool)}
/-- A list that ends with another one. -/
inductive Splt (T : List Row) : List Row → List Row → Prop
  | nil : Splt T T []
  | cons {r : Row} {M K : List Row} (h : Splt T M K) : Splt T (r :: M) (r :: K)
theorem Splt.eq {T M K : List Row} (h : Splt T M K) : M = K ++ T := by
  induction h with
  | nil => rfl
  | cons _ ih => rw [ih]; rfl
/-- A call of yield, which may end the loop. -/
theorem G.callG {X : Type} {Rs : X → List Row} {x : X} {K M1 : List Row} {f : Operand} {args : List Operand} {vs : List Value} {fv : Value} {at_ : Array TypeId} (Ok Out : X → Prop)
    (hc : ∀ M' w, Sat C.w0 (Rs x ++ M') w → CallsV C.P fv vs w fun v w' => ∃ x', Sat C.w0 (Rs x' ++ M') w' ∧ (v = .bool true ∧ Ok x' ∨ v = .bool false ∧ Out x'))
    (hf : evS st f = some fv) (ha : evL st args = some vs) (hw : wnB all st gd = true) (hd : Nat.blt d C.N = true) (hM : Splt (Rs x ++ M1) M K)
    (h1 : ∀ x', Ok x' → G .seq C all ((d, .bool true) :: st) (K ++ (Rs x' ++ M1)) rest k) (h2 : ∀ x', Out x' → G .seq C all ((d, .bool false) :: st) (K ++ (Rs x' ++ M1)) rest k) :
    G .seq C all st M ({ dst := some d, op := .call { callee := .value f, args := args.toArray, argTypes := at_ }, type := ty, pos, after, guard := gd } :: rest) k := by
  have hp : ∀ y, (K ++ (Rs y ++ M1)).Perm (Rs y ++ (K ++ M1)) := fun y => perm_cat [K, Rs y, M1] [0, 1, 2] [1, 0, 2] rfl
  refine G.callY (X := { p : X × Bool // p.2 = true ∧ Ok p.1 ∨ p.2 = false ∧ Out p.1 }) (fun p => .bool p.1.2) (fun p => K ++ (Rs p.1.1 ++ M1)) hw hd hf ha (fun w hs => ?_) fun p => ?_
  · rw [hM.eq] at hs
    refine (hc (K ++ M1) w (hs.perm (hp x))).mono fun v w' ⟨x', h3, h4⟩ => ?_
    rcases h4 with ⟨rfl, h4⟩ | ⟨rfl, h4⟩
    · exact ⟨⟨(x', true), .inl ⟨rfl, h4⟩⟩, rfl, h3.perm (hp x').symm⟩
    · exact ⟨⟨(x', false), .inr ⟨rfl, h4⟩⟩, rfl, h3.perm (hp x').symm⟩
  · obtain ⟨⟨y, b⟩, h4⟩ := p
    rcases h4 with ⟨e, h4⟩ | ⟨e, h4⟩
    · dsimp only at e; subst e; exact h1 y h4
    · dsimp only at e; subst e; exact h2 y h4
end Go.Sl
namespace Go.Proofs.YthkdfpbjkpgckaaGreatDoor
open Go.RowKit Go.Sl Go.Num
/-- How many ticks of a run a span has. -/
def ovl (r : Rn) (s : Spn) : Int := min s.to_ r.to_ - max s.from_ r.from_
/-- The places of the spans that have ticks of a run, with how many; -1 for no span. -/
def clsS (r : Rn) : Int → Int → List Spn → List (Int × Int)
  | _, rest, [] => if 0 < rest then [(-1, rest)] else []
  | k, rest, s :: t => if ovl r s ≤ 0 then clsS r (k + 1) rest t else (k, ovl r s) :: clsS r (k + 1) (rest - ovl r s) t
def clsL (l : List Spn) (r : Rn) : List (Int × Int) := clsS r 0 (r.to_ - r.from_) l
def clV (e : Int × Int) : List Value := [.int .i64 e.1, .int .i64 e.2]
theorem classes_iter (w0 : World) (Br Bl N : Nat) (a : Option Addr) (l : List Spn) (c : Nat) (r : Rn) (hl : l.length ≤ 1000000) (hr : 0 ≤ r.from_ ∧ r.from_ < r.to_ ∧ r.to_ ≤ 1402560) (hs : ∀ s ∈ l, 0 ≤ s.from_ ∧ s.from_ < s.to_ ∧ s.to_ ≤ 1402560) (ha : ∃ b off, a = some ⟨b, off, none⟩ ∨ l = []) :
    IterG Tryz.prog w0 [.blk Br 28 [.int .i64 r.from_, .int .i64 r.to_, .slice r.adr r.tab.length r.cap, .int .i64 r.lo, .int .i64 r.hi] 5, .blk Bl 25 [.slice a l.length c] 1, slRow N a 7 (l.map spV)] 125 #[.pointer (some ⟨Br, 0, none⟩), .pointer (some ⟨Bl, 0, none⟩)] clV (clsL l r) := by
  intro X Rs Inv Out fY cY hY x0 hI0 M1 w hw
  refine enterR [(0, .func fY #[] cY), (1, .pointer (some ⟨Br, 0, none⟩)), (2, .pointer (some ⟨Bl, 0, none⟩))] hw Tryz.func125 Tryz.ntmps125 ?_
  generalize hT : clsL l r = T at *
  all_goals (refine go ?_; and_intros <;> (try exact trivial) <;> intros)
  refine J.loop (c := _) ((0, r.to_ - r.from_, 0, x0) : Nat × Int × Nat × X) (fun s => l.length - s.1) (fun s => [(0, .func fY #[] cY), (1, .pointer (some ⟨Br, 0, none⟩)), (2, .pointer (some ⟨Bl, 0, none⟩)), (4, .int .i64 s.2.1), (13, .slice a l.length c), (14, .int .i64 l.length), (15, .int .i64 s.1)]) (fun s => .blk Br 28 [.int .i64 r.from_, .int .i64 r.to_, .slice r.adr r.tab.length r.cap, .int .i64 r.lo, .int .i64 r.hi] 5 :: .blk Bl 25 [.slice a l.length c] 1 :: slRow N a 7 (l.map spV) :: (Rs s.2.2.2 ++ M1)) (fun s => s.1 ≤ l.length ∧ T.drop s.2.2.1 = clsS r s.1 s.2.1 (l.drop s.1) ∧ Inv s.2.2.1 s.2.2.2 ∧ (0 ≤ s.2.1 + 1402560 * s.1 ∧ s.2.1 ≤ 1402560) ∧ s.2.2.1 ≤ T.length) ?_ sbT sbL ?_
  · exact ⟨Nat.zero_le _, hT.symm, hI0, by dsimp only; omega, Nat.zero_le _⟩
  clear hT hI0 hw
  intro ⟨k, q, i, x⟩ ⟨h3, h4, h5, h6, h10⟩ ih
  dsimp only at h3 h4 h5 h6 h10 ⊢
  by_cases hk : k < l.length
  · obtain ⟨b, off, ha⟩ := ha
    have ha := ha.resolve_right (fun e => by subst e; exact absurd hk (Nat.not_lt_zero _))
    subst ha
    have hsk := hs _ (List.getElem_mem hk)
    rw [List.drop_eq_getElem_cons hk, clsS] at h4
    by_cases h7 : ovl r l[k] ≤ 0
    · rw [if_pos h7] at h4
      have h7' : min l[k].to_ r.to_ - max l[k].from_ r.from_ ≤ 0 := h7
      all_goals (refine go ?_; and_intros <;> (try exact trivial) <;> intros)
      repeat' ((first | (apply G.ld; rfl; exact LdV.aggSl mm hk (by rfl); rfl)) <;> (refine go ?_; and_intros <;> (try exact trivial) <;> intros))
      exact J.fin (ih (k + 1, q, i, x) ⟨hk, h4, h5, by dsimp only; omega, h10⟩ (by dsimp only; omega))
    · rw [if_neg h7] at h4
      have h8 : 0 < ovl r l[k] ∧ ovl r l[k] ≤ 1402560 := by unfold ovl at *; omega
      have he : T[i]? = some ((k : Int), ovl r l[k]) := by
        have := congrArg (·[0]?) h4
        simpa using this
      have h4' : T.drop (i + 1) = clsS r (k + 1 : Nat) (q - ovl r l[k]) (l.drop (k + 1)) := by rw [← List.tail_drop, h4]; rfl
      have h7' : 0 < min l[k].to_ r.to_ - max l[k].from_ r.from_ := h8.1
      have h8' : min l[k].to_ r.to_ - max l[k].from_ r.from_ ≤ 1402560 := h8.2
      all_goals (refine go ?_; and_intros <;> (try exact trivial) <;> intros)
      repeat' ((first | (apply G.ld; rfl; exact LdV.aggSl mm hk (by rfl); rfl) | (refine G.callG (Rs := Rs) (x := x) (M1 := M1) (Inv (i + 1)) Out (hY i x _ h5 he) rfl rfl rfl rfl (by (repeat (first | exact Splt.nil | apply Splt.cons))) ?_ ?_; all_goals intro x' hx')) <;> (refine go ?_; and_intros <;> (try exact trivial) <;> intros))
      · exact J.fin (ih (k + 1, q - ovl r l[k], i + 1, x') ⟨hk, h4', hx', by dsimp only; omega, (List.getElem?_eq_some_iff.1 he).1⟩ (by dsimp only; omega))
      · refine ret0 Tryz.func125 Tryz.results125 ?_
        exact fun w' hw' => ⟨rfl, x', hw'.forget sbL, .inr hx'⟩
  · obtain rfl : k = l.length := by omega
    rw [List.drop_length, clsS] at h4
    clear ih
    by_cases h7 : 0 < q
    · rw [if_pos h7] at h4
      have he : T[i]? = some (-1, q) := by
        have := congrArg (·[0]?) h4
        simpa using this
      have hlen : T.length = i + 1 := by
        have := congrArg List.length h4
        have := (List.getElem?_eq_some_iff.1 he).1
        simp at *; omega
      all_goals (refine go ?_; and_intros <;> (try exact trivial) <;> intros)
      repeat' ((first | (refine G.callG (Rs := Rs) (x := x) (M1 := M1) (Inv (i + 1)) Out (hY i x _ h5 he) rfl rfl rfl rfl (by (repeat (first | exact Splt.nil | apply Splt.cons))) ?_ ?_; all_goals intro x' hx')) <;> (refine go ?_; and_intros <;> (try exact trivial) <;> intros))
      · refine end0 Tryz.func125 Tryz.results125 ?_
        exact fun w' hw' => ⟨rfl, x', hw', .inl (hlen ▸ hx')⟩
      · refine end0 Tryz.func125 Tryz.results125 ?_
        exact fun w' hw' => ⟨rfl, x', hw', .inr hx'⟩
    · rw [if_neg h7] at h4
      have hlen : T.length ≤ i := List.drop_eq_nil_iff.1 h4
      obtain rfl : i = T.length := by omega
      all_goals (refine go ?_; and_intros <;> (try exact trivial) <;> intros)
      refine end0 Tryz.func125 Tryz.results125 ?_
      exact fun w' hw' => ⟨rfl, x, hw', .inl h5⟩
/-- The iterator of a run's classes. -/
theorem classes_holds (w0 : World) (M : List Row) (w : World) (a : Option Addr) (l : List Spn) (c : Nat) (r : Rn) (hw : Sat w0 M w) :
    Calls Tryz.prog 96 #[.slice a l.length c, rnA r] w fun e w' => ∃ x : Nat × Nat, e = .returned (.func (.func 125) #[] #[.pointer (some ⟨x.1, 0, none⟩), .pointer (some ⟨x.2, 0, none⟩)]) ∧ Sat w0 (.blk x.1 28 [.int .i64 r.from_, .int .i64 r.to_, .slice r.adr r.tab.length r.cap, .int .i64 r.lo, .int .i64 r.hi] 5 :: .blk x.2 25 [.slice a l.length c] 1 :: M) w' := by
  refine enterR [(0, .slice a l.length c), (1, rnA r)] hw Tryz.func96 Tryz.ntmps96 ?_
  all_goals (refine go ?_; and_intros <;> (try exact trivial) <;> intros)
  refine ret1 Tryz.func96 Tryz.results96 ?_
  exact fun w' hw' => ⟨(_, _), rfl, hw'⟩
end Go.Proofs.YthkdfpbjkpgckaaGreatDoor
namespace Go.Proofs.YthkdfpbjkpgckaaGreatDoor
open Go.RowKit Go.Sl Go.Num
/-- Whether a run's volume is decided by what is known of it. -/
def okE (l : List Spn) (r : Rn) (e : Int × Int) : Prop := match r.tab with
  | [] => ofR l e.1 r.lo = ofR l e.1 r.hi
  | h :: _ => ∀ x ∈ r.tab, ofR l e.1 x.1 - ofR l ((clsL l r).headD (0, 0)).1 x.1 = ofR l e.1 h.1 - ofR l ((clsL l r).headD (0, 0)).1 h.1
def takeB (l : List Spn) (r : Rn) : Prop := ∀ e ∈ clsL l r, okE l r e
def takeV (l : List Spn) (r : Rn) : Rat := match r.tab with
  | [] => wsum (fun k => ofR l k r.lo) (clsL l r)
  | h :: _ => wsum (ofR l ((clsL l r).headD (0, 0)).1) r.tab + wsum (fun k => ofR l k h.1 - ofR l ((clsL l r).headD (0, 0)).1 h.1) (clsL l r)
theorem clsS_ok {r : Rn} {l0 : List Spn} : ∀ (l : List Spn) (k q : Int), 0 ≤ k → k + l.length ≤ l0.length → q ≤ 1402560 → (∀ s ∈ l, 0 ≤ s.from_ ∧ s.to_ ≤ 1402560) → ∀ e ∈ clsS r k q l, e.1 < l0.length ∧ -1 ≤ e.1 ∧ 0 < e.2 ∧ e.2 ≤ 1402560
  | [], k, q, h0, h, hq, _, e, he => by
    rw [clsS] at he
    split at he
    · rw [List.mem_singleton.1 he]; refine ⟨?_, Int.le_refl _, by assumption, hq⟩; dsimp only; omega
    · cases he
  | s :: t, k, q, h0, h, hq, hs, e, he => by
    rw [clsS] at he
    have h1 := hs s (List.mem_cons_self ..)
    simp only [List.length_cons] at h
    split at he
    · exact clsS_ok t (k + 1) q (by omega) (by omega) hq (fun x hx => hs x (List.mem_cons_of_mem _ hx)) e he
    · rename_i h2
      unfold ovl at *
      rcases List.mem_cons.1 he with rfl | he
      · refine ⟨?_, ?_, ?_, ?_⟩ <;> dsimp only <;> omega
      · exact clsS_ok t (k + 1) _ (by omega) (by omega) (by omega) (fun x hx => hs x (List.mem_cons_of_mem _ hx)) e he
theorem clsS_len {r : Rn} : ∀ (l : List Spn) (k q : Int), (clsS r k q l).length ≤ l.length + 1
  | [], k, q => by rw [clsS]; split <;> simp
  | s :: t, k, q => by
    rw [clsS]
    split
    · have := clsS_len (r := r) t (k + 1) q; simp; omega
    · have := clsS_len (r := r) t (k + 1) (q - ovl r s); simp; omega
/-- A call of of, wherever the rows stand. -/
theorem G.ofL {C : Ctx} {st : List (Nat × Value)} {M M1 M2 M3 : List Row} {k : List Item} {q q' : Md} {all rest : List Oper} {d : Nat} {ty : TypeId} {pos : String} {after : Array Edge} {gd : Option (Nat × Bool)} {args : List Operand} {at_ : Array TypeId} (hP : C.P = Tryz.prog)
    {bl bm N : Nat} {a : Option Addr} {l : List Spn} {c : Nat} {sp t : Int} {S : Q3}
    (hs : sideB all st gd d C.N q.ext = some q') (ha : evL st args = some [.pointer (some ⟨bl, 0, none⟩), .int .i64 sp, .int .i64 t])
    (p1 : Pick (.blk bl 97 [.slice a l.length c, .map (some bm), .bool S.neg, .string (bs S.num), .string (bs S.den)] 5) M M1) (p2 : Pick (.inv bm (Rates l)) M1 M2) (p3 : Pick (slRow N a 7 (l.map spV)) M2 M3)
    (hq : (∀ s ∈ l, PtsAt C.w0 s) ∧ (∀ s ∈ l, fewS s) ∧ (∀ s ∈ l, RightS s) ∧ sp < l.length ∧ (0 ≤ t ∧ t ≤ 1000) ∧ l.length ≤ 1000000 ∧ (∃ b off, a = some ⟨b, off, none⟩ ∨ l = []))
    (h : G q' C all ((d, qA (rQ (ofR l sp t))) :: st) M rest k) :
    G q C all st M ({ dst := some d, op := .call { callee := .value (.func 53), args := args.toArray, argTypes := at_ }, type := ty, pos, after, guard := gd } :: rest) k := by
  obtain ⟨P, b, PHI, N0, w0, D⟩ := C
  dsimp only at hP; subst hP
  obtain ⟨h4, h5, h6, h7, h8, h9, h10⟩ := hq
  exact G.cI ha hs (p1.perm.trans (List.Perm.cons _ (p2.perm.trans (List.Perm.cons _ p3.perm)))) (fun w' hw' => of_holds w0 M3 w' bl bm N a l c S sp t hw' h4 h5 h6 h7 h8 h9 h10) h
theorem takeGap_holds (w0 : World) (M : List Row) (w : World) (bl bm N : Nat) (a : Option Addr) (l : List Spn) (c : Nat) (x : Rat) (m : Nat) (S : Q3) (hS : S = rQ x) (r : Rn) (hw : Sat w0 (.blk bl 97 [.slice a l.length c, .map (some bm), .bool S.neg, .string (bs S.num), .string (bs S.den)] 5 :: .inv bm (Rates l) :: slRow N a 7 (l.map spV) :: M) w)
    (hP : ∀ s ∈ l, PtsAt w0 s) (hf : ∀ s ∈ l, fewS s) (hR : ∀ s ∈ l, RightS s) (hl : l.length ≤ 400) (ha : ∃ b off, a = some ⟨b, off, none⟩ ∨ l = [])
    (hx : fewQ m S) (hm : m ≤ 100000000) (hm1 : 1 ≤ m) (hr : 0 ≤ r.from_ ∧ r.from_ < r.to_ ∧ r.to_ ≤ 1402560) (h0 : r.tab = []) (hlo : 0 ≤ r.lo ∧ r.lo ≤ 1000) (hhi : 0 ≤ r.hi ∧ r.hi ≤ 1000) :
    Calls Tryz.prog 56 #[.pointer (some ⟨bl, 0, none⟩), rnA r] w (fun e w' => ∃ (b : Bool) (S' : Q3) (y : Rat), e = .returned (.bool b) ∧ S' = rQ y ∧ fewQ (m + 160 * (l.length + 50)) S' ∧ (b = true → takeB l r ∧ y = x + takeV l r) ∧ (b = false → ¬ takeB l r) ∧ Sat w0 (.blk bl 97 [.slice a l.length c, .map (some bm), .bool S'.neg, .string (bs S'.num), .string (bs S'.den)] 5 :: .inv bm (Rates l) :: slRow N a 7 (l.map spV) :: M) w') := by
  have hcl : ∀ Br Bl, IterG Tryz.prog w0 [.blk Br 28 [.int .i64 r.from_, .int .i64 r.to_, .slice r.adr r.tab.length r.cap, .int .i64 r.lo, .int .i64 r.hi] 5, .blk Bl 25 [.slice a l.length c] 1, slRow N a 7 (l.map spV)] 125 #[.pointer (some ⟨Br, 0, none⟩), .pointer (some ⟨Bl, 0, none⟩)] (fun e : Int × Int => [.int .i64 e.1, .int .i64 e.2]) (clsL l r) := fun Br Bl => classes_iter w0 Br Bl N a l c r (by omega) hr (fun s hs => by have := (hR s hs).1; omega) ha
  have hok0 := clsS_ok (r := r) (l0 := l) l 0 (r.to_ - r.from_) (Int.le_refl _) (by omega) (by omega) (fun s hs => by have := (hR s hs).1; omega)
  have hlen0 := clsS_len (r := r) l 0 (r.to_ - r.from_)
  have hlen : (clsL l r).length ≤ l.length + 1 := hlen0
  clear hlen0
  have hok : ∀ e ∈ clsL l r, e.1 < l.length ∧ -1 ≤ e.1 ∧ 0 < e.2 ∧ e.2 ≤ 1402560 := hok0
  clear hok0
  have htB : takeB l r ↔ ∀ e ∈ clsL l r, ofR l e.1 r.lo = ofR l e.1 r.hi := by unfold takeB okE; rw [h0]
  have htV : takeV l r = wsum (fun k => ofR l k r.lo) (clsL l r) := by unfold takeV; rw [h0]
  rw [htV]
  simp only [htB]
  clear htB htV
  generalize hE : clsL l r = E at *
  obtain ⟨f, t, tab, adr, cap, lo, hi⟩ := r
  dsimp only at h0 hlo hhi hr ⊢
  subst h0
  refine enterR [(0, .pointer (some ⟨bl, 0, none⟩)), (1, .agg #[.int .i64 f, .int .i64 t, .slice adr 0 cap, .int .i64 lo, .int .i64 hi])] hw Tryz.func56 Tryz.ntmps56 ?_
  all_goals (refine goR ?_; and_intros <;> (try exact trivial) <;> intros)
  repeat' ((first | (apply J.regA (.q 0 <| .q 1 <| .q 2 <| .q 3 <| .q 4 <| .r 5 <| .nil); exact Tryz.mixed; decide +kernel) | (apply G.cR (g := 96) (v := fun x : Nat × Nat => .func (.func 125) #[] #[.pointer (some ⟨x.1, 0, none⟩), .pointer (some ⟨x.2, 0, none⟩)]) (Mn := fun x => [.blk x.1 28 [.int .i64 f, .int .i64 t, .slice adr 0 cap, .int .i64 lo, .int .i64 hi] 5, .blk x.2 25 [.slice a l.length c] 1]); rfl; rfl; exact fun w' hw' => classes_holds w0 _ w' a l c ⟨f, t, [], adr, cap, lo, hi⟩ hw'; rintro ⟨Br, Bl⟩) | (apply J.regQ; exact Tryz.mixed; decide +kernel) | (apply J.regL'; exact Tryz.mixed; decide +kernel)) <;> (refine goR ?_; and_intros <;> (try exact trivial) <;> intros))
  refine J.slDup (sz := 7) (N := N) (a := a) (L := l.map spV) mm ?_
  refine J.rangeG (e1 := fun e : Int × Int => .int .i64 e.1) (e2 := fun e => .int .i64 e.2) (es := E) (fun s : Rat × Q3 × Bool => [.blk bl 97 [.slice a l.length c, .map (some bm), .bool s.2.1.neg, .string (bs s.2.1.num), .string (bs s.2.1.den)] 5, .inv bm (Rates l), slRow N a 7 (l.map spV), .blk _ 4 [.bool s.2.2] 1, .blk _ 28 [.int .i64 f, .int .i64 t, .slice adr 0 cap, .int .i64 lo, .int .i64 hi] 5, .blk _ 91 [.pointer (some ⟨bl, 0, none⟩)] 1]) (fun i s => s.2.1 = rQ s.1 ∧ fewQ (m + 160 * i) s.2.1 ∧ s.1 + wsum (fun k => ofR l k lo) (E.drop i) = x + wsum (fun k => ofR l k lo) E ∧ ∀ j (hj : j < E.length), j < i → ofR l E[j].1 lo = ofR l E[j].1 hi) (fun cc s => cc = .ret ∧ s.2.2 = false ∧ s.2.1 = rQ s.1 ∧ fewQ (m + 160 * E.length) s.2.1 ∧ ¬ ∀ e ∈ E, ofR l e.1 lo = ofR l e.1 hi) (x, S, false) M (hcl Br Bl) rfl rfl rfl rfl (by (repeat (first | exact List.Perm.refl _ | (refine pickT (by (repeat (first | exact Pick.head | apply Pick.tail))) ?_)))) ?_ ?_ ?_ ?_
  · exact ⟨hS, hx, rfl, fun j hj h => absurd h (Nat.not_lt_zero _)⟩
  · intro i ⟨y, S1, b⟩ e ⟨i1, i2, i3, i4⟩ he L rr M' hrs hrp
    dsimp only at i1 i2 i3 i4 ⊢
    obtain ⟨hei, rfl⟩ := List.getElem?_eq_some_iff.1 he
    have hk := hok _ (List.getElem_mem hei)
    rw [List.drop_eq_getElem_cons hei, wsum, ← Rat.add_assoc] at i3
    have hno : ofR l E[i].1 lo ≠ ofR l E[i].1 hi → ¬ ∀ e ∈ E, ofR l e.1 lo = ofR l e.1 hi := fun h1 h2 => h1 (h2 _ (List.getElem_mem hei))
    have hyes : ofR l E[i].1 lo = ofR l E[i].1 hi → ∀ j (hj : j < E.length), j < i + 1 → ofR l E[j].1 lo = ofR l E[j].1 hi := fun h1 j hj h2 => by
      rcases Nat.lt_or_ge j i with h3 | h3
      · exact i4 j hj h3
      · obtain rfl : j = i := by omega
        exact h1
    clear he i4
    generalize E[i] = e at *
    obtain ⟨k, n⟩ := e
    dsimp only at hk i3 hno hyes ⊢
    obtain ⟨hk1, hk2, hk3, hk4⟩ := hk
    have hfo := fewQ_of (k := k) hf hR hlo
    have hst := fewQ_step (n := n) (i1 ▸ i2) (by omega) (by omega) hfo
    by_cases heq : ofR l k lo = ofR l k hi
    · have heq2 : rQ (ofR l k lo) = rQ (ofR l k hi) := by rw [heq]
      all_goals (refine goR ?_; and_intros <;> (try exact trivial) <;> intros)
      repeat' ((first | (refine J.beginR rfl (i := 0) rfl hrs ?_) | (apply J.regA (.q 0 <| .q 1 <| .q 2 <| .q 3 <| .q 5 <| .q 6 <| .q 7 <| .q 8 <| .e 4 <| .e 9 <| .q 10 <| .nil); exact Tryz.mixed; decide +kernel) | (apply G.ofL (l := l) rfl; rfl; rfl; (repeat (first | exact Pick.head | apply Pick.tail)); (repeat (first | exact Pick.head | apply Pick.tail)); (repeat (first | exact Pick.head | apply Pick.tail)); exact ⟨hP, hf, hR, by assumption, by omega, by omega, ha⟩) | (apply G.neR (rQ (ofR l k lo)) (rQ (ofR l k hi)); rfl; rfl; rfl; all_goals intro h; all_goals try (exact absurd heq2 h)) | (apply G.addL (l := l) rfl y (m + 160 * i); rfl; rfl; (repeat (first | exact Pick.head | apply Pick.tail)); (repeat (first | exact Pick.head | apply Pick.tail)); (repeat (first | exact Pick.head | apply Pick.tail)); exact ⟨⟨i1, i2, by omega⟩, hP, hf, hR, hk1, hlo, by omega, ha, by omega, by omega⟩; intro S2 hS2) | (apply J.regQ; exact Tryz.mixed; decide +kernel) | (apply J.regL'; exact Tryz.mixed; decide +kernel)) <;> (refine goR ?_; and_intros <;> (try exact trivial) <;> intros))
      exact J.sel (leaveG hrs hrp (y + n * ofR l k lo, S2, b) ⟨hS2, by dsimp only; rw [hS2]; exact fewQ_le hst (by omega), i3, hyes heq⟩ rfl)
    · have heq2 : rQ (ofR l k lo) ≠ rQ (ofR l k hi) := fun h => heq (rQ_inj h)
      all_goals (refine goR ?_; and_intros <;> (try exact trivial) <;> intros)
      repeat' ((first | (refine J.beginR rfl (i := 0) rfl hrs ?_) | (apply J.regA (.q 0 <| .q 1 <| .q 2 <| .q 3 <| .q 5 <| .q 6 <| .q 7 <| .q 8 <| .e 4 <| .e 9 <| .q 10 <| .nil); exact Tryz.mixed; decide +kernel) | (apply G.ofL (l := l) rfl; rfl; rfl; (repeat (first | exact Pick.head | apply Pick.tail)); (repeat (first | exact Pick.head | apply Pick.tail)); (repeat (first | exact Pick.head | apply Pick.tail)); exact ⟨hP, hf, hR, by assumption, by omega, by omega, ha⟩) | (apply G.neR (rQ (ofR l k lo)) (rQ (ofR l k hi)); rfl; rfl; rfl; all_goals intro h; all_goals try (exact absurd h heq2)) | (apply J.regQ; exact Tryz.mixed; decide +kernel) | (apply J.regL'; exact Tryz.mixed; decide +kernel)) <;> (refine goR ?_; and_intros <;> (try exact trivial) <;> intros))
      exact J.sel (leaveGret (y, S1, false) ⟨rfl, rfl, i1, fewQ_le i2 (by omega), hno heq⟩ rfl)
  · intro Bd ⟨y, S1, b⟩ ⟨i1, i2, i3, i4⟩
    dsimp only at i1 i2 i3 i4 ⊢
    rw [List.drop_length, wsum, Rat.add_zero] at i3
    all_goals (refine go ?_; and_intros <;> (try exact trivial) <;> intros)
    refine leaveM (v := .bool true) (ds := [Bd]) Tryz.func56 rfl rfl rfl rfl (RunsTo.one Tryz.results56 (by (first | (apply ResV.tmp; rfl) | (apply ResV.cell; rfl; (first | (apply LdV.one; (first | exact CellV.row0 (by assumption) rfl | exact CellV.rowS (by assumption) rfl | exact CellV.rowSS (by assumption) rfl | (apply CellV.blk; exact mm; rfl))) | (apply LdV.aggBlk; exact mm; rfl) | (apply LdV.part; exact mm; rfl; rfl) | (apply LdV.aggRow; assumption; rfl) | (apply LdV.partRow; assumption; rfl; rfl)))))) (List.Perm.refl _) fun w' hw' => ?_
    exact ⟨true, S1, y, rfl, i1, fewQ_le i2 (by omega), fun _ => ⟨fun e he => (by obtain ⟨j, hj, rfl⟩ := List.getElem_of_mem he; exact i4 j hj hj), i3⟩, fun h => (by cases h), hw'.sel⟩
  · intro Bd ⟨y, S1, b⟩ cc ⟨e1, e2, i1, i2, i3⟩
    dsimp only at e1 e2 i1 i2 i3 ⊢
    subst e1 e2
    refine leaveM (v := .bool false) (ds := [Bd]) Tryz.func56 rfl rfl rfl rfl (RunsTo.one Tryz.results56 (by (first | (apply ResV.tmp; rfl) | (apply ResV.cell; rfl; (first | (apply LdV.one; (first | exact CellV.row0 (by assumption) rfl | exact CellV.rowS (by assumption) rfl | exact CellV.rowSS (by assumption) rfl | (apply CellV.blk; exact mm; rfl))) | (apply LdV.aggBlk; exact mm; rfl) | (apply LdV.part; exact mm; rfl; rfl) | (apply LdV.aggRow; assumption; rfl) | (apply LdV.partRow; assumption; rfl; rfl)))))) (List.Perm.refl _) fun w' hw' => ?_
    exact ⟨false, S1, y, rfl, i1, fewQ_le i2 (by omega), fun h => (by cases h), fun _ => i3, hw'.sel⟩
end Go.Proofs.YthkdfpbjkpgckaaGreatDoor
namespace Go.Sl
theorem J.cutI {C : Ctx} {st : List (Nat × Value)} {M : List Row} {k : List Item} {i : Item} {X : Type} (stF : X → List (Nat × Value)) (MF : X → List Row) (h : (∀ x, J C (stF x) (MF x) k) → J C st M (i :: k)) (hk : ∀ x, J C (stF x) (MF x) k) : J C st M (i :: k) := h hk
end Go.Sl
namespace Go.Proofs.YthkdfpbjkpgckaaGreatDoor
open Go.RowKit Go.Sl Go.Num
theorem clsS_pos {r : Rn} : ∀ (l : List Spn) (k q : Int), 0 < q → (0 < (clsS r k q l).length)
  | [], k, q, h => by rw [clsS, if_pos h]; simp
  | s :: t, k, q, h => by
    rw [clsS]
    split
    · exact clsS_pos t (k + 1) q h
    · simp
theorem takeB_tab (l : List Spn) (r : Rn) {h : Int × Int} {tt : List (Int × Int)} (hq : r.tab = h :: tt) : takeB l r ↔ ∀ e ∈ clsL l r, ∀ y ∈ r.tab, ofR l e.1 y.1 - ofR l ((clsL l r).headD (0, 0)).1 y.1 = ofR l e.1 h.1 - ofR l ((clsL l r).headD (0, 0)).1 h.1 := by
  unfold takeB okE; rw [hq]
theorem takeV_tab (l : List Spn) (r : Rn) {h : Int × Int} {tt : List (Int × Int)} (hq : r.tab = h :: tt) : takeV l r = wsum (ofR l ((clsL l r).headD (0, 0)).1) r.tab + wsum (fun k => ofR l k h.1 - ofR l ((clsL l r).headD (0, 0)).1 h.1) (clsL l r) := by
  unfold takeV; rw [hq]
set_option maxHeartbeats 4000000 in
theorem takeTab_holds (w0 : World) (M : List Row) (w : World) (bl bm N : Nat) (a : Option Addr) (l : List Spn) (c : Nat) (x : Rat) (m : Nat) (S : Q3) (hS : S = rQ x) (r : Rn) (hw : Sat w0 (.blk bl 97 [.slice a l.length c, .map (some bm), .bool S.neg, .string (bs S.num), .string (bs S.den)] 5 :: .inv bm (Rates l) :: slRow N a 7 (l.map spV) :: M) w)
    (hP : ∀ s ∈ l, PtsAt w0 s) (hf : ∀ s ∈ l, fewS s) (hR : ∀ s ∈ l, RightS s) (hl : l.length ≤ 400) (ha : ∃ b off, a = some ⟨b, off, none⟩ ∨ l = [])
    (hx : fewQ m S) (hm : m ≤ 100000000) (hm1 : 1 ≤ m) (hr : 0 ≤ r.from_ ∧ r.from_ < r.to_ ∧ r.to_ ≤ 1402560) (h0 : 0 < r.tab.length) (hlen : r.tab.length ≤ 64) (hA : TabAt w0 r) (hlo : r.lo = 0 ∧ r.hi = 0) (htt : ∀ x ∈ r.tab, (0 ≤ x.1 ∧ x.1 ≤ 1000) ∧ 1 ≤ x.2 ∧ x.2 ≤ 1402560) :
    Calls Tryz.prog 56 #[.pointer (some ⟨bl, 0, none⟩), rnA r] w (fun e w' => ∃ (b : Bool) (S' : Q3) (y : Rat), e = .returned (.bool b) ∧ S' = rQ y ∧ fewQ (m + 300 * (l.length + 80)) S' ∧ (b = true → takeB l r ∧ y = x + takeV l r) ∧ (b = false → ¬ takeB l r) ∧ Sat w0 (.blk bl 97 [.slice a l.length c, .map (some bm), .bool S'.neg, .string (bs S'.num), .string (bs S'.den)] 5 :: .inv bm (Rates l) :: slRow N a 7 (l.map spV) :: M) w') := by
  have hcl : ∀ Br Bl, IterG Tryz.prog w0 [.blk Br 28 [.int .i64 r.from_, .int .i64 r.to_, .slice r.adr r.tab.length r.cap, .int .i64 r.lo, .int .i64 r.hi] 5, .blk Bl 25 [.slice a l.length c] 1, slRow N a 7 (l.map spV)] 125 #[.pointer (some ⟨Br, 0, none⟩), .pointer (some ⟨Bl, 0, none⟩)] (fun e : Int × Int => [.int .i64 e.1, .int .i64 e.2]) (clsL l r) := fun Br Bl => classes_iter w0 Br Bl N a l c r (by omega) hr (fun s hs => by have := (hR s hs).1; omega) ha
  have hok0 := clsS_ok (r := r) (l0 := l) l 0 (r.to_ - r.from_) (Int.le_refl _) (by omega) (by omega) (fun s hs => by have := (hR s hs).1; omega)
  have hlen0 := clsS_len (r := r) l 0 (r.to_ - r.from_)
  have hlenE : (clsL l r).length ≤ l.length + 1 := hlen0
  have hok : ∀ e ∈ clsL l r, e.1 < l.length ∧ -1 ≤ e.1 ∧ 0 < e.2 ∧ e.2 ≤ 1402560 := hok0
  clear hok0 hlen0
  obtain ⟨h, tt, hq⟩ : ∃ h tt, r.tab = h :: tt := by
    cases hq : r.tab with
    | nil => rw [hq] at h0; exact absurd h0 (Nat.lt_irrefl _)
    | cons h tt => exact ⟨h, tt, rfl⟩
  obtain ⟨st0, hst⟩ : ∃ z, z = h.1 := ⟨_, rfl⟩
  have hst0 : st0 = (r.tab[0]'h0).1 := by rw [hst]; simp [hq]
  obtain ⟨k0, hk0⟩ : ∃ z, z = ((clsL l r).headD (0, 0)).1 := ⟨_, rfl⟩
  have htB := takeB_tab l r hq
  have htV := takeV_tab l r hq
  rw [← hst, ← hk0] at htB htV
  clear hq
  rw [htV]
  simp only [htB]
  clear htB htV
  have hs0 : 0 ≤ st0 ∧ st0 ≤ 1000 := by rw [hst0]; exact (htt _ (List.getElem_mem h0)).1
  generalize hE : clsL l r = E at *
  obtain ⟨f, t, tab, adr, cap, lo, hi⟩ := r
  have hA : SlAt w0 adr 2 (tab.map hoV) := hA
  dsimp only at h0 hlo hlen hr htt hst0 hcl ⊢
  obtain ⟨rfl, rfl⟩ := hlo
  obtain ⟨ba, oa, rfl, hra⟩ := SlAt.all hA h0
  have hr0 := hra 0 h0
  dsimp only [hoV] at hr0
  rw [← hst0] at hr0
  refine enterR [(0, .pointer (some ⟨bl, 0, none⟩)), (1, .agg #[.int .i64 f, .int .i64 t, .slice (some ⟨ba, oa, none⟩) tab.length cap, .int .i64 0, .int .i64 0])] hw Tryz.func56 Tryz.ntmps56 ?_
  all_goals (refine goR ?_; and_intros <;> (try exact trivial) <;> intros)
  repeat' ((first | (apply J.regA (.q 0 <| .q 1 <| .q 2 <| .q 3 <| .q 4 <| .r 5 <| .nil); exact Tryz.mixed; decide +kernel) | (apply G.cR (g := 96) (v := fun x : Nat × Nat => .func (.func 125) #[] #[.pointer (some ⟨x.1, 0, none⟩), .pointer (some ⟨x.2, 0, none⟩)]) (Mn := fun x => [.blk x.1 28 [.int .i64 f, .int .i64 t, .slice (some ⟨ba, oa, none⟩) tab.length cap, .int .i64 0, .int .i64 0] 5, .blk x.2 25 [.slice a l.length c] 1]); rfl; rfl; exact fun w' hw' => classes_holds w0 _ w' a l c ⟨f, t, tab, some ⟨ba, oa, none⟩, cap, 0, 0⟩ hw'; rintro ⟨Br, Bl⟩) | (apply J.regQ; exact Tryz.mixed; decide +kernel) | (apply J.regL'; exact Tryz.mixed; decide +kernel)) <;> (refine goR ?_; and_intros <;> (try exact trivial) <;> intros))
  rename_i B2 B3 B4 B7 B8 B9 hz9
  refine J.slDup (sz := 7) (N := N) (a := a) (L := l.map spV) mm ?_
  refine J.rangeG (e1 := fun e : Int × Int => .int .i64 e.1) (e2 := fun e => .int .i64 e.2) (es := E) (fun s : Rat × Q3 × Bool × Int × Bool => [.blk bl 97 [.slice a l.length c, .map (some bm), .bool s.2.1.neg, .string (bs s.2.1.num), .string (bs s.2.1.den)] 5, .inv bm (Rates l), slRow N a 7 (l.map spV), .blk _ 4 [.bool s.2.2.2.2] 1, .blk _ 4 [.bool s.2.2.1] 1, .blk _ 3 [.int .i64 s.2.2.2.1] 1, .blk _ 3 [.int .i64 st0] 1, .blk _ 28 [.int .i64 f, .int .i64 t, .slice (some ⟨ba, oa, none⟩) tab.length cap, .int .i64 0, .int .i64 0] 5, .blk _ 91 [.pointer (some ⟨bl, 0, none⟩)] 1]) (fun i s => s.2.1 = rQ s.1 ∧ (i = 0 → fewQ m s.2.1 ∧ s.2.2.2.2 = false ∧ s.1 = x) ∧ (0 < i → fewQ (m + 300 * (i + 66)) s.2.1 ∧ s.2.2.2.2 = true ∧ s.2.2.2.1 = k0 ∧ s.1 + wsum (fun k => ofR l k st0 - ofR l k0 st0) (E.drop i) = x + (wsum (ofR l k0) tab + wsum (fun k => ofR l k st0 - ofR l k0 st0) E)) ∧ ∀ j (hj : j < E.length), j < i → ∀ y ∈ tab, ofR l E[j].1 y.1 - ofR l k0 y.1 = ofR l E[j].1 st0 - ofR l k0 st0) (fun cc s => cc = .ret ∧ s.2.2.1 = false ∧ s.2.1 = rQ s.1 ∧ fewQ (m + 300 * (E.length + 68)) s.2.1 ∧ ¬ ∀ e ∈ E, ∀ y ∈ tab, ofR l e.1 y.1 - ofR l k0 y.1 = ofR l e.1 st0 - ofR l k0 st0) (x, S, false, 0, false) M (hcl Br Bl) rfl rfl rfl rfl (by (repeat (first | exact List.Perm.refl _ | (refine pickT (by (repeat (first | exact Pick.head | apply Pick.tail))) ?_)))) ?_ ?_ ?_ ?_
  · exact ⟨hS, fun _ => ⟨hx, rfl, rfl⟩, fun h => absurd h (Nat.lt_irrefl _), fun j hj h => absurd h (Nat.not_lt_zero _)⟩
  · intro i ⟨y, S1, b, fst, bgn⟩ e ⟨i1, i2, i3, i4⟩ he L rr M' hrs hrp
    dsimp only at i1 i2 i3 i4 ⊢
    obtain ⟨hei, rfl⟩ := List.getElem?_eq_some_iff.1 he
    have hk := hok _ (List.getElem_mem hei)
    have hfirst : i = 0 → E[i].1 = k0 := fun h => by
      subst h
      rw [hk0]
      cases E with
      | nil => exact absurd hei (Nat.lt_irrefl _)
      | cons e0 t0 => rfl
    have hk0l : k0 < l.length ∧ -1 ≤ k0 := by
      have := hok _ (List.getElem_mem (show 0 < E.length by omega))
      rw [hk0]
      cases E with
      | nil => exact absurd hei (Nat.not_lt_zero _)
      | cons e0 t0 => exact ⟨this.1, this.2.1⟩
    rw [List.drop_eq_getElem_cons hei, wsum, ← Rat.add_assoc] at i3
    have hno : ∀ z ∈ tab, ofR l E[i].1 z.1 - ofR l k0 z.1 ≠ ofR l E[i].1 st0 - ofR l k0 st0 → ¬ ∀ e ∈ E, ∀ y ∈ tab, ofR l e.1 y.1 - ofR l k0 y.1 = ofR l e.1 st0 - ofR l k0 st0 := fun z hz h1 h2 => h1 (h2 _ (List.getElem_mem hei) z hz)
    have hyes : (∀ z ∈ tab, ofR l E[i].1 z.1 - ofR l k0 z.1 = ofR l E[i].1 st0 - ofR l k0 st0) → ∀ j (hj : j < E.length), j < i + 1 → ∀ y ∈ tab, ofR l E[j].1 y.1 - ofR l k0 y.1 = ofR l E[j].1 st0 - ofR l k0 st0 := fun h1 j hj h2 => by
      rcases Nat.lt_or_ge j i with h3 | h3
      · exact i4 j hj h3
      · obtain rfl : j = i := by omega
        exact h1
    clear he i4 hk0
    have hzero : i = 0 → wsum (fun k => ofR l k st0 - ofR l k0 st0) E = E[i].2 * (ofR l E[i].1 st0 - ofR l k0 st0) + wsum (fun k => ofR l k st0 - ofR l k0 st0) (E.drop (i + 1)) := fun h => by
      subst h
      cases E with
      | nil => exact absurd hei (Nat.lt_irrefl _)
      | cons e0 t0 => rfl
    generalize E[i] = e at *
    obtain ⟨k, n⟩ := e
    dsimp only at hk i3 hno hyes hzero hfirst ⊢
    obtain ⟨hk1, hk2, hk3, hk4⟩ := hk
    have hk01 := hk0l.1
    by_cases hi0 : i = 0
    · obtain rfl := hfirst hi0
      obtain ⟨i5, rfl, rfl⟩ := i2 hi0
      have hz := hzero hi0
      clear hfirst i2 i3 hzero
      all_goals (refine goR ?_; and_intros <;> (try exact trivial) <;> intros)
      repeat' ((first | (refine J.beginR rfl (i := 0) rfl hrs ?_) | (apply J.regQ; exact Tryz.mixed; decide +kernel) | (apply J.regL'; exact Tryz.mixed; decide +kernel)) <;> (refine goR ?_; and_intros <;> (try exact trivial) <;> intros))
      refine J.front3 (r1 := .blk bl 97 [.slice a l.length c, .map (some bm), .bool S1.neg, .string (bs S1.num), .string (bs S1.den)] 5) (r2 := .inv bm (Rates l)) (r3 := slRow N a 7 (l.map spV)) (by (repeat (first | exact Pick.head | apply Pick.tail))) (by (repeat (first | exact Pick.head | apply Pick.tail))) (by (repeat (first | exact Pick.head | apply Pick.tail))) ?_
      refine J.loop (c := _) ((0, y, S1) : Nat × Rat × Q3) (fun s => tab.length - s.1) (fun s => [(2, .pointer (some ⟨_, 0, none⟩)), (3, .pointer (some ⟨_, 0, none⟩)), (4, .pointer (some ⟨_, 0, none⟩)), (7, .pointer (some ⟨_, 0, none⟩)), (8, .pointer (some ⟨_, 0, none⟩)), (9, .pointer (some ⟨_, 0, none⟩)), (10, .int .i64 k), (11, .int .i64 n), (63, .slice (some ⟨ba, oa, none⟩) tab.length cap), (64, .int .i64 tab.length), (65, .int .i64 s.1)]) (fun s => [.blk bl 97 [.slice a l.length c, .map (some bm), .bool s.2.2.neg, .string (bs s.2.2.num), .string (bs s.2.2.den)] 5, .inv bm (Rates l), slRow N a 7 (l.map spV), .obj L (.loop (busy rr)), .blk _ 4 [.bool true] 1, .blk _ 4 [.bool b] 1, .blk _ 3 [.int .i64 k] 1, .blk _ 3 [.int .i64 st0] 1, .blk _ 28 [.int .i64 f, .int .i64 t, .slice (some ⟨ba, oa, none⟩) tab.length cap, .int .i64 0, .int .i64 0] 5, .blk _ 91 [.pointer (some ⟨bl, 0, none⟩)] 1] ++ M') (fun s => s.1 ≤ tab.length ∧ s.2.2 = rQ s.2.1 ∧ fewQ (m + 300 * s.1) s.2.2 ∧ s.2.1 + wsum (ofR l k) (tab.drop s.1) = y + wsum (ofR l k) tab) ?_ sbT sbL ?_
      · exact ⟨Nat.zero_le _, i1, i5, rfl⟩
      clear i1 i5
      intro ⟨j, y1, S2⟩ ⟨j1, j2, j3, j4⟩ ih
      dsimp only at j1 j2 j3 j4 ⊢
      by_cases hj : j < tab.length
      · have hrj := hra j hj
        have htj := htt _ (List.getElem_mem hj)
        rw [List.drop_eq_getElem_cons hj, wsum, ← Rat.add_assoc] at j4
        clear hra hst0 hr0
        generalize tab[j] = z at *
        obtain ⟨z, nz⟩ := z
        dsimp only [hoV] at hrj htj j4
        have hfo := fewQ_of (k := k) hf hR htj.1
        have hsp := fewQ_step (n := nz) (j2 ▸ j3) (by omega) (by omega) hfo
        all_goals (refine goR ?_; and_intros <;> (try exact trivial) <;> intros)
        repeat' ((first | (apply G.addL (l := l) rfl y1 (m + 300 * j); rfl; rfl; (repeat (first | exact Pick.head | apply Pick.tail)); (repeat (first | exact Pick.head | apply Pick.tail)); (repeat (first | exact Pick.head | apply Pick.tail)); exact ⟨⟨j2, j3, by omega⟩, hP, hf, hR, hk1, htj.1, by omega, ha, by omega, by omega⟩; intro S3 hS3) | (apply J.regQ; exact Tryz.mixed; decide +kernel) | (apply J.regL'; exact Tryz.mixed; decide +kernel)) <;> (refine goR ?_; and_intros <;> (try exact trivial) <;> intros))
        exact J.finS (ih (j + 1, y1 + nz * ofR l k z, S3) ⟨hj, hS3, by dsimp only; rw [hS3]; exact fewQ_le hsp (by omega), j4⟩ (by dsimp only; omega))
      · rw [show tab.drop j = [] from List.drop_eq_nil_of_le (by omega), wsum, Rat.add_zero] at j4
        have c2 : fewQ (m + 300 * (i + 66)) S2 := fewQ_le j3 (by omega)
        clear ih
        have c3 : y1 + n * (ofR l k st0 - ofR l k st0) + wsum (fun k' => ofR l k' st0 - ofR l k st0) (E.drop (i + 1)) = y + (wsum (ofR l k) tab + wsum (fun k' => ofR l k' st0 - ofR l k st0) E) := by rw [hz, j4]; grind
        clear hz j4 j3
        have hsub := fun w' => ratSub_holds (rQ (ofR l k st0)) (rQ (ofR l k st0)) w' (fewQ_le (fewQ_of (k := k) hf hR hs0) (by decide)).1 (fewQ_le (fewQ_of (k := k) hf hR hs0) (by decide)).2 (fewQ_le (fewQ_of (k := k) hf hR hs0) (by decide)).1 (fewQ_le (fewQ_of (k := k) hf hR hs0) (by decide)).2
        simp only [qR_rQ] at hsub
        have hfm := fewQ_sub (fewQ_of (k := k) hf hR hs0) (fewQ_of (k := k) hf hR hs0) (by decide) (by decide)
        generalize hmor : ofR l k st0 - ofR l k st0 = mor at *
        have hin := fun w' => int_holds n w' (by omega) (by omega)
        have hfn := fewQ_int (n := n) (by omega) (by omega)
        have hmul := fun w' => ratMul_holds (rQ (n : Rat)) (rQ mor) w' (fewQ_le hfn (by decide)).1 (fewQ_le hfn (by decide)).2 (fewQ_le hfm (by decide)).1 (fewQ_le hfm (by decide)).2
        have hfp := fewQ_mul hfn hfm (by decide) (by decide)
        have had := fun w' => ratAdd_holds S2 (rQ (n * mor)) w' (fewQ_le c2 (by omega)).1 (fewQ_le c2 (by omega)).2 (fewQ_le hfp (by decide)).1 (fewQ_le hfp (by decide)).2
        simp only [qR_rQ, j2] at hmul had
        rw [← j2] at had
        have hfs := fewQ_add (j2 ▸ c2) hfp (by omega) (by decide)
        clear hfm hfn hfp
        generalize hQ : rQ mor = Q at *
        all_goals (refine goR ?_; and_intros <;> (try exact trivial) <;> intros)
        refine J.cutI (X := Nat) (fun x9 => [(2, .pointer (some ⟨B2, 0, none⟩)), (3, .pointer (some ⟨B3, 0, none⟩)), (4, .pointer (some ⟨B4, 0, none⟩)), (7, .pointer (some ⟨B7, 0, none⟩)), (8, .pointer (some ⟨B8, 0, none⟩)), (9, .pointer (some ⟨B9, 0, none⟩)), (10, .int .i64 k), (11, .int .i64 n), (14, .pointer (some ⟨x9, 0, none⟩))]) (fun x9 => .blk x9 32 (qV Q) 3 :: [.blk bl 97 [.slice a l.length c, .map (some bm), .bool S2.neg, .string (bs S2.num), .string (bs S2.den)] 5, .inv bm (Rates l), slRow N a 7 (l.map spV), .obj L (.loop (busy rr)), .blk B8 4 [.bool true] 1, .blk B4 4 [.bool b] 1, .blk B7 3 [.int .i64 k] 1, .blk B9 3 [.int .i64 st0] 1, .blk B3 28 [.int .i64 f, .int .i64 t, .slice (some ⟨ba, oa, none⟩) tab.length cap, .int .i64 0, .int .i64 0] 5, .blk B2 91 [.pointer (some ⟨bl, 0, none⟩)] 1] ++ M') ?_ ?_
        · intro hk9
          all_goals (refine goG ?_; and_intros <;> (try exact trivial) <;> intros)
          repeat' ((first | (apply J.regA (.q 0 <| .q 1 <| .q 2 <| .q 4 <| .q 5 <| .q 6 <| .f 3 (.f 7 (.q 8 <| .e 9 <| .r 10 <| .nil) 9 (.e 7 <| .q 8 <| .r 10 <| .nil)) 9 (.e 3 <| .e 7 <| .q 8 <| .r 10 <| .nil)); exact Tryz.mixed; decide +kernel) | (apply G.ofL (l := l) rfl; rfl; rfl; (repeat (first | exact Pick.head | apply Pick.tail)); (repeat (first | exact Pick.head | apply Pick.tail)); (repeat (first | exact Pick.head | apply Pick.tail)); exact ⟨hP, hf, hR, by assumption, by omega, by omega, ha⟩) | (apply G.cV (g := 97); rfl; rfl; exact fun w' _ => hsub w') | (apply G.fork)) <;> (refine goG ?_; and_intros <;> (try exact trivial) <;> intros))
          all_goals exact J.finS (hk9 _)
        intro B14
        all_goals (refine go ?_; and_intros <;> (try exact trivial) <;> intros)
        refine J.loop (c := _) (0 : Nat) (fun s => tab.length - s) (fun s => [(2, .pointer (some ⟨_, 0, none⟩)), (3, .pointer (some ⟨_, 0, none⟩)), (4, .pointer (some ⟨_, 0, none⟩)), (7, .pointer (some ⟨_, 0, none⟩)), (8, .pointer (some ⟨_, 0, none⟩)), (9, .pointer (some ⟨_, 0, none⟩)), (10, .int .i64 k), (11, .int .i64 n), (14, .pointer (some ⟨_, 0, none⟩)), (87, .slice (some ⟨ba, oa, none⟩) tab.length cap), (88, .int .i64 tab.length), (89, .int .i64 s)]) (fun s => .blk _ 32 (qV Q) 3 :: [.blk bl 97 [.slice a l.length c, .map (some bm), .bool S2.neg, .string (bs S2.num), .string (bs S2.den)] 5, .inv bm (Rates l), slRow N a 7 (l.map spV), .obj L (.loop (busy rr)), .blk _ 4 [.bool true] 1, .blk _ 4 [.bool b] 1, .blk _ 3 [.int .i64 k] 1, .blk _ 3 [.int .i64 st0] 1, .blk _ 28 [.int .i64 f, .int .i64 t, .slice (some ⟨ba, oa, none⟩) tab.length cap, .int .i64 0, .int .i64 0] 5, .blk _ 91 [.pointer (some ⟨bl, 0, none⟩)] 1] ++ M') (fun s => s ≤ tab.length ∧ ∀ q (hq : q < tab.length), q < s → ofR l k tab[q].1 - ofR l k tab[q].1 = mor) ?_ sbT sbL ?_
        · exact ⟨Nat.zero_le _, fun q hq h => absurd h (Nat.not_lt_zero _)⟩
        intro j ⟨j1, j2⟩ ih
        by_cases hj : j < tab.length
        · have hrj := hra j hj
          have htj := htt _ (List.getElem_mem hj)
          have hnj := hno _ (List.getElem_mem hj)
          have hyj : ofR l k tab[j].1 - ofR l k tab[j].1 = mor → ∀ q (hq : q < tab.length), q < j + 1 → ofR l k tab[q].1 - ofR l k tab[q].1 = mor := fun h1 q hq h2 => by
            rcases Nat.lt_or_ge q j with h3 | h3
            · exact j2 q hq h3
            · obtain rfl : q = j := by omega
              exact h1
          clear hra hst0 hr0 j2 hno hyes hsub
          generalize tab[j] = z at *
          obtain ⟨z, nz⟩ := z
          dsimp only [hoV] at hrj htj hnj hyj
          have hz1 := htj.1
          have hsub2 := fun w' => ratSub_holds (rQ (ofR l k z)) (rQ (ofR l k z)) w' (fewQ_le (fewQ_of (k := k) hf hR hz1) (by decide)).1 (fewQ_le (fewQ_of (k := k) hf hR hz1) (by decide)).2 (fewQ_le (fewQ_of (k := k) hf hR hz1) (by decide)).1 (fewQ_le (fewQ_of (k := k) hf hR hz1) (by decide)).2
          simp only [qR_rQ] at hsub2
          generalize hd : ofR l k z - ofR l k z = dd at *
          by_cases hc : dd = mor
          · have hc2 : rQ dd = Q := by rw [hc]; exact hQ
            all_goals (refine goR ?_; and_intros <;> (try exact trivial) <;> intros)
            repeat' ((first | (apply J.regA (.q 0 <| .q 1 <| .q 2 <| .q 3 <| .q 5 <| .q 6 <| .q 7 <| .q 8 <| .q 11 <| .e 4 <| .e 9 <| .q 10 <| .q 12 <| .nil); exact Tryz.mixed; decide +kernel) | (apply G.ofL (l := l) rfl; rfl; rfl; (repeat (first | exact Pick.head | apply Pick.tail)); (repeat (first | exact Pick.head | apply Pick.tail)); (repeat (first | exact Pick.head | apply Pick.tail)); exact ⟨hP, hf, hR, by assumption, by omega, by omega, ha⟩) | (apply G.cV (g := 97); rfl; rfl; exact fun w' _ => hsub2 w') | (apply G.neR (rQ dd) Q; rfl; rfl; rfl; all_goals intro h; all_goals try (exact absurd hc2 h)) | (apply J.regQ; exact Tryz.mixed; decide +kernel) | (apply J.regL'; exact Tryz.mixed; decide +kernel)) <;> (refine goR ?_; and_intros <;> (try exact trivial) <;> intros))
            exact J.finS (ih (j + 1) ⟨hj, hyj hc⟩ (by omega))
          · have hc2 : rQ dd ≠ Q := fun h => hc (rQ_inj (h.trans hQ.symm))
            all_goals (refine goR ?_; and_intros <;> (try exact trivial) <;> intros)
            repeat' ((first | (apply J.regA (.q 0 <| .q 1 <| .q 2 <| .q 3 <| .q 5 <| .q 6 <| .q 7 <| .q 8 <| .q 11 <| .e 4 <| .e 9 <| .q 10 <| .q 12 <| .nil); exact Tryz.mixed; decide +kernel) | (apply G.ofL (l := l) rfl; rfl; rfl; (repeat (first | exact Pick.head | apply Pick.tail)); (repeat (first | exact Pick.head | apply Pick.tail)); (repeat (first | exact Pick.head | apply Pick.tail)); exact ⟨hP, hf, hR, by assumption, by omega, by omega, ha⟩) | (apply G.cV (g := 97); rfl; rfl; exact fun w' _ => hsub2 w') | (apply G.neR (rQ dd) Q; rfl; rfl; rfl; all_goals intro h; all_goals try (exact absurd h hc2)) | (apply J.regQ; exact Tryz.mixed; decide +kernel) | (apply J.regL'; exact Tryz.mixed; decide +kernel)) <;> (refine goR ?_; and_intros <;> (try exact trivial) <;> intros))
            exact J.sel (leaveGret (y1, S2, false, k, true) ⟨rfl, rfl, j2, fewQ_le c2 (by omega), hnj hc⟩ rfl)
        · have hall : ∀ y ∈ tab, ofR l k y.1 - ofR l k y.1 = mor := fun y hy => by
            obtain ⟨q, hq, rfl⟩ := List.getElem_of_mem hy
            exact j2 q hq (by omega)
          clear ih
          all_goals (refine goR ?_; and_intros <;> (try exact trivial) <;> intros)
          repeat' ((first | (apply G.cV (g := 40); rfl; rfl; exact fun w' _ => hin w') | (apply G.cV (g := 30); rfl; rfl; exact fun w' _ => hmul w') | (apply G.cV (g := 29); rfl; rfl; exact fun w' _ => had w') | (apply J.regQ; exact Tryz.mixed; decide +kernel) | (apply J.regL'; exact Tryz.mixed; decide +kernel)) <;> (refine goR ?_; and_intros <;> (try exact trivial) <;> intros))
          exact J.sel (leaveG hrs hrp (y1 + n * mor, rQ (y1 + n * mor), b, k, true) ⟨rfl, fun h => absurd h (Nat.succ_ne_zero _), fun _ => ⟨fewQ_le hfs (by omega), rfl, rfl, c3⟩, hyes hall⟩ rfl)
    · obtain ⟨i5, rfl, rfl, i6⟩ := i3 (by omega)
      all_goals (refine goR ?_; and_intros <;> (try exact trivial) <;> intros)
      repeat' ((first | (refine J.beginR rfl (i := 0) rfl hrs ?_) | (apply J.regQ; exact Tryz.mixed; decide +kernel) | (apply J.regL'; exact Tryz.mixed; decide +kernel)) <;> (refine goR ?_; and_intros <;> (try exact trivial) <;> intros))
      refine J.front3 (r1 := .blk bl 97 [.slice a l.length c, .map (some bm), .bool S1.neg, .string (bs S1.num), .string (bs S1.den)] 5) (r2 := .inv bm (Rates l)) (r3 := slRow N a 7 (l.map spV)) (by (repeat (first | exact Pick.head | apply Pick.tail))) (by (repeat (first | exact Pick.head | apply Pick.tail))) (by (repeat (first | exact Pick.head | apply Pick.tail))) ?_
      clear hfirst i2 i3 hzero
      have hsub := fun w' => ratSub_holds (rQ (ofR l k st0)) (rQ (ofR l fst st0)) w' (fewQ_le (fewQ_of (k := k) hf hR hs0) (by decide)).1 (fewQ_le (fewQ_of (k := k) hf hR hs0) (by decide)).2 (fewQ_le (fewQ_of (k := fst) hf hR hs0) (by decide)).1 (fewQ_le (fewQ_of (k := fst) hf hR hs0) (by decide)).2
      simp only [qR_rQ] at hsub
      have hfm := fewQ_sub (fewQ_of (k := k) hf hR hs0) (fewQ_of (k := fst) hf hR hs0) (by decide) (by decide)
      generalize hmor : ofR l k st0 - ofR l fst st0 = mor at *
      have hin := fun w' => int_holds n w' (by omega) (by omega)
      have hfn := fewQ_int (n := n) (by omega) (by omega)
      have hmul := fun w' => ratMul_holds (rQ (n : Rat)) (rQ mor) w' (fewQ_le hfn (by decide)).1 (fewQ_le hfn (by decide)).2 (fewQ_le hfm (by decide)).1 (fewQ_le hfm (by decide)).2
      have hfp := fewQ_mul hfn hfm (by decide) (by decide)
      have had := fun w' => ratAdd_holds S1 (rQ (n * mor)) w' (fewQ_le i5 (by omega)).1 (fewQ_le i5 (by omega)).2 (fewQ_le hfp (by decide)).1 (fewQ_le hfp (by decide)).2
      simp only [qR_rQ, i1] at hmul had
      rw [← i1] at had
      have hfs := fewQ_add (i1 ▸ i5) hfp (by omega) (by decide)
      clear hfm hfn hfp
      generalize hQ : rQ mor = Q at *
      all_goals (refine goR ?_; and_intros <;> (try exact trivial) <;> intros)
      refine J.cutI (X := Nat) (fun x9 => [(2, .pointer (some ⟨B2, 0, none⟩)), (3, .pointer (some ⟨B3, 0, none⟩)), (4, .pointer (some ⟨B4, 0, none⟩)), (7, .pointer (some ⟨B7, 0, none⟩)), (8, .pointer (some ⟨B8, 0, none⟩)), (9, .pointer (some ⟨B9, 0, none⟩)), (10, .int .i64 k), (11, .int .i64 n), (14, .pointer (some ⟨x9, 0, none⟩))]) (fun x9 => .blk x9 32 (qV Q) 3 :: [.blk bl 97 [.slice a l.length c, .map (some bm), .bool S1.neg, .string (bs S1.num), .string (bs S1.den)] 5, .inv bm (Rates l), slRow N a 7 (l.map spV), .obj L (.loop (busy rr)), .blk B8 4 [.bool true] 1, .blk B4 4 [.bool b] 1, .blk B7 3 [.int .i64 fst] 1, .blk B9 3 [.int .i64 st0] 1, .blk B3 28 [.int .i64 f, .int .i64 t, .slice (some ⟨ba, oa, none⟩) tab.length cap, .int .i64 0, .int .i64 0] 5, .blk B2 91 [.pointer (some ⟨bl, 0, none⟩)] 1] ++ M') ?_ ?_
      · intro hk9
        all_goals (refine goG ?_; and_intros <;> (try exact trivial) <;> intros)
        repeat' ((first | (apply J.regA (.q 0 <| .q 1 <| .q 2 <| .q 4 <| .q 5 <| .q 6 <| .f 3 (.f 7 (.q 8 <| .e 9 <| .r 10 <| .nil) 9 (.e 7 <| .q 8 <| .r 10 <| .nil)) 9 (.e 3 <| .e 7 <| .q 8 <| .r 10 <| .nil)); exact Tryz.mixed; decide +kernel) | (apply G.ofL (l := l) rfl; rfl; rfl; (repeat (first | exact Pick.head | apply Pick.tail)); (repeat (first | exact Pick.head | apply Pick.tail)); (repeat (first | exact Pick.head | apply Pick.tail)); exact ⟨hP, hf, hR, by assumption, by omega, by omega, ha⟩) | (apply G.cV (g := 97); rfl; rfl; exact fun w' _ => hsub w') | (apply G.fork)) <;> (refine goG ?_; and_intros <;> (try exact trivial) <;> intros))
        all_goals exact J.finS (hk9 _)
      intro B14
      all_goals (refine go ?_; and_intros <;> (try exact trivial) <;> intros)
      refine J.loop (c := _) (0 : Nat) (fun s => tab.length - s) (fun s => [(2, .pointer (some ⟨_, 0, none⟩)), (3, .pointer (some ⟨_, 0, none⟩)), (4, .pointer (some ⟨_, 0, none⟩)), (7, .pointer (some ⟨_, 0, none⟩)), (8, .pointer (some ⟨_, 0, none⟩)), (9, .pointer (some ⟨_, 0, none⟩)), (10, .int .i64 k), (11, .int .i64 n), (14, .pointer (some ⟨_, 0, none⟩)), (87, .slice (some ⟨ba, oa, none⟩) tab.length cap), (88, .int .i64 tab.length), (89, .int .i64 s)]) (fun s => .blk _ 32 (qV Q) 3 :: [.blk bl 97 [.slice a l.length c, .map (some bm), .bool S1.neg, .string (bs S1.num), .string (bs S1.den)] 5, .inv bm (Rates l), slRow N a 7 (l.map spV), .obj L (.loop (busy rr)), .blk _ 4 [.bool true] 1, .blk _ 4 [.bool b] 1, .blk _ 3 [.int .i64 fst] 1, .blk _ 3 [.int .i64 st0] 1, .blk _ 28 [.int .i64 f, .int .i64 t, .slice (some ⟨ba, oa, none⟩) tab.length cap, .int .i64 0, .int .i64 0] 5, .blk _ 91 [.pointer (some ⟨bl, 0, none⟩)] 1] ++ M') (fun s => s ≤ tab.length ∧ ∀ q (hq : q < tab.length), q < s → ofR l k tab[q].1 - ofR l fst tab[q].1 = mor) ?_ sbT sbL ?_
      · exact ⟨Nat.zero_le _, fun q hq h => absurd h (Nat.not_lt_zero _)⟩
      intro j ⟨j1, j2⟩ ih
      by_cases hj : j < tab.length
      · have hrj := hra j hj
        have htj := htt _ (List.getElem_mem hj)
        have hnj := hno _ (List.getElem_mem hj)
        have hyj : ofR l k tab[j].1 - ofR l fst tab[j].1 = mor → ∀ q (hq : q < tab.length), q < j + 1 → ofR l k tab[q].1 - ofR l fst tab[q].1 = mor := fun h1 q hq h2 => by
          rcases Nat.lt_or_ge q j with h3 | h3
          · exact j2 q hq h3
          · obtain rfl : q = j := by omega
            exact h1
        clear hra hst0 hr0 j2 hno hyes hsub
        generalize tab[j] = z at *
        obtain ⟨z, nz⟩ := z
        dsimp only [hoV] at hrj htj hnj hyj
        have hz1 := htj.1
        have hsub2 := fun w' => ratSub_holds (rQ (ofR l k z)) (rQ (ofR l fst z)) w' (fewQ_le (fewQ_of (k := k) hf hR hz1) (by decide)).1 (fewQ_le (fewQ_of (k := k) hf hR hz1) (by decide)).2 (fewQ_le (fewQ_of (k := fst) hf hR hz1) (by decide)).1 (fewQ_le (fewQ_of (k := fst) hf hR hz1) (by decide)).2
        simp only [qR_rQ] at hsub2
        generalize hd : ofR l k z - ofR l fst z = dd at *
        by_cases hc : dd = mor
        · have hc2 : rQ dd = Q := by rw [hc]; exact hQ
          all_goals (refine goR ?_; and_intros <;> (try exact trivial) <;> intros)
          repeat' ((first | (apply J.regA (.q 0 <| .q 1 <| .q 2 <| .q 3 <| .q 5 <| .q 6 <| .q 7 <| .q 8 <| .q 11 <| .e 4 <| .e 9 <| .q 10 <| .q 12 <| .nil); exact Tryz.mixed; decide +kernel) | (apply G.ofL (l := l) rfl; rfl; rfl; (repeat (first | exact Pick.head | apply Pick.tail)); (repeat (first | exact Pick.head | apply Pick.tail)); (repeat (first | exact Pick.head | apply Pick.tail)); exact ⟨hP, hf, hR, by assumption, by omega, by omega, ha⟩) | (apply G.cV (g := 97); rfl; rfl; exact fun w' _ => hsub2 w') | (apply G.neR (rQ dd) Q; rfl; rfl; rfl; all_goals intro h; all_goals try (exact absurd hc2 h)) | (apply J.regQ; exact Tryz.mixed; decide +kernel) | (apply J.regL'; exact Tryz.mixed; decide +kernel)) <;> (refine goR ?_; and_intros <;> (try exact trivial) <;> intros))
          exact J.finS (ih (j + 1) ⟨hj, hyj hc⟩ (by omega))
        · have hc2 : rQ dd ≠ Q := fun h => hc (rQ_inj (h.trans hQ.symm))
          all_goals (refine goR ?_; and_intros <;> (try exact trivial) <;> intros)
          repeat' ((first | (apply J.regA (.q 0 <| .q 1 <| .q 2 <| .q 3 <| .q 5 <| .q 6 <| .q 7 <| .q 8 <| .q 11 <| .e 4 <| .e 9 <| .q 10 <| .q 12 <| .nil); exact Tryz.mixed; decide +kernel) | (apply G.ofL (l := l) rfl; rfl; rfl; (repeat (first | exact Pick.head | apply Pick.tail)); (repeat (first | exact Pick.head | apply Pick.tail)); (repeat (first | exact Pick.head | apply Pick.tail)); exact ⟨hP, hf, hR, by assumption, by omega, by omega, ha⟩) | (apply G.cV (g := 97); rfl; rfl; exact fun w' _ => hsub2 w') | (apply G.neR (rQ dd) Q; rfl; rfl; rfl; all_goals intro h; all_goals try (exact absurd h hc2)) | (apply J.regQ; exact Tryz.mixed; decide +kernel) | (apply J.regL'; exact Tryz.mixed; decide +kernel)) <;> (refine goR ?_; and_intros <;> (try exact trivial) <;> intros))
          exact J.sel (leaveGret (y, S1, false, fst, true) ⟨rfl, rfl, i1, fewQ_le i5 (by omega), hnj hc⟩ rfl)
      · have hall : ∀ y ∈ tab, ofR l k y.1 - ofR l fst y.1 = mor := fun y hy => by
          obtain ⟨q, hq, rfl⟩ := List.getElem_of_mem hy
          exact j2 q hq (by omega)
        clear ih
        all_goals (refine goR ?_; and_intros <;> (try exact trivial) <;> intros)
        repeat' ((first | (apply G.cV (g := 40); rfl; rfl; exact fun w' _ => hin w') | (apply G.cV (g := 30); rfl; rfl; exact fun w' _ => hmul w') | (apply G.cV (g := 29); rfl; rfl; exact fun w' _ => had w') | (apply J.regQ; exact Tryz.mixed; decide +kernel) | (apply J.regL'; exact Tryz.mixed; decide +kernel)) <;> (refine goR ?_; and_intros <;> (try exact trivial) <;> intros))
        exact J.sel (leaveG hrs hrp (y + n * mor, rQ (y + n * mor), b, fst, true) ⟨rfl, fun h => absurd h (Nat.succ_ne_zero _), fun _ => ⟨fewQ_le hfs (by omega), rfl, rfl, i6⟩, hyes hall⟩ rfl)
  · intro Bd ⟨y, S1, b, fst, bgn⟩ ⟨i1, i2, i3, i4⟩
    dsimp only at i1 i2 i3 i4 ⊢
    have hEp : 0 < E.length := by
      rw [← hE, clsL]
      exact clsS_pos _ _ _ (by dsimp only; omega)
    obtain ⟨i5, rfl, rfl, i6⟩ := i3 hEp
    rw [List.drop_length, wsum, Rat.add_zero] at i6
    all_goals (refine go ?_; and_intros <;> (try exact trivial) <;> intros)
    refine leaveM (v := .bool true) (ds := [Bd]) Tryz.func56 rfl rfl rfl rfl (RunsTo.one Tryz.results56 (by (first | (apply ResV.tmp; rfl) | (apply ResV.cell; rfl; (first | (apply LdV.one; (first | exact CellV.row0 (by assumption) rfl | exact CellV.rowS (by assumption) rfl | exact CellV.rowSS (by assumption) rfl | (apply CellV.blk; exact mm; rfl))) | (apply LdV.aggBlk; exact mm; rfl) | (apply LdV.part; exact mm; rfl; rfl) | (apply LdV.aggRow; assumption; rfl) | (apply LdV.partRow; assumption; rfl; rfl)))))) (List.Perm.refl _) fun w' hw' => ?_
    exact ⟨true, S1, y, rfl, i1, fewQ_le i5 (by omega), fun _ => ⟨fun e he => (by obtain ⟨j, hj, rfl⟩ := List.getElem_of_mem he; exact i4 j hj hj), i6⟩, fun h => (by cases h), hw'.sel⟩
  · intro Bd ⟨y, S1, b, fst, bgn⟩ cc ⟨e1, e2, i1, i2, i3⟩
    dsimp only at e1 e2 i1 i2 i3 ⊢
    subst e1 e2
    refine leaveM (v := .bool false) (ds := [Bd]) Tryz.func56 rfl rfl rfl rfl (RunsTo.one Tryz.results56 (by (first | (apply ResV.tmp; rfl) | (apply ResV.cell; rfl; (first | (apply LdV.one; (first | exact CellV.row0 (by assumption) rfl | exact CellV.rowS (by assumption) rfl | exact CellV.rowSS (by assumption) rfl | (apply CellV.blk; exact mm; rfl))) | (apply LdV.aggBlk; exact mm; rfl) | (apply LdV.part; exact mm; rfl; rfl) | (apply LdV.aggRow; assumption; rfl) | (apply LdV.partRow; assumption; rfl; rfl)))))) (List.Perm.refl _) fun w' hw' => ?_
    exact ⟨false, S1, y, rfl, i1, fewQ_le i2 (by omega), fun h => (by cases h), fun _ => i3, hw'.sel⟩
end Go.Proofs.YthkdfpbjkpgckaaGreatDoor
namespace Go.Proofs.YthkdfpbjkpgckaaGreatDoor
open Go.RowKit Go.Sl Go.Num
theorem take_holds (w0 : World) (M : List Row) (w : World) (bl bm N : Nat) (a : Option Addr) (l : List Spn) (c : Nat) (x : Rat) (m : Nat) (S : Q3) (hS : S = rQ x) (r : Rn) (hw : Sat w0 (.blk bl 97 [.slice a l.length c, .map (some bm), .bool S.neg, .string (bs S.num), .string (bs S.den)] 5 :: .inv bm (Rates l) :: slRow N a 7 (l.map spV) :: M) w)
    (hP : ∀ s ∈ l, PtsAt w0 s) (hf : ∀ s ∈ l, fewS s) (hR : ∀ s ∈ l, RightS s) (hl : l.length ≤ 400) (ha : ∃ b off, a = some ⟨b, off, none⟩ ∨ l = [])
    (hx : fewQ m S) (hm : m ≤ 100000000) (hm1 : 1 ≤ m) (hr : inT r = true) (hlen : r.tab.length ≤ 64) (hA : TabAt w0 r) (hE : oneE r = 0) :
    Calls Tryz.prog 56 #[.pointer (some ⟨bl, 0, none⟩), rnA r] w (fun e w' => ∃ (b : Bool) (S' : Q3) (y : Rat), e = .returned (.bool b) ∧ S' = rQ y ∧ fewQ (m + 300 * (l.length + 80)) S' ∧ (b = true → takeB l r ∧ y = x + takeV l r) ∧ (b = false → ¬ takeB l r) ∧ Sat w0 (.blk bl 97 [.slice a l.length c, .map (some bm), .bool S'.neg, .string (bs S'.num), .string (bs S'.den)] 5 :: .inv bm (Rates l) :: slRow N a 7 (l.map spV) :: M) w') := by
  rw [inT, decide_eq_true_eq] at hr
  by_cases h0 : r.tab.length = 0
  · obtain ⟨e1, e2, e3⟩ := oneE_gap hE h0
    refine (takeGap_holds w0 M w bl bm N a l c x m S hS r hw hP hf hR hl ha hx hm hm1 hr (List.length_eq_zero_iff.1 h0) ⟨e1, by omega⟩ ⟨by omega, e3⟩).mono fun e w' ⟨b, S', y, g1, g2, g3, g4⟩ => ⟨b, S', y, g1, g2, fewQ_le g3 (by omega), g4⟩
  · obtain ⟨e1, _, _, e4⟩ := oneE_tab hE h0
    exact takeTab_holds w0 M w bl bm N a l c x m S hS r hw hP hf hR hl ha hx hm hm1 hr (by omega) hlen hA e4 e1
theorem G.takeL {C : Ctx} {st : List (Nat × Value)} {M M1 M2 M3 : List Row} {k : List Item} {q q' : Md} {all rest : List Oper} {d : Nat} {ty : TypeId} {pos : String} {after : Array Edge} {gd : Option (Nat × Bool)} {args : List Operand} {at_ : Array TypeId} (hP : C.P = Tryz.prog)
    {bl bm N : Nat} {a : Option Addr} {l : List Spn} {c : Nat} {S : Q3} (r : Rn) (x : Rat) (m : Nat)
    (hs : sideB all st gd d C.N q.res = some q') (ha : evL st args = some [.pointer (some ⟨bl, 0, none⟩), rnA r])
    (p1 : Pick (.blk bl 97 [.slice a l.length c, .map (some bm), .bool S.neg, .string (bs S.num), .string (bs S.den)] 5) M M1) (p2 : Pick (.inv bm (Rates l)) M1 M2) (p3 : Pick (slRow N a 7 (l.map spV)) M2 M3)
    (hq : (S = rQ x ∧ fewQ m S ∧ m ≤ 100000000 ∧ 1 ≤ m) ∧ (∀ s ∈ l, PtsAt C.w0 s) ∧ (∀ s ∈ l, fewS s) ∧ (∀ s ∈ l, RightS s) ∧ l.length ≤ 400 ∧ (∃ b off, a = some ⟨b, off, none⟩ ∨ l = []) ∧ inT r = true ∧ r.tab.length ≤ 64 ∧ TabAt C.w0 r ∧ oneE r = 0)
    (h1 : ∀ (S' : Q3) y, S' = rQ y → fewQ (m + 300 * (l.length + 80)) S' → takeB l r → y = x + takeV l r → G q' C all ((d, .bool true) :: st) (.blk bl 97 [.slice a l.length c, .map (some bm), .bool S'.neg, .string (bs S'.num), .string (bs S'.den)] 5 :: .inv bm (Rates l) :: slRow N a 7 (l.map spV) :: M3) rest k)
    (h2 : ∀ (S' : Q3), ¬ takeB l r → G q' C all ((d, .bool false) :: st) (.blk bl 97 [.slice a l.length c, .map (some bm), .bool S'.neg, .string (bs S'.num), .string (bs S'.den)] 5 :: .inv bm (Rates l) :: slRow N a 7 (l.map spV) :: M3) rest k) :
    G q C all st M ({ dst := some d, op := .call { callee := .value (.func 56), args := args.toArray, argTypes := at_ }, type := ty, pos, after, guard := gd } :: rest) k := by
  obtain ⟨P, b, PHI, N0, w0, D⟩ := C
  dsimp only at hP; subst hP
  obtain ⟨⟨g1, g2, g3, g3'⟩, g4, g5, g6, g7, g8, g9, g10, g11, g12⟩ := hq
  refine G.cM (X := { z : Bool × Q3 × Rat // z.2.1 = rQ z.2.2 ∧ fewQ (m + 300 * (l.length + 80)) z.2.1 ∧ (z.1 = true → takeB l r ∧ z.2.2 = x + takeV l r) ∧ (z.1 = false → ¬ takeB l r) }) (fun z => .bool z.1.1) (fun z => .blk bl 97 [.slice a l.length c, .map (some bm), .bool z.1.2.1.neg, .string (bs z.1.2.1.num), .string (bs z.1.2.1.den)] 5 :: .inv bm (Rates l) :: slRow N a 7 (l.map spV) :: M3) hs ha (fun w hw => ?_) fun z => ?_
  · refine (take_holds w0 M3 w bl bm N a l c x m S g1 r (hw.perm (p1.perm.trans (List.Perm.cons _ (p2.perm.trans (List.Perm.cons _ p3.perm))))) g4 g5 g6 g7 g8 g2 g3 g3' g9 g10 g11 g12).mono fun e w' ⟨b, S', y, f1, f2, f3, f4, f5, f6⟩ => ⟨⟨(b, S', y), f2, f3, f4, f5⟩, f1, f6⟩
  · obtain ⟨⟨b, S', y⟩, f2, f3, f4, f5⟩ := z
    cases b
    · exact h2 S' (f5 rfl)
    · exact h1 S' y f2 f3 (f4 rfl).1 (f4 rfl).2
instance (l : List Spn) (r : Rn) (e : Int × Int) : Decidable (okE l r e) := by unfold okE; split <;> exact inferInstance
instance (l : List Spn) (r : Rn) : Decidable (takeB l r) := by unfold takeB; exact inferInstance
/-- A span that goes beyond the runs. -/
def outX (rs : List Rn) (s : Spn) : Bool := match rs[0]?, rs[rs.length - 1]? with
  | some a, some b => decide (s.from_ < a.from_) || decide (b.to_ < s.to_)
  | _, _ => true
def takeS (l : List Spn) : List Rn → Rat
  | [] => 0
  | r :: t => takeV l r + takeS l t
/-- The exact volume, or the error. -/
def exE (rs : List Rn) (l : List Spn) : Q3 × Int :=
  if runsErr rs ≠ 0 then (zero3, runsErr rs) else if spansErr l ≠ 0 then (zero3, spansErr l) else if l.any (outX rs) = true then (zero3, 19) else if ∀ r ∈ rs, takeB l r then (rQ (takeS l rs), 0) else (zero3, 29)
theorem exact_holds (a b : Option Addr) (rs : List Rn) (l : List Spn) (c d : Nat) (w : World) (hA : RunsAt w a rs) (hB : SpansAt w b l) (hf : ∀ s ∈ l, fewS s) (hfr : ∀ r ∈ rs, r.tab.length ≤ 64) (hn : rs.length ≤ 400) :
    Calls Tryz.prog 24 #[.slice a rs.length c, .slice b l.length d] w fun e w' => e = .returned (.tuple #[qA (exE rs l).1, .int .i64 (exE rs l).2]) ∧ Below w.heap.size w w' := by
  have hcr := fun w' (hb : Below w.heap.size w w') => vRuns_holds a rs c w' (hA.below hb) hfr
  have hcs := fun w' (hb : Below w.heap.size w w') => vCheck_holds b l d w' (hB.below hb) hf
  rw [exE]
  by_cases h1 : runsErr rs = 0
  · have ⟨_, k5, _⟩ := runsErr_ok h1
    have k6 := runsErr_one h1
    rw [if_neg (fun e => e h1)]
    rw [h1] at hcr
    by_cases h2 : spansErr l = 0
    · have ⟨k1, k2⟩ := spansErr_ok h2
      rw [if_neg (fun e => e h2)]
      rw [h2] at hcs
      refine enterA [(0, .slice a rs.length c), (1, .slice b l.length d)] Tryz.func24 Tryz.ntmps24 ?_
      all_goals (refine go ?_; and_intros <;> (try exact trivial) <;> intros)
      repeat' ((first | (refine G.cvb hcr ?_) | (refine G.cvb hcs ?_)) <;> (refine go ?_; and_intros <;> (try exact trivial) <;> intros))
      refine J.loop (c := _) (0 : Nat) (fun s => l.length - s) (fun s => [(0, .slice a rs.length c), (1, .slice b l.length d), (4, .pointer (some ⟨_, 0, none⟩)), (25, .slice b l.length d), (26, .int .i64 l.length), (27, .int .i64 s)]) (fun s => [.blk _ 32 [.bool false, .string (bs []), .string (bs [])] 3]) (fun s => s ≤ l.length ∧ ∀ i (hi : i < l.length), i < s → outX rs l[i] = false) ?_ sbT sbL ?_
      · exact ⟨Nat.zero_le _, fun i hi h => absurd h (Nat.not_lt_zero _)⟩
      intro k ⟨h3, h4⟩ ih
      by_cases hk : k < l.length
      · obtain ⟨bb, ob, rfl, hrb⟩ := SlAt.all hB.1 (by omega)
        have hrk := hrb k hk
        by_cases hq : outX rs l[k] = true
        · rw [if_pos (List.any_eq_true.2 ⟨_, List.getElem_mem hk, hq⟩)]
          clear ih h4
          rcases Nat.eq_zero_or_pos rs.length with hz | hz
          · generalize l[k] = s at *
            obtain ⟨fr, tt, wt, dt, pts, adr, cap⟩ := s
            dsimp only [spV] at *
            all_goals (refine go ?_; and_intros <;> (try exact trivial) <;> intros)
            all_goals refine ret2b Tryz.func24 Tryz.results24 ?_
            all_goals rfl
          · obtain ⟨ba, oa, rfl, hra⟩ := SlAt.all hA.1 hz
            have hr0 := hra 0 hz
            have hr1 := hra (rs.length - 1) (by omega)
            rw [outX, List.getElem?_eq_getElem hz, List.getElem?_eq_getElem (show rs.length - 1 < rs.length by omega)] at hq
            simp only [Bool.or_eq_true, decide_eq_true_eq] at hq
            generalize rs[0] = r0 at *
            generalize rs[rs.length - 1] = r1 at *
            generalize l[k] = s at *
            obtain ⟨fr, tt, wt, dt, pts, adr, cap⟩ := s
            dsimp only [spV, rnV] at *
            all_goals (refine go ?_; and_intros <;> (try exact trivial) <;> intros)
            repeat' ((first | (apply G.ix (i := rs.length - 1); rfl; rfl; omega; omega; rfl)) <;> (refine go ?_; and_intros <;> (try exact trivial) <;> intros))
            all_goals refine ret2b Tryz.func24 Tryz.results24 ?_
            all_goals rfl
        · have hq2 : outX rs l[k] = false := by simpa using hq
          have h4' : ∀ i (hi : i < l.length), i < k + 1 → outX rs l[i] = false := fun i hi h8 => by
            rcases Nat.lt_or_ge i k with h9 | h9
            · exact h4 i hi h9
            · obtain rfl : i = k := by omega
              exact hq2
          clear h4 hq
          rcases Nat.eq_zero_or_pos rs.length with hz | hz
          · exfalso
            rw [outX, List.getElem?_eq_none (by omega)] at hq2
            cases hq2
          · obtain ⟨ba, oa, rfl, hra⟩ := SlAt.all hA.1 hz
            have hr0 := hra 0 hz
            have hr1 := hra (rs.length - 1) (by omega)
            rw [outX, List.getElem?_eq_getElem hz, List.getElem?_eq_getElem (show rs.length - 1 < rs.length by omega)] at hq2
            simp only [Bool.or_eq_false_iff, decide_eq_false_iff_not] at hq2
            generalize rs[0] = r0 at *
            generalize rs[rs.length - 1] = r1 at *
            generalize l[k] = s at *
            obtain ⟨fr, tt, wt, dt, pts, adr, cap⟩ := s
            dsimp only [spV, rnV] at *
            all_goals (refine go ?_; and_intros <;> (try exact trivial) <;> intros)
            repeat' ((first | (apply G.ix (i := rs.length - 1); rfl; rfl; omega; omega; rfl)) <;> (refine go ?_; and_intros <;> (try exact trivial) <;> intros))
            exact J.finS (ih (k + 1) ⟨hk, h4'⟩ (by omega))
      · rw [show l.any (outX rs) = false from List.any_eq_false.2 fun x hx => by
          obtain ⟨i, h8, rfl⟩ := List.getElem_of_mem hx
          rw [h4 i h8 (by omega)]; decide]
        rw [if_neg (by decide)]
        clear ih h4
        all_goals (refine go ?_; and_intros <;> (try exact trivial) <;> intros)
        repeat' ((first | (apply G.cR (g := 42) (v := fun x : Nat × Nat => .pointer (some ⟨x.1, 0, none⟩)) (Mn := fun x => [.blk x.1 97 [.slice b l.length d, .map (some x.2), .bool false, .string (bs []), .string (bs [])] 5, .inv x.2 (Rates l)]); rfl; rfl; exact fun w' hw' => book_holds w _ w' b l d hw'; rintro ⟨bl, bm⟩)) <;> (refine go ?_; and_intros <;> (try exact trivial) <;> intros))
        refine J.slOld hB.1 (J.front3 (r1 := .blk bl 97 [.slice b l.length d, .map (some bm), .bool false, .string (bs []), .string (bs [])] 5) (r2 := .inv bm (Rates l)) (r3 := slRow w.heap.size b 7 (l.map spV)) (by (repeat (first | exact Pick.head | apply Pick.tail))) (by (repeat (first | exact Pick.head | apply Pick.tail))) (by (repeat (first | exact Pick.head | apply Pick.tail))) ?_)
        have hnz := SpansAt.nz hB
        clear hcr hcs hk h3
        refine J.loop (c := _) ((0, 0, zero3) : Nat × Rat × Q3) (fun s => rs.length - s.1) (fun s => [(4, .pointer (some ⟨_, 0, none⟩)), (10, .pointer (some ⟨bl, 0, none⟩)), (59, .slice a rs.length c), (60, .int .i64 rs.length), (61, .int .i64 s.1)]) (fun s => [.blk bl 97 [.slice b l.length d, .map (some bm), .bool s.2.2.neg, .string (bs s.2.2.num), .string (bs s.2.2.den)] 5, .inv bm (Rates l), slRow w.heap.size b 7 (l.map spV), .blk _ 32 [.bool false, .string (bs []), .string (bs [])] 3]) (fun s => s.1 ≤ rs.length ∧ s.2.2 = rQ s.2.1 ∧ fewQ (1 + 300 * (l.length + 80) * s.1) s.2.2 ∧ s.2.1 + takeS l (rs.drop s.1) = takeS l rs ∧ ∀ i (hi : i < rs.length), i < s.1 → takeB l rs[i]) ?_ sbT sbL ?_
        · exact ⟨Nat.zero_le _, rfl, ⟨Nat.zero_le _, Nat.zero_le _⟩, Rat.zero_add _, fun i hi h => absurd h (Nat.not_lt_zero _)⟩
        intro ⟨k, x, S⟩ ⟨h3, h4, h5, h6, h7⟩ ih
        dsimp only at h3 h4 h5 h6 h7 ⊢
        by_cases hk : k < rs.length
        · obtain ⟨ba, oa, rfl, hra⟩ := SlAt.all hA.1 (by omega)
          have hrk := hra k hk
          have hmem := List.getElem_mem hk
          have hm : 300 * (l.length + 80) * k ≤ 300 * 480 * 400 := Nat.mul_le_mul (Nat.mul_le_mul_left _ (by omega)) (by omega)
          have hms : 300 * (l.length + 80) * (k + 1) = 300 * (l.length + 80) * k + 300 * (l.length + 80) := Nat.mul_succ _ _
          have hq : (S = rQ x ∧ fewQ (1 + 300 * (l.length + 80) * k) S ∧ (1 + 300 * (l.length + 80) * k) ≤ 100000000 ∧ 1 ≤ (1 + 300 * (l.length + 80) * k)) ∧ (∀ s ∈ l, PtsAt w s) ∧ (∀ s ∈ l, fewS s) ∧ (∀ s ∈ l, RightS s) ∧ l.length ≤ 400 ∧ (∃ b' off, b = some ⟨b', off, none⟩ ∨ l = []) ∧ inT rs[k] = true ∧ rs[k].tab.length ≤ 64 ∧ TabAt w rs[k] ∧ oneE rs[k] = 0 :=
            ⟨⟨h4, h5, by omega, by omega⟩, hB.2, hf, k2, k1, hnz, k5 _ hmem, hfr _ hmem, hA.2 _ hmem, k6 _ hmem⟩
          have hyes : takeB l rs[k] → ∀ i (hi : i < rs.length), i < k + 1 → takeB l rs[i] := fun h i hi h8 => by
            rcases Nat.lt_or_ge i k with h9 | h9
            · exact h7 i hi h9
            · obtain rfl : i = k := by omega
              exact h
          have hno : ¬ takeB l rs[k] → ¬ ∀ r ∈ rs, takeB l r := fun h h2 => h (h2 _ hmem)
          rw [List.drop_eq_getElem_cons hk, takeS, ← Rat.add_assoc] at h6
          clear hra hmem h7
          generalize rs[k] = r at *
          obtain ⟨rf, rt, tab, adr, cap, lo, hi⟩ := r
          dsimp only [rnV] at hrk
          all_goals (refine go ?_; and_intros <;> (try exact trivial) <;> intros)
          repeat' ((first | (apply G.takeL (l := l) rfl ⟨rf, rt, tab, adr, cap, lo, hi⟩ x (1 + 300 * (l.length + 80) * k); rfl; rfl; (repeat (first | exact Pick.head | apply Pick.tail)); (repeat (first | exact Pick.head | apply Pick.tail)); (repeat (first | exact Pick.head | apply Pick.tail)); exact hq; all_goals intro S2; (try intro y2 hS2 hf2); intro htk; (try intro hy2))) <;> (refine go ?_; and_intros <;> (try exact trivial) <;> intros))
          · exact J.finS (ih (k + 1, y2, S2) ⟨hk, hS2, fewQ_le hf2 (by dsimp only; omega), by dsimp only; rw [hy2]; exact h6, hyes htk⟩ (by dsimp only; omega))
          · rw [if_neg (hno htk)]
            all_goals refine ret2b Tryz.func24 Tryz.results24 ?_
            all_goals rfl
        · rw [if_pos fun r hr => (by obtain ⟨i, h8, rfl⟩ := List.getElem_of_mem hr; exact h7 i h8 (by omega))]
          rw [show rs.drop k = [] from List.drop_eq_nil_of_le (by omega), takeS, Rat.add_zero] at h6
          subst h6
          rw [← h4]
          clear ih h7
          all_goals (refine go ?_; and_intros <;> (try exact trivial) <;> intros)
          all_goals refine ret2b Tryz.func24 Tryz.results24 ?_
          all_goals rfl
    · rw [if_pos h2]
      generalize spansErr l = E at *
      refine enterA [(0, .slice a rs.length c), (1, .slice b l.length d)] Tryz.func24 Tryz.ntmps24 ?_
      all_goals (refine go ?_; and_intros <;> (try exact trivial) <;> intros)
      repeat' ((first | (refine G.cvb hcr ?_) | (refine G.cvb hcs ?_)) <;> (refine go ?_; and_intros <;> (try exact trivial) <;> intros))
      all_goals refine ret2b Tryz.func24 Tryz.results24 ?_
      all_goals rfl
  · rw [if_pos h1]
    generalize runsErr rs = E at *
    refine enterA [(0, .slice a rs.length c), (1, .slice b l.length d)] Tryz.func24 Tryz.ntmps24 ?_
    all_goals (refine go ?_; and_intros <;> (try exact trivial) <;> intros)
    repeat' ((first | (refine G.cvb hcr ?_) | (refine G.cvb hcs ?_)) <;> (refine go ?_; and_intros <;> (try exact trivial) <;> intros))
    all_goals refine ret2b Tryz.func24 Tryz.results24 ?_
    all_goals rfl
end Go.Proofs.YthkdfpbjkpgckaaGreatDoor
namespace Go.Sl
open Go.RowKit
/-- An append to a slice of the call's own, which lies in a variable. -/
theorem G.apV {C : Ctx} {st : List (Nat × Value)} {M : List Row} {k : List Item} {q q' : Md} {all rest : List Oper} {d : Nat} {pos : String} {after : Array Edge} {gd : Option (Nat × Bool)} {T ty' E bytes size n m c base : Nat} {z v : Value} {x y : Operand} {a : Option Addr} {xs news cs : List Value} {F : Row → List Row}
    (hs : sideB all st gd d C.N q.res = some q') (hx : evS st x = some v) (hy : evS st y = some (.slice a m c)) (hm : RAt (.own base v E size n xs) M F) [hT : TElem C.P T E z size bytes] (hsrc : SrcV C M a m size news) (hcs : xs ++ news = cs) (hb : (n + m) * bytes ≤ 140737488355328) (hnm : n + m ≤ 9223372036854775807)
    (h : ∀ a' c', G q' C all ((d, .slice a' (n + m) c') :: st) (F (.own 0 (.slice a' (n + m) c') E size (n + m) cs)) rest k) :
    G q C all st M ({ dst := some d, op := .call { callee := .builtin .append, args := #[x, y], argTypes := #[T, T] }, type := ty', pos, after, guard := gd } :: rest) k := by
  obtain ⟨g1, g2, g3⟩ := sideB_ok hs
  obtain ⟨i, hi, h6⟩ := hm.idx
  subst hcs
  refine G.res g1 rfl g3 (Eff.val g2 fun ac w hf hw => ?_)
  obtain ⟨v', w', h1, h2⟩ := append_run (T := T) (dst := some d) (ty' := ty') (pos := pos) (after := after) (gd := gd) hf hw hx hi hy hsrc hb hnm
  have hlt : i < M.length := (List.getElem?_eq_some_iff.1 hi).1
  have hown : w'.ownsRow 0 E size v' (n + m) (xs ++ news) := h2.hold _ (List.mem_of_getElem? (List.getElem?_set_self hlt))
  have : ∃ a' c', v' = .slice a' (n + m) c' := by
    generalize n + m = u at hown ⊢
    obtain ⟨-, hv⟩ := hown
    rcases hv with ⟨h0, rfl⟩ | ⟨g, cap, cur, h0, -⟩
    · exact ⟨none, 0, h0⟩
    · exact ⟨_, _, h0⟩
  obtain ⟨a', c', rfl⟩ := this
  exact ⟨_, w', _, h1, h2, h6 _ ▸ h a' c'⟩
end Go.Sl
namespace Go.Proofs.YthkdfpbjkpgckaaGreatDoor
open Go.RowKit Go.Sl Go.Num
def tabS (t : List (Int × Int)) : List Int := t.flatMap fun x => List.replicate x.2.toNat x.1
def stagesR (r : Rn) : List Int := if r.tab.length = 0 then List.replicate (r.to_ - r.from_).toNat r.lo else tabS r.tab
def firstS : List Rn → List Int
  | [] => []
  | r :: t => stagesR r ++ firstS t
def firstF (l : List Rn) : Int := match l with
  | [] => 0
  | r :: _ => r.from_
theorem tabS_cons (x : Int × Int) (t : List (Int × Int)) : tabS (x :: t) = List.replicate x.2.toNat x.1 ++ tabS t := List.flatMap_cons
theorem isV_len (s : Int) : (isV s).length = 1 := rfl
end Go.Proofs.YthkdfpbjkpgckaaGreatDoor
namespace Go.Proofs.YthkdfpbjkpgckaaGreatDoor
open Go.RowKit Go.Sl Go.Num
/-- An exchange of two stages that makes a difference. -/
def movP (x : Rn) (l : List Spn) : Prop := ∃ (k : Nat) (h0 : 0 < x.tab.length) (hk : k < x.tab.length), 0 < k ∧ ∃ j : Nat, 0 < j ∧ x.from_ + j < x.to_ ∧ worthOf l x.from_ x.tab[0].1 + worthOf l (x.from_ + j) x.tab[k].1 ≠ worthOf l x.from_ x.tab[k].1 + worthOf l (x.from_ + j) x.tab[0].1
end Go.Proofs.YthkdfpbjkpgckaaGreatDoor
