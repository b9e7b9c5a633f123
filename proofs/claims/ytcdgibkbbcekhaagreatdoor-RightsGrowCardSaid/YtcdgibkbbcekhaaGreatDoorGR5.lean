/-
  Contracts of the natural numbers as bytes: Gcd, Int.
-/
import Derived.Test.YtcdgibkbbcekhaaGreatDoorGR4
import Derived.ProofKit
import Derived.Test.YtcdgibkbbcekhaaGreatDoorRows
set_option linter.unusedVariables false
set_option linter.unusedSimpArgs false
set_option linter.unusedSectionVars false
namespace Go.Proofs.YtcdgibkbbcekhaaGreatDoor
open Go.RowKit Go.Sl Go.Num
/-- Where a slice that is handed back lies. -/
def Src (x : Option Addr) (m : Nat) (y : Option Addr) (n : Nat) (w : World) (p : Addr) : Prop := (x = some p ∧ m ≠ 0) ∨ (y = some p ∧ n ≠ 0) ∨ w.heap.size ≤ p.block
theorem dgs_pos_len {n : Nat} (h : n ≠ 0) : 0 < (dgs B32 n).length := by rw [dgs_pos (by decide) h]; simp
theorem sl_lt {w : World} {x : Option Addr} {m : Nat} {p : Addr} (h : SlAt w x 1 ((dgs B32 m).map lmV)) (hm : m ≠ 0) (hp : x = some p) : p.block < w.heap.size := h.lt (by rw [List.length_map]; exact dgs_pos_len hm) hp
abbrev gcdF (B : Nat) : Value := .func (.func 117) #[] #[.pointer (some ⟨B, 0, none⟩)]
theorem gcd1_holds : ∀ (n m : Nat) (x : Option Addr) (c : Nat) (y : Option Addr) (d B : Nat) (w : World), (dgs B32 m).length ≤ 268435456 → (dgs B32 n).length ≤ 268435456 → SlAt w x 1 ((dgs B32 m).map lmV) → SlAt w y 1 ((dgs B32 n).map lmV) → RowAt w B 0 [gcdF B] →
    Calls Tryz.prog 117 #[.slice x (dgs B32 m).length c, .slice y (dgs B32 n).length d, .pointer (some ⟨B, 0, none⟩)] w fun e w' => ∃ a' c', e = .returned (.slice a' (dgs B32 (Nat.gcd m n)).length c') ∧ SlAt w' a' 1 ((dgs B32 (Nat.gcd m n)).map lmV) ∧ (∀ p, a' = some p → Nat.gcd m n ≠ 0 → Src x m y n w p) ∧ Below w.heap.size w w' := by
  intro n
  induction n using Nat.strongRecOn with
  | _ n ih =>
  intro m x c y d B w hlm hln hX hY hB
  by_cases hn : n = 0
  · subst hn
    have hz : (dgs B32 0).length = 0 := by rw [dgs_zero]; rfl
    rw [Nat.gcd_zero_right, hz]
    refine enterA [(0, .slice x (dgs B32 m).length c), (1, .slice y 0 d), (2, .pointer (some ⟨B, 0, none⟩))] Tryz.func117 Tryz.ntmps117 ?_
    all_goals (refine go ?_; and_intros <;> (try exact trivial) <;> repeat (first | refine fun (Bk : Nat) => ?_ | intro h))
    (refine ret1 Tryz.func117 Tryz.results117 ?_; intro w' hw)
    exact ⟨x, c, rfl, hX.below hw.below, fun p hp h0 => .inl ⟨hp, h0⟩, hw.below⟩
  have hnl := dgs_pos_len hn
  rcases Nat.lt_or_ge m n with hlt | hge
  · have hrec : ∀ (w' : World), Below w.heap.size w w' → Calls Tryz.prog 117 #[.slice y (dgs B32 n).length d, .slice x (dgs B32 m).length c, .pointer (some ⟨B, 0, none⟩)] w' fun e w2 => ∃ a' c', e = .returned (.slice a' (dgs B32 (Nat.gcd m n)).length c') ∧ SlAt w2 a' 1 ((dgs B32 (Nat.gcd m n)).map lmV) ∧ (∀ p, a' = some p → 0 < ((dgs B32 (Nat.gcd m n)).map lmV).length → p.block < w.heap.size ∨ w'.heap.size ≤ p.block) ∧ (∀ p, a' = some p → Nat.gcd m n ≠ 0 → Src x m y n w p) ∧ Below w'.heap.size w' w2 := by
      intro w' hw
      have h1 := ih m hlt n y d x c B w' hln hlm (hY.below hw) (hX.below hw) (hB.below hw)
      rw [Nat.gcd_comm] at h1
      refine h1.mono fun e w2 ⟨a', c', he, hs, hp, hb⟩ => ⟨a', c', he, hs, fun p hpp hl => ?_, fun p hpp h0 => ?_, hb⟩
      · have h0 : Nat.gcd m n ≠ 0 := fun e => by rw [e, dgs_zero] at hl; exact absurd hl (by decide)
        rcases hp p hpp h0 with ⟨h, h2⟩ | ⟨h, h2⟩ | h
        · exact .inl (sl_lt hY h2 h)
        · exact .inl (sl_lt hX h2 h)
        · exact .inr h
      · rcases hp p hpp h0 with h | h | h
        · exact .inr (.inl h)
        · exact .inl h
        · exact .inr (.inr (Nat.le_trans hw.size h))
    have hby := fun (w' : World) (hw : Below w.heap.size w w') => by_lt x m c y n d w' (by omega) (by omega) (hX.below hw) (hY.below hw) hlt
    clear ih
    refine enterA [(0, .slice x (dgs B32 m).length c), (1, .slice y (dgs B32 n).length d), (2, .pointer (some ⟨B, 0, none⟩))] Tryz.func117 Tryz.ntmps117 ?_
    all_goals (refine go ?_; and_intros <;> (try exact trivial) <;> repeat (first | refine fun (Bk : Nat) => ?_ | intro h))
    repeat' ((first | (apply G.cV (g := 118); rfl; rfl; exact fun w' hw => hby w' hw.below) | (apply G.cQf (g := 117) (fun a' => ∀ p, a' = some p → Nat.gcd m n ≠ 0 → Src x m y n w p) (fun a' c' => .slice a' (dgs B32 (Nat.gcd m n)).length c') ((dgs B32 (Nat.gcd m n)).map lmV); rfl; rfl; rfl; exact fun w' hw => (hrec w' hw.below).mono fun e w2 ⟨a', c', he, hs, hf, hq, hb⟩ => ⟨a', c', he, hs, fun p hp hl => (hf p hp hl).imp id .inl, hq, hb⟩; intro a3 c3 hp3 hq3)) <;> (refine go ?_; and_intros <;> (try exact trivial) <;> repeat (first | refine fun (Bk : Nat) => ?_ | intro h)))
    (refine ret1 Tryz.func117 Tryz.results117 ?_; intro w' hw)
    exact ⟨a3, c3, rfl, hw.sl (by exact mm), hq3, hw.below⟩
  · have hge2 : Nat.gcd n (m % n) = Nat.gcd m n := by rw [Nat.gcd_comm m n, Nat.gcd_rec n m, Nat.gcd_comm]
    have hlr := dgs_len_mono (b := B32) (by decide) (Nat.mod_le m n)
    have hby := fun (w' : World) (hw : Below w.heap.size w w') => by_any x m c y n d w' hlm (hX.below hw) (hY.below hw) hge hn
    have hrec := fun (w' : World) (a4 : Option Addr) (c4 : Nat) (hw : Below w.heap.size w w') (h4 : SlAt w' a4 1 ((dgs B32 (m % n)).map lmV)) => ih (m % n) (Nat.mod_lt _ (by omega)) n y d a4 c4 B w' hln (by omega) (hY.below hw) h4 (hB.below hw)
    rw [hge2] at hrec
    clear ih
    refine enterA [(0, .slice x (dgs B32 m).length c), (1, .slice y (dgs B32 n).length d), (2, .pointer (some ⟨B, 0, none⟩))] Tryz.func117 Tryz.ntmps117 ?_
    all_goals (refine go ?_; and_intros <;> (try exact trivial) <;> repeat (first | refine fun (Bk : Nat) => ?_ | intro h))
    repeat' ((first | (apply G.cN2 (g := 118) (fun x1 c1 x2 c2 => .tuple #[.slice x1 (dgs B32 (m / n)).length c1, .slice x2 (dgs B32 (m % n)).length c2]) ((dgs B32 (m / n)).map lmV) ((dgs B32 (m % n)).map lmV); rfl; rfl; exact fun w' hw => hby w' hw.below; intro a3 c3 a4 c4 hp3 hp4 hq3 hq4)) <;> (refine go ?_; and_intros <;> (try exact trivial) <;> repeat (first | refine fun (Bk : Nat) => ?_ | intro h)))
    apply G.cQf (g := 117) (fun a' => ∀ p, a' = some p → Nat.gcd m n ≠ 0 → Src x m y n w p) (fun a' c' => .slice a' (dgs B32 (Nat.gcd m n)).length c') ((dgs B32 (Nat.gcd m n)).map lmV)
    · rfl
    · rfl
    · rfl
    · intro w' hw
      refine (hrec w' a4 c4 hw.below (hw.sl (by exact mm))).mono fun e w2 ⟨a', c', he, hs, hp, hb⟩ => ⟨a', c', he, hs, fun p hpp hl => ?_, fun p hpp h0 => ?_, hb⟩
      · have h0 : Nat.gcd m n ≠ 0 := fun e => by rw [e, dgs_zero] at hl; exact absurd hl (by decide)
        rcases hp p hpp h0 with ⟨h, h2⟩ | ⟨h, h2⟩ | h
        · exact .inl (sl_lt hY h2 h)
        · exact .inr (.inr ⟨slRow w.heap.size a4 1 ((dgs B32 (m % n)).map lmV), by exact mm, fun k h => h, by rw [List.length_map]; exact dgs_pos_len h2, p, h, rfl, hq4 p h⟩)
        · exact .inr (.inl h)
      · rcases hp p hpp h0 with h | ⟨h, h2⟩ | h
        · exact .inr (.inl h)
        · exact .inr (.inr (hq4 p h))
        · exact .inr (.inr (Nat.le_trans hw.size h))
    intro a5 c5 hp5 hq5
    all_goals (refine go ?_; and_intros <;> (try exact trivial) <;> repeat (first | refine fun (Bk : Nat) => ?_ | intro h))
    (refine ret1 Tryz.func117 Tryz.results117 ?_; intro w' hw)
    exact ⟨a5, c5, rfl, hw.sl (by exact mm), hq5, hw.below⟩
theorem natGcd_holds (a b : List UInt8) (w : World) (ha : a.length ≤ 536870912) (hb : b.length ≤ 536870912) :
    Calls Tryz.prog 51 #[.string (bs a), .string (bs b)] w fun e w' => e = .returned (.string (bs (nB (Nat.gcd (vB a) (vB b))))) ∧ Below w.heap.size w w' := by
  have hla := vB_dgs ha
  have hlb := vB_dgs hb
  have hlc : (dgs B32 (Nat.gcd (vB a) (vB b))).length ≤ 134217728 := by
    by_cases h : vB a = 0
    · rw [h, Nat.gcd_zero_left]; exact hlb
    · exact Nat.le_trans (dgs_len_mono (by decide) (Nat.gcd_le_left _ (by omega))) hla
  have hrec := fun (w' : World) (a1 : Option Addr) (c1 : Nat) (a2 : Option Addr) (c2 B : Nat) (h1 : SlAt w' a1 1 ((dgs B32 (vB a)).map lmV)) (h2 : SlAt w' a2 1 ((dgs B32 (vB b)).map lmV)) (hB : RowAt w' B 0 [gcdF B]) => gcd1_holds (vB b) (vB a) a1 c1 a2 c2 B w' (by omega) (by omega) h1 h2 hB
  refine enterA [(0, .string (bs a)), (1, .string (bs b))] Tryz.func51 Tryz.ntmps51 ?_
  all_goals (refine goR ?_; and_intros <;> (try exact trivial) <;> repeat (first | refine fun (Bk : Nat) => ?_ | intro h))
  repeat' ((first | (apply G.mf; rfl; rfl) | (apply J.regA (.q 0 <| .q 1 <| .q 3 <| .e 2 <| .e 4 <| .r 5 <| .r 6 <| .q 7 <| .nil); exact Tryz.mixed; decide +kernel) | (apply G.cN (g := 107) (vs := [.string (bs a)]) (fun a' c' => .slice a' (dgs B32 (vB a)).length c') ((dgs B32 (vB a)).map lmV); rfl; rfl; exact fun w' _ => load_holds a w' (by omega); intro a1 c1 hp1 hq1) | (apply G.cN (g := 107) (vs := [.string (bs b)]) (fun a' c' => .slice a' (dgs B32 (vB b)).length c') ((dgs B32 (vB b)).map lmV); rfl; rfl; exact fun w' _ => load_holds b w' (by omega); intro a2 c2 hp2 hq2) | (apply G.cV (g := 109); rfl; rfl; exact fun w' hw => text_holds _ _ _ w' (by omega) (hw.sl (by exact mm))) | (apply J.regQ; exact Tryz.mixed; decide +kernel) | (apply J.regL'; exact Tryz.mixed; decide +kernel)) <;> (refine goR ?_; and_intros <;> (try exact trivial) <;> repeat (first | refine fun (Bk : Nat) => ?_ | intro h)))
  apply G.cQf (g := 117) (fun _ => True) (fun a' c' => .slice a' (dgs B32 (Nat.gcd (vB a) (vB b))).length c') ((dgs B32 (Nat.gcd (vB a) (vB b))).map lmV)
  · rfl
  · rfl
  · rfl
  · intro w' hw
    refine (hrec w' a1 c1 a2 c2 Bk (hw.sl (by exact mm)) (hw.sl (by exact mm)) (hw.rowAt (by exact mm))).mono fun e w2 ⟨a', c', he, hs, hp, hbl⟩ => ⟨a', c', he, hs, fun p hpp hl => ?_, trivial, hbl⟩
    have h0 : Nat.gcd (vB a) (vB b) ≠ 0 := fun e => by rw [e, dgs_zero] at hl; exact absurd hl (by decide)
    rcases hp p hpp h0 with ⟨h, h2⟩ | ⟨h, h2⟩ | h
    · exact .inr (.inr ⟨slRow w.heap.size a1 1 ((dgs B32 (vB a)).map lmV), by exact mm, fun k h => h, by rw [List.length_map]; exact dgs_pos_len h2, p, h, rfl, hq1 p h⟩)
    · exact .inr (.inr ⟨slRow w.heap.size a2 1 ((dgs B32 (vB b)).map lmV), by exact mm, fun k h => h, by rw [List.length_map]; exact dgs_pos_len h2, p, h, rfl, hq2 p h⟩)
    · exact .inr (.inl h)
  intro a3 c3 hp3 _
  all_goals (refine go ?_; and_intros <;> (try exact trivial) <;> repeat (first | refine fun (Bk : Nat) => ?_ | intro h))
  repeat' ((first | (apply G.cE (g := 109); rfl; rfl; exact fun w' hw => text_holds _ _ _ w' (by omega) (hw.sl (by exact mm)))) <;> (refine go ?_; and_intros <;> (try exact trivial) <;> repeat (first | refine fun (Bk : Nat) => ?_ | intro h)))
  all_goals refine ret1b Tryz.func51 Tryz.results51 ?_
  all_goals rfl
theorem div_b32 {n : Nat} (h : n < 9223372036854775808) : n / B32 < B32 := by show n / 4294967296 < 4294967296; omega
theorem natInt_holds (n : Nat) (w : World) (h : n < 9223372036854775808) : Calls Tryz.prog 84 #[.int .i64 n] w fun e w' => e = .returned (.tuple #[.string (bs (nB n)), .int .i64 0]) ∧ Below w.heap.size w w' := by
  have ht : trimL [n % B32, n / B32] = dgs B32 n := by
    rw [trimL_eq (b := B32) (by decide) [n % B32, n / B32] (fun d hd => ?_)]
    · congr 1; simp only [vL]; rw [Nat.mul_zero, Nat.add_zero]; exact Nat.mod_add_div n B32
    · simp only [List.mem_cons, List.not_mem_nil, or_false] at hd
      rcases hd with rfl | rfl
      · exact Nat.mod_lt _ (by decide)
      · exact div_b32 h
  have hl : (dgs B32 n).length ≤ 2 := by rw [← ht]; exact trimL_le _
  have hs : (n : Int).fdiv (2 ^ (min 32 IntKind.i64.bits)) = ((n / B32 : Nat) : Int) := shr_n rfl rfl
  have c1 : IntKind.u32.wrap (n : Int) = ((n % B32 : Nat) : Int) := u32_of n
  have c2 : IntKind.u32.wrap ((n / B32 : Nat) : Int) = ((n / B32 : Nat) : Int) := by rw [u32_of]; congr 1; exact Nat.mod_eq_of_lt (div_b32 h)
  generalize n / B32 = nh at *
  generalize n % B32 = nl at *
  refine enterA [(0, .int .i64 n)] Tryz.func84 Tryz.ntmps84 ?_
  repeat' (first | (apply G.shrK (n := 32); rfl; rfl; rfl; exact hs; rfl; rfl; rfl) | (apply G.convK; rfl; exact c1; rfl; rfl; rfl) | (apply G.convK; rfl; exact c2; rfl; rfl; rfl) | (apply G.sliceL; rfl; rfl; rfl; rfl; rfl; rfl; rfl; rfl; intro Bs) | (apply G.cV (g := 140); rfl; rfl; exact fun w' hw => trimD_holds (l := [nl, nh]) hw (by exact mm) rfl ht (by decide) (by decide)) | (apply G.cV (g := 109); rfl; rfl; exact fun w' hw => text_holds _ n _ w' (by omega) (sl_blk (l := [nl, nh]) hw (by exact mm) ht)) | (apply G.pu; rfl; rfl; first | exact trivial | omega) | (apply J.ct; rfl) | (apply G.nil; rfl) | (apply G.cm; rfl; rfl; all_goals intro h; all_goals try (exfalso; omega)) | (apply G.fa; rfl; rfl) | (apply G.ld; rfl; (first | (apply LdV.one; (first | exact CellV.row0 (by assumption) rfl | exact CellV.rowS (by assumption) rfl | exact CellV.rowSS (by assumption) rfl | (apply CellV.blk; exact mm; rfl))) | (apply LdV.aggBlk; exact mm; rfl) | (apply LdV.part; exact mm; rfl; rfl) | (apply LdV.aggRow; assumption; rfl) | (apply LdV.partRow; assumption; rfl; rfl)); rfl) | (apply G.sk; rfl) | (apply G.ls; rfl; rfl) | (apply G.ix; rfl; rfl; rfl; omega; rfl) | (apply G.ix; rfl; rfl; (first | exact sub_one _ | exact add_one' _); omega; rfl) | (apply G.lt; rfl; rfl) | (apply G.bu; rfl; rfl; rfl) | (apply G.fd; rfl; rfl; rfl) | (apply G.cv; rfl; rfl; rfl; omega) | (apply G.beq; rfl; rfl; rfl) | (apply G.bne; rfl; rfl; rfl) | (apply G.mm; rfl; rfl) | (apply G.mf; rfl; rfl) | (apply G.mx; rfl; rfl; rfl) | (apply G.mn; rfl; rfl; rfl) | (apply G.bx; rfl; rfl; rfl; intro Bk) | (apply G.al; rfl; intro Bk) | (apply G.so; rfl; rfl; (repeat (first | exact RAt.head | apply RAt.tail)); rfl; rfl) | (apply G.ss; rfl; rfl; (repeat (first | exact RAt.head | apply RAt.tail)); rfl; rfl) | (apply J.regQ; exact Tryz.mixed; decide +kernel) | (apply J.regL; exact Tryz.mixed; decide +kernel) | apply J.reg)
  all_goals refine ret2b Tryz.func84 Tryz.results84 ?_
  all_goals rfl
end Go.Proofs.YtcdgibkbbcekhaaGreatDoor
/-
  Contracts of the specification of natural numbers: number, Cmp, Add, Sub, Mul.
-/
namespace Go.Proofs.YtcdgibkbbcekhaaGreatDoor
open Go.RowKit Go.Sl Go.Num
theorem nB_len_le {m n : Nat} (h : m ≤ n) : (nB m).length ≤ (nB n).length := by
  simp only [nB, List.length_reverse, List.length_map]
  exact dgs_len_mono (by decide) h
theorem nB_vB_len (a : List UInt8) : (nB (vB a)).length ≤ a.length := nB_bound (vB_lt a)
end Go.Proofs.YtcdgibkbbcekhaaGreatDoor
/-
  Contracts of the rational numbers: Valid, of, lowest, plus, less, times, over.
-/
namespace Go.Proofs.YtcdgibkbbcekhaaGreatDoor
open Go.RowKit Go.Sl Go.Num
theorem nB_one : nB 1 = [1] := by
  have h := nB_vB_of (x := 1) (r := []) (by decide)
  have e : vB [1] = 1 := rfl
  rwa [e] at h
theorem nB_eq_one {n : Nat} : nB n = [1] ↔ n = 1 := ⟨fun h => nB_inj (h.trans nB_one.symm), fun h => by rw [h, nB_one]⟩
theorem ratValid_holds (a : Q3) (w : World) (h1 : a.num.length ≤ 536870912) (h2 : a.den.length ≤ 536870912) :
    Calls Tryz.prog 12 #[qA a] w fun e w' => e = .returned (.bool (decide (validQ a))) ∧ Below w.heap.size w w' := by
  have hvn := fun w' => natValid_holds a.num w'
  have hvd := fun w' => natValid_holds a.den w'
  have hg := fun w' => natGcd_holds a.num a.den w' h1 h2
  refine enterA [(0, qA a)] Tryz.func12 Tryz.ntmps12 ?_
  by_cases hz : a = zero3
  · rw [decide_eq_true (show validQ a from .inl hz)]
    all_goals (refine go ?_; and_intros <;> (try exact trivial) <;> repeat (first | refine fun (Bk : Nat) => ?_ | intro h))
    repeat' ((first | (apply G.eqR a zero3; rfl; rfl; rfl; all_goals intro h; all_goals try (exact absurd hz h))) <;> (refine go ?_; and_intros <;> (try exact trivial) <;> repeat (first | refine fun (Bk : Nat) => ?_ | intro h)))
    all_goals refine ret1b Tryz.func12 Tryz.results12 ?_
    all_goals rfl
  have key : validQ a ↔ (a.num ≠ [] ∧ a.den ≠ [] ∧ nB (vB a.num) = a.num ∧ nB (vB a.den) = a.den ∧ Nat.gcd (vB a.num) (vB a.den) = 1) := ⟨fun h => h.resolve_left hz, .inr⟩
  generalize hr : decide (validQ a) = r
  obtain ⟨s, n, d⟩ := a
  dsimp only at *
  by_cases c1 : n = []
  · rw [show r = false from hr ▸ decide_eq_false (fun h => (key.1 h).1 c1)]
    all_goals (refine go ?_; and_intros <;> (try exact trivial) <;> repeat (first | refine fun (Bk : Nat) => ?_ | intro h))
    repeat' ((first | (apply G.eqR ⟨s, n, d⟩ zero3; rfl; rfl; rfl; all_goals intro h; all_goals try (exact absurd h hz)) | (apply G.neqStr; rfl; rfl; rfl; rfl; rfl; all_goals intro h; all_goals try (first | exact absurd h (by assumption) | exact absurd (by assumption) h))) <;> (refine go ?_; and_intros <;> (try exact trivial) <;> repeat (first | refine fun (Bk : Nat) => ?_ | intro h)))
    all_goals refine ret1b Tryz.func12 Tryz.results12 ?_
    all_goals rfl
  by_cases c2 : d = []
  · rw [show r = false from hr ▸ decide_eq_false (fun h => (key.1 h).2.1 c2)]
    all_goals (refine go ?_; and_intros <;> (try exact trivial) <;> repeat (first | refine fun (Bk : Nat) => ?_ | intro h))
    repeat' ((first | (apply G.eqR ⟨s, n, d⟩ zero3; rfl; rfl; rfl; all_goals intro h; all_goals try (exact absurd h hz)) | (apply G.neqStr; rfl; rfl; rfl; rfl; rfl; all_goals intro h; all_goals try (first | exact absurd h (by assumption) | exact absurd (by assumption) h))) <;> (refine go ?_; and_intros <;> (try exact trivial) <;> repeat (first | refine fun (Bk : Nat) => ?_ | intro h)))
    all_goals refine ret1b Tryz.func12 Tryz.results12 ?_
    all_goals rfl
  by_cases c3 : nB (vB n) = n
  · rw [decide_eq_true c3] at hvn
    by_cases c4 : nB (vB d) = d
    · rw [decide_eq_true c4] at hvd
      by_cases c5 : Nat.gcd (vB n) (vB d) = 1
      · have c6 : nB (Nat.gcd (vB n) (vB d)) = [1] := nB_eq_one.2 c5
        rw [show r = true from hr ▸ decide_eq_true (key.2 ⟨c1, c2, c3, c4, c5⟩)]
        all_goals (refine go ?_; and_intros <;> (try exact trivial) <;> repeat (first | refine fun (Bk : Nat) => ?_ | intro h))
        repeat' ((first | (apply G.eqR ⟨s, n, d⟩ zero3; rfl; rfl; rfl; all_goals intro h; all_goals try (exact absurd h hz)) | (apply G.neqStr; rfl; rfl; rfl; rfl; rfl; all_goals intro h; all_goals try (first | exact absurd h (by assumption) | exact absurd (by assumption) h)) | (apply G.eqlStr; rfl; rfl; rfl; rfl; rfl; all_goals intro h; all_goals try (first | exact absurd h (by assumption) | exact absurd (by assumption) h)) | (apply G.cV (g := 50) (vs := [.string (bs n)]); rfl; rfl; exact fun w' _ => hvn w') | (apply G.cV (g := 50) (vs := [.string (bs d)]); rfl; rfl; exact fun w' _ => hvd w') | (apply G.cV (g := 51); rfl; rfl; exact fun w' _ => hg w')) <;> (refine go ?_; and_intros <;> (try exact trivial) <;> repeat (first | refine fun (Bk : Nat) => ?_ | intro h)))
        all_goals refine ret1b Tryz.func12 Tryz.results12 ?_
        all_goals rfl
      · have c6 : nB (Nat.gcd (vB n) (vB d)) ≠ [1] := fun e => c5 (nB_eq_one.1 e)
        rw [show r = false from hr ▸ decide_eq_false (fun h => c5 (key.1 h).2.2.2.2)]
        all_goals (refine go ?_; and_intros <;> (try exact trivial) <;> repeat (first | refine fun (Bk : Nat) => ?_ | intro h))
        repeat' ((first | (apply G.eqR ⟨s, n, d⟩ zero3; rfl; rfl; rfl; all_goals intro h; all_goals try (exact absurd h hz)) | (apply G.neqStr; rfl; rfl; rfl; rfl; rfl; all_goals intro h; all_goals try (first | exact absurd h (by assumption) | exact absurd (by assumption) h)) | (apply G.eqlStr; rfl; rfl; rfl; rfl; rfl; all_goals intro h; all_goals try (first | exact absurd h (by assumption) | exact absurd (by assumption) h)) | (apply G.cV (g := 50) (vs := [.string (bs n)]); rfl; rfl; exact fun w' _ => hvn w') | (apply G.cV (g := 50) (vs := [.string (bs d)]); rfl; rfl; exact fun w' _ => hvd w') | (apply G.cV (g := 51); rfl; rfl; exact fun w' _ => hg w')) <;> (refine go ?_; and_intros <;> (try exact trivial) <;> repeat (first | refine fun (Bk : Nat) => ?_ | intro h)))
        all_goals refine ret1b Tryz.func12 Tryz.results12 ?_
        all_goals rfl
    · rw [decide_eq_false c4] at hvd
      rw [show r = false from hr ▸ decide_eq_false (fun h => c4 (key.1 h).2.2.2.1)]
      all_goals (refine go ?_; and_intros <;> (try exact trivial) <;> repeat (first | refine fun (Bk : Nat) => ?_ | intro h))
      repeat' ((first | (apply G.eqR ⟨s, n, d⟩ zero3; rfl; rfl; rfl; all_goals intro h; all_goals try (exact absurd h hz)) | (apply G.neqStr; rfl; rfl; rfl; rfl; rfl; all_goals intro h; all_goals try (first | exact absurd h (by assumption) | exact absurd (by assumption) h)) | (apply G.cV (g := 50) (vs := [.string (bs n)]); rfl; rfl; exact fun w' _ => hvn w') | (apply G.cV (g := 50) (vs := [.string (bs d)]); rfl; rfl; exact fun w' _ => hvd w')) <;> (refine go ?_; and_intros <;> (try exact trivial) <;> repeat (first | refine fun (Bk : Nat) => ?_ | intro h)))
      all_goals refine ret1b Tryz.func12 Tryz.results12 ?_
      all_goals rfl
  · rw [decide_eq_false c3] at hvn
    rw [show r = false from hr ▸ decide_eq_false (fun h => c3 (key.1 h).2.2.1)]
    all_goals (refine go ?_; and_intros <;> (try exact trivial) <;> repeat (first | refine fun (Bk : Nat) => ?_ | intro h))
    repeat' ((first | (apply G.eqR ⟨s, n, d⟩ zero3; rfl; rfl; rfl; all_goals intro h; all_goals try (exact absurd h hz)) | (apply G.neqStr; rfl; rfl; rfl; rfl; rfl; all_goals intro h; all_goals try (first | exact absurd h (by assumption) | exact absurd (by assumption) h)) | (apply G.cV (g := 50) (vs := [.string (bs n)]); rfl; rfl; exact fun w' _ => hvn w')) <;> (refine go ?_; and_intros <;> (try exact trivial) <;> repeat (first | refine fun (Bk : Nat) => ?_ | intro h)))
    all_goals refine ret1b Tryz.func12 Tryz.results12 ?_
    all_goals rfl
/-- A fraction as the program holds it. -/
abbrev frA (f : Bool × Nat × Nat) : Value := .agg #[.bool f.1, .string (bs (nB f.2.1)), .string (bs (nB f.2.2))]
theorem ratOf_holds (a : Q3) (w : World) (h1 : a.num.length ≤ 536870912) (h2 : a.den.length ≤ 536870912) :
    Calls Tryz.prog 72 #[qA a] w fun e w' => e = .returned (frA (frac a)) ∧ Below w.heap.size w w' := by
  have hv := fun w' => ratValid_holds a w' h1 h2
  have hf0 : ¬ (validQ a ∧ a.num ≠ []) → frA (frac a) = .agg #[.bool false, .string (bs []), .string (bs [1])] := fun h => by
    rw [frac, if_neg h]; simp only [frA, nB_zero, nB_one]
  have hf1 : validQ a ∧ a.num ≠ [] → frA (frac a) = .agg #[.bool a.neg, .string (bs a.num), .string (bs a.den)] := fun h => by
    rw [frac, if_pos h]
    rcases h.1 with e | ⟨_, _, e1, e2, _⟩
    · exact absurd (by rw [e]; rfl) h.2
    · simp only [frA, e1, e2]
  refine enterA [(0, qA a)] Tryz.func72 Tryz.ntmps72 ?_
  by_cases c1 : a.num = []
  · rw [hf0 (fun h => h.2 c1)]
    all_goals (refine go ?_; and_intros <;> (try exact trivial) <;> repeat (first | refine fun (Bk : Nat) => ?_ | intro h))
    repeat' ((first | (apply G.eqlStr; rfl; rfl; rfl; rfl; rfl; all_goals intro h; all_goals try (first | exact absurd h (by assumption) | exact absurd (by assumption) h))) <;> (refine go ?_; and_intros <;> (try exact trivial) <;> repeat (first | refine fun (Bk : Nat) => ?_ | intro h)))
    all_goals refine ret1b Tryz.func72 Tryz.results72 ?_
    all_goals rfl
  by_cases c2 : validQ a
  · rw [hf1 ⟨c2, c1⟩]
    rw [decide_eq_true c2] at hv
    all_goals (refine go ?_; and_intros <;> (try exact trivial) <;> repeat (first | refine fun (Bk : Nat) => ?_ | intro h))
    repeat' ((first | (apply G.eqlStr; rfl; rfl; rfl; rfl; rfl; all_goals intro h; all_goals try (first | exact absurd h (by assumption) | exact absurd (by assumption) h)) | (apply G.cV (g := 12); rfl; rfl; exact fun w' _ => hv w')) <;> (refine go ?_; and_intros <;> (try exact trivial) <;> repeat (first | refine fun (Bk : Nat) => ?_ | intro h)))
    all_goals refine ret1b Tryz.func72 Tryz.results72 ?_
    all_goals rfl
  · rw [hf0 (fun h => c2 h.1)]
    rw [decide_eq_false c2] at hv
    all_goals (refine go ?_; and_intros <;> (try exact trivial) <;> repeat (first | refine fun (Bk : Nat) => ?_ | intro h))
    repeat' ((first | (apply G.eqlStr; rfl; rfl; rfl; rfl; rfl; all_goals intro h; all_goals try (first | exact absurd h (by assumption) | exact absurd (by assumption) h)) | (apply G.cV (g := 12); rfl; rfl; exact fun w' _ => hv w')) <;> (refine go ?_; and_intros <;> (try exact trivial) <;> repeat (first | refine fun (Bk : Nat) => ?_ | intro h)))
    all_goals refine ret1b Tryz.func72 Tryz.results72 ?_
    all_goals rfl
/-- The lengths of a fraction's parts. -/
def fLe (f : Bool × Nat × Nat) (k : Nat) : Prop := (nB f.2.1).length ≤ k ∧ (nB f.2.2).length ≤ k
theorem lowest_holds (f : Bool × Nat × Nat) (w : World) (hl : fLe f 536870912) (hd : f.2.2 ≠ 0) :
    Calls Tryz.prog 125 #[frA f] w fun e w' => e = .returned (qA (rQ (ofF f.1 f.2.1 f.2.2))) ∧ Below w.heap.size w w' := by
  obtain ⟨s, n, d⟩ := f
  obtain ⟨h1, h2⟩ := hl
  dsimp only at h1 h2 hd ⊢
  have hg := fun w' => natGcd_holds (nB n) (nB d) w' h1 h2
  have hg0 : Nat.gcd n d ≠ 0 := fun e => hd (Nat.eq_zero_of_gcd_eq_zero_right e)
  have hgl : (nB (Nat.gcd n d)).length ≤ 536870912 := Nat.le_trans (nB_len_le (Nat.gcd_le_right _ (by omega))) h2
  have hn := fun w' => natDivMod_holds (nB n) (nB (Nat.gcd n d)) w' h1 hgl (by rw [vB_nB]; exact hg0)
  have hdd := fun w' => natDivMod_holds (nB d) (nB (Nat.gcd n d)) w' h2 hgl (by rw [vB_nB]; exact hg0)
  simp only [vB_nB] at hg hn hdd
  rw [rQ_ofF hd]
  refine enterA [(0, frA (s, n, d))] Tryz.func125 Tryz.ntmps125 ?_
  by_cases c1 : n = 0
  · subst c1
    rw [if_pos rfl]
    have c2 : nB 0 = [] := nB_zero
    all_goals (refine go ?_; and_intros <;> (try exact trivial) <;> repeat (first | refine fun (Bk : Nat) => ?_ | intro h))
    repeat' ((first | (apply G.eqlStr; rfl; rfl; rfl; rfl; rfl; all_goals intro h; all_goals try (first | exact absurd h (by assumption) | exact absurd (by assumption) h))) <;> (refine go ?_; and_intros <;> (try exact trivial) <;> repeat (first | refine fun (Bk : Nat) => ?_ | intro h)))
    all_goals refine ret1b Tryz.func125 Tryz.results125 ?_
    all_goals rfl
  · rw [if_neg c1]
    have c2 : nB n ≠ [] := fun e => c1 (nB_nil.1 e)
    all_goals (refine go ?_; and_intros <;> (try exact trivial) <;> repeat (first | refine fun (Bk : Nat) => ?_ | intro h))
    repeat' ((first | (apply G.eqlStr; rfl; rfl; rfl; rfl; rfl; all_goals intro h; all_goals try (first | exact absurd h (by assumption) | exact absurd (by assumption) h)) | (apply G.cV (g := 51); rfl; rfl; exact fun w' _ => hg w') | (apply G.cV (g := 85) (vs := [.string (bs (nB n)), .string (bs (nB (Nat.gcd n d)))]); rfl; rfl; exact fun w' _ => hn w') | (apply G.cV (g := 85) (vs := [.string (bs (nB d)), .string (bs (nB (Nat.gcd n d)))]); rfl; rfl; exact fun w' _ => hdd w')) <;> (refine go ?_; and_intros <;> (try exact trivial) <;> repeat (first | refine fun (Bk : Nat) => ?_ | intro h)))
    all_goals refine ret1b Tryz.func125 Tryz.results125 ?_
    all_goals rfl
end Go.Proofs.YtcdgibkbbcekhaaGreatDoor
/-
  Contracts of the rational numbers: plus, less, times, over, do, Add, Sub, Mul, Cmp, Make, Int.
-/
namespace Go.Proofs.YtcdgibkbbcekhaaGreatDoor
open Go.RowKit Go.Sl Go.Num
theorem nB_lt_pow {n k : Nat} (h : (nB n).length ≤ k) : n < 256 ^ k := by
  have := vB_lt (nB n)
  rw [vB_nB] at this
  exact Nat.lt_of_lt_of_le this (Nat.pow_le_pow_right (by decide) h)
theorem nB_mul {m n k l : Nat} (h1 : (nB m).length ≤ k) (h2 : (nB n).length ≤ l) : (nB (m * n)).length ≤ k + l := by
  refine nB_bound ?_
  rw [Nat.pow_add]
  exact Nat.mul_lt_mul'' (nB_lt_pow h1) (nB_lt_pow h2)
theorem nB_add {m n k : Nat} (h1 : (nB m).length ≤ k) (h2 : (nB n).length ≤ k) : (nB (m + n)).length ≤ k + 1 := by
  refine nB_bound ?_
  have a1 := nB_lt_pow h1
  have a2 := nB_lt_pow h2
  rw [Nat.pow_succ]
  omega
theorem plus_f (f g : Bool × Nat × Nat) (w : World) (hf : fLe f 134217728) (hg : fLe g 134217728) :
    Calls Tryz.prog 73 #[frA f, frA g] w fun e w' => e = .returned (frA (fplus f.1 f.2.1 f.2.2 g.1 g.2.1 g.2.2)) ∧ Below w.heap.size w w' := by
  obtain ⟨s, n, d⟩ := f
  obtain ⟨t, m, e⟩ := g
  obtain ⟨h1, h2⟩ := hf
  obtain ⟨h3, h4⟩ := hg
  dsimp only at h1 h2 h3 h4 ⊢
  have m1 := fun w' => natMul_holds (nB n) (nB e) w' (by omega) (by omega)
  have m2 := fun w' => natMul_holds (nB m) (nB d) w' (by omega) (by omega)
  have m3 := fun w' => natMul_holds (nB d) (nB e) w' (by omega) (by omega)
  have l1 := nB_mul h1 h4
  have l2 := nB_mul h3 h2
  have ad := fun w' => natAdd_holds (nB (n * e)) (nB (m * d)) w' (by omega) (by omega)
  have cm := fun w' => natCmp_holds (nB (n * e)) (nB (m * d)) w' (by omega) (by omega)
  have s1 := fun (h : n * e ≤ m * d) w' => natSub_holds (nB (m * d)) (nB (n * e)) w' (by omega) (by omega) (by rw [vB_nB, vB_nB]; exact h)
  have s2 := fun (h : m * d ≤ n * e) w' => natSub_holds (nB (n * e)) (nB (m * d)) w' (by omega) (by omega) (by rw [vB_nB, vB_nB]; exact h)
  simp only [vB_nB] at m1 m2 m3 ad cm s1 s2
  rw [fplus]
  refine enterA [(0, frA (s, n, d)), (1, frA (t, m, e))] Tryz.func73 Tryz.ntmps73 ?_
  by_cases hst : s = t
  · subst hst
    rw [if_pos rfl]
    cases s <;> skip
    all_goals clear cm s1 s2
    all_goals (refine go ?_; and_intros <;> (try exact trivial) <;> repeat (first | refine fun (Bk : Nat) => ?_ | intro h))
    repeat' ((first | (apply G.cV (g := 43) (vs := [.string (bs (nB n)), .string (bs (nB e))]); rfl; rfl; exact fun w' _ => m1 w') | (apply G.cV (g := 43) (vs := [.string (bs (nB m)), .string (bs (nB d))]); rfl; rfl; exact fun w' _ => m2 w') | (apply G.cV (g := 43) (vs := [.string (bs (nB d)), .string (bs (nB e))]); rfl; rfl; exact fun w' _ => m3 w') | (apply G.cV (g := 133); rfl; rfl; exact fun w' _ => ad w')) <;> (refine go ?_; and_intros <;> (try exact trivial) <;> repeat (first | refine fun (Bk : Nat) => ?_ | intro h)))
    all_goals refine ret1b Tryz.func73 Tryz.results73 ?_
    all_goals rfl
  rw [if_neg hst]
  have ht : t = !s := by cases s <;> cases t <;> simp_all
  subst ht
  by_cases hlt : n * e < m * d
  · rw [if_pos hlt]
    have s1 := s1 (by omega)
    rw [cmpI_lt (by omega)] at cm
    clear s2 hst
    cases s <;> skip
    all_goals (refine go ?_; and_intros <;> (try exact trivial) <;> repeat (first | refine fun (Bk : Nat) => ?_ | intro h))
    repeat' ((first | (apply G.cV (g := 43) (vs := [.string (bs (nB n)), .string (bs (nB e))]); rfl; rfl; exact fun w' _ => m1 w') | (apply G.cV (g := 43) (vs := [.string (bs (nB m)), .string (bs (nB d))]); rfl; rfl; exact fun w' _ => m2 w') | (apply G.cV (g := 43) (vs := [.string (bs (nB d)), .string (bs (nB e))]); rfl; rfl; exact fun w' _ => m3 w') | (apply G.cV (g := 46); rfl; rfl; exact fun w' _ => cm w') | (apply G.cV (g := 134); rfl; rfl; exact fun w' _ => s1 w')) <;> (refine go ?_; and_intros <;> (try exact trivial) <;> repeat (first | refine fun (Bk : Nat) => ?_ | intro h)))
    all_goals refine ret1b Tryz.func73 Tryz.results73 ?_
    all_goals rfl
  · rw [if_neg hlt]
    have s2 := s2 (by omega)
    have hc0 : 0 ≤ cmpI ((n * e : Nat) : Int) ((m * d : Nat) : Int) := by
      rcases Nat.lt_or_ge (m * d) (n * e) with h | h
      · rw [cmpI_gt (by omega)]; decide
      · rw [show n * e = m * d by omega, cmpI_eq]; decide
    generalize cmpI ((n * e : Nat) : Int) ((m * d : Nat) : Int) = cc at *
    clear s1 hst
    cases s <;> skip
    all_goals (refine go ?_; and_intros <;> (try exact trivial) <;> repeat (first | refine fun (Bk : Nat) => ?_ | intro h))
    repeat' ((first | (apply G.cV (g := 43) (vs := [.string (bs (nB n)), .string (bs (nB e))]); rfl; rfl; exact fun w' _ => m1 w') | (apply G.cV (g := 43) (vs := [.string (bs (nB m)), .string (bs (nB d))]); rfl; rfl; exact fun w' _ => m2 w') | (apply G.cV (g := 43) (vs := [.string (bs (nB d)), .string (bs (nB e))]); rfl; rfl; exact fun w' _ => m3 w') | (apply G.cV (g := 46); rfl; rfl; exact fun w' _ => cm w') | (apply G.cV (g := 134); rfl; rfl; exact fun w' _ => s2 w')) <;> (refine go ?_; and_intros <;> (try exact trivial) <;> repeat (first | refine fun (Bk : Nat) => ?_ | intro h)))
    all_goals refine ret1b Tryz.func73 Tryz.results73 ?_
    all_goals rfl
theorem fplus_le {f g : Bool × Nat × Nat} {k : Nat} (hf : fLe f k) (hg : fLe g k) : fLe (fplus f.1 f.2.1 f.2.2 g.1 g.2.1 g.2.2) (k + k + 1) := by
  obtain ⟨s, n, d⟩ := f
  obtain ⟨t, m, e⟩ := g
  obtain ⟨h1, h2⟩ := hf
  obtain ⟨h3, h4⟩ := hg
  dsimp only at h1 h2 h3 h4
  have l1 := nB_mul h1 h4
  have l2 := nB_mul h3 h2
  have l3 := nB_mul h2 h4
  rw [fplus]
  split
  · exact ⟨nB_add l1 l2, Nat.le_succ_of_le l3⟩
  · split
    · exact ⟨Nat.le_succ_of_le (Nat.le_trans (nB_len_le (Nat.sub_le _ _)) l2), Nat.le_succ_of_le l3⟩
    · exact ⟨Nat.le_succ_of_le (Nat.le_trans (nB_len_le (Nat.sub_le _ _)) l1), Nat.le_succ_of_le l3⟩
theorem less_f (f g : Bool × Nat × Nat) (w : World) (hf : fLe f 134217728) (hg : fLe g 134217728) :
    Calls Tryz.prog 74 #[frA f, frA g] w fun e w' => e = .returned (frA (fplus f.1 f.2.1 f.2.2 (!g.1) g.2.1 g.2.2)) ∧ Below w.heap.size w w' := by
  obtain ⟨t, m, e⟩ := g
  have hp := fun w' => plus_f f (!t, m, e) w' hf hg
  dsimp only at hp ⊢
  generalize fplus f.1 f.2.1 f.2.2 (!t) m e = r at *
  obtain ⟨s, n, d⟩ := f
  refine enterA [(0, frA (s, n, d)), (1, frA (t, m, e))] Tryz.func74 Tryz.ntmps74 ?_
  cases t
  all_goals skip
  all_goals (refine go ?_; and_intros <;> (try exact trivial) <;> repeat (first | refine fun (Bk : Nat) => ?_ | intro h))
  repeat' ((first | (apply G.cV (g := 73); rfl; rfl; exact fun w' _ => hp w')) <;> (refine go ?_; and_intros <;> (try exact trivial) <;> repeat (first | refine fun (Bk : Nat) => ?_ | intro h)))
  all_goals refine ret1b Tryz.func74 Tryz.results74 ?_
  all_goals rfl
def ftimes (f g : Bool × Nat × Nat) : Bool × Nat × Nat := (f.1 != g.1, f.2.1 * g.2.1, f.2.2 * g.2.2)
theorem times_f (f g : Bool × Nat × Nat) (w : World) (hf : fLe f 134217728) (hg : fLe g 134217728) :
    Calls Tryz.prog 75 #[frA f, frA g] w fun e w' => e = .returned (frA (ftimes f g)) ∧ Below w.heap.size w w' := by
  obtain ⟨s, n, d⟩ := f
  obtain ⟨t, m, e⟩ := g
  obtain ⟨h1, h2⟩ := hf
  obtain ⟨h3, h4⟩ := hg
  dsimp only at h1 h2 h3 h4 ⊢
  have m1 := fun w' => natMul_holds (nB n) (nB m) w' (by omega) (by omega)
  have m2 := fun w' => natMul_holds (nB d) (nB e) w' (by omega) (by omega)
  simp only [vB_nB] at m1 m2
  refine enterA [(0, frA (s, n, d)), (1, frA (t, m, e))] Tryz.func75 Tryz.ntmps75 ?_
  all_goals (refine go ?_; and_intros <;> (try exact trivial) <;> repeat (first | refine fun (Bk : Nat) => ?_ | intro h))
  repeat' ((first | (apply G.cV (g := 43) (vs := [.string (bs (nB n)), .string (bs (nB m))]); rfl; rfl; exact fun w' _ => m1 w') | (apply G.cV (g := 43) (vs := [.string (bs (nB d)), .string (bs (nB e))]); rfl; rfl; exact fun w' _ => m2 w')) <;> (refine go ?_; and_intros <;> (try exact trivial) <;> repeat (first | refine fun (Bk : Nat) => ?_ | intro h)))
  all_goals refine ret1b Tryz.func75 Tryz.results75 ?_
  all_goals rfl
theorem over_f (f g : Bool × Nat × Nat) (w : World) (hf : fLe f 134217728) (hg : fLe g 134217728) :
    Calls Tryz.prog 131 #[frA f, frA g] w fun e w' => e = .returned (frA (ftimes f (g.1, g.2.2, g.2.1))) ∧ Below w.heap.size w w' := by
  obtain ⟨t, m, e⟩ := g
  have hp := fun w' => times_f f (t, e, m) w' hf ⟨hg.2, hg.1⟩
  dsimp only at hp ⊢
  generalize ftimes f (t, e, m) = r at *
  obtain ⟨s, n, d⟩ := f
  refine enterA [(0, frA (s, n, d)), (1, frA (t, m, e))] Tryz.func131 Tryz.ntmps131 ?_
  all_goals (refine go ?_; and_intros <;> (try exact trivial) <;> repeat (first | refine fun (Bk : Nat) => ?_ | intro h))
  repeat' ((first | (apply G.cV (g := 75); rfl; rfl; exact fun w' _ => hp w')) <;> (refine go ?_; and_intros <;> (try exact trivial) <;> repeat (first | refine fun (Bk : Nat) => ?_ | intro h)))
  all_goals refine ret1b Tryz.func131 Tryz.results131 ?_
  all_goals rfl
theorem do_holds (g : FuncId) [Fun Tryz.prog g] (F : Value) (b : Q3) (r : Bool × Nat × Nat) (w : World) (h1 : b.num.length ≤ 536870912) (h2 : b.den.length ≤ 536870912) (hop : ∀ w', Calls Tryz.prog g #[F, frA (frac b)] w' fun e w2 => e = .returned (frA r) ∧ Below w'.heap.size w' w2) (hr : fLe r 536870912) (hd : r.2.2 ≠ 0) :
    Calls Tryz.prog 71 #[.func (.func g) #[F] #[], qA b] w fun e w' => e = .returned (qA (rQ (ofF r.1 r.2.1 r.2.2))) ∧ Below w.heap.size w w' := by
  have hof := fun w' => ratOf_holds b w' h1 h2
  have hlo := fun w' => lowest_holds r w' hr hd
  have hop' : ∀ w', Calls Tryz.prog g (#[F] ++ [frA (frac b)].toArray) w' fun e w2 => e = .returned (frA r) ∧ Below w'.heap.size w' w2 := fun w' => by simpa using hop w'
  refine enterA [(0, .func (.func g) #[F] #[]), (1, qA b)] Tryz.func71 Tryz.ntmps71 ?_
  all_goals (refine go ?_; and_intros <;> (try exact trivial) <;> repeat (first | refine fun (Bk : Nat) => ?_ | intro h))
  repeat' ((first | (apply G.cV (g := 72); rfl; rfl; exact fun w' _ => hof w') | (apply G.cVm (g := g) (v := frA r); rfl; rfl; rfl; exact fun w' _ => hop' w') | (apply G.cV (g := 125); rfl; rfl; exact fun w' _ => hlo w')) <;> (refine go ?_; and_intros <;> (try exact trivial) <;> repeat (first | refine fun (Bk : Nat) => ?_ | intro h)))
  all_goals refine ret1b Tryz.func71 Tryz.results71 ?_
  all_goals rfl
theorem frac_le {a : Q3} {k : Nat} (h1 : a.num.length ≤ k) (h2 : a.den.length ≤ k) (hk : 1 ≤ k) : fLe (frac a) k := by
  rw [frac]
  split
  · exact ⟨Nat.le_trans (nB_vB_len _) h1, Nat.le_trans (nB_vB_len _) h2⟩
  · refine ⟨?_, ?_⟩
    · show (nB 0).length ≤ k
      rw [nB_zero]; exact Nat.zero_le _
    · show (nB 1).length ≤ k
      rw [nB_one]; exact hk
theorem ratAdd_holds (a b : Q3) (w : World) (h1 : a.num.length ≤ 134217728) (h2 : a.den.length ≤ 134217728) (h3 : b.num.length ≤ 134217728) (h4 : b.den.length ≤ 134217728) :
    Calls Tryz.prog 15 #[qA a, qA b] w fun e w' => e = .returned (qA (rQ (qR a + qR b))) ∧ Below w.heap.size w w' := by
  have hfa := frac_le h1 h2 (by decide)
  have hfb := frac_le h3 h4 (by decide)
  obtain ⟨e1, d1⟩ := frac_eq a
  obtain ⟨e2, d2⟩ := frac_eq b
  obtain ⟨e3, d3⟩ := fplus_eq (s := (frac a).1) (t := (frac b).1) (n := (frac a).2.1) (m := (frac b).2.1) d1 d2
  have hle := fplus_le hfa hfb
  have hof := fun w' => ratOf_holds a w' (by omega) (by omega)
  have hdo := fun w' => do_holds 73 (frA (frac a)) b _ w' (by omega) (by omega) (fun w2 => plus_f (frac a) (frac b) w2 hfa hfb) ⟨Nat.le_trans hle.1 (by decide), Nat.le_trans hle.2 (by decide)⟩ d3
  rw [e3, e1, e2] at hdo
  refine enterA [(0, qA a), (1, qA b)] Tryz.func15 Tryz.ntmps15 ?_
  all_goals (refine go ?_; and_intros <;> (try exact trivial) <;> repeat (first | refine fun (Bk : Nat) => ?_ | intro h))
  repeat' ((first | (apply G.cV (g := 72); rfl; rfl; exact fun w' _ => hof w') | (apply G.cV (g := 71); rfl; rfl; exact fun w' _ => hdo w')) <;> (refine go ?_; and_intros <;> (try exact trivial) <;> repeat (first | refine fun (Bk : Nat) => ?_ | intro h)))
  all_goals refine ret1b Tryz.func15 Tryz.results15 ?_
  all_goals rfl
theorem ratSub_holds (a b : Q3) (w : World) (h1 : a.num.length ≤ 134217728) (h2 : a.den.length ≤ 134217728) (h3 : b.num.length ≤ 134217728) (h4 : b.den.length ≤ 134217728) :
    Calls Tryz.prog 67 #[qA a, qA b] w fun e w' => e = .returned (qA (rQ (qR a - qR b))) ∧ Below w.heap.size w w' := by
  have hfa := frac_le h1 h2 (by decide)
  have hfb := frac_le h3 h4 (by decide)
  obtain ⟨e1, d1⟩ := frac_eq a
  obtain ⟨e2, d2⟩ := frac_eq b
  obtain ⟨e3, d3⟩ := fplus_eq (s := (frac a).1) (t := !(frac b).1) (n := (frac a).2.1) (m := (frac b).2.1) d1 d2
  have hle := fplus_le (g := (!(frac b).1, (frac b).2.1, (frac b).2.2)) hfa hfb
  have hof := fun w' => ratOf_holds a w' (by omega) (by omega)
  have hdo := fun w' => do_holds 74 (frA (frac a)) b _ w' (by omega) (by omega) (fun w2 => less_f (frac a) (frac b) w2 hfa hfb) ⟨Nat.le_trans hle.1 (by decide), Nat.le_trans hle.2 (by decide)⟩ d3
  rw [e3, e1, ← ofF_neg, e2, ← Rat.sub_eq_add_neg] at hdo
  refine enterA [(0, qA a), (1, qA b)] Tryz.func67 Tryz.ntmps67 ?_
  all_goals (refine go ?_; and_intros <;> (try exact trivial) <;> repeat (first | refine fun (Bk : Nat) => ?_ | intro h))
  repeat' ((first | (apply G.cV (g := 72); rfl; rfl; exact fun w' _ => hof w') | (apply G.cV (g := 71); rfl; rfl; exact fun w' _ => hdo w')) <;> (refine go ?_; and_intros <;> (try exact trivial) <;> repeat (first | refine fun (Bk : Nat) => ?_ | intro h)))
  all_goals refine ret1b Tryz.func67 Tryz.results67 ?_
  all_goals rfl
theorem ftimes_le {f g : Bool × Nat × Nat} {k l : Nat} (hf : fLe f k) (hg : fLe g l) : fLe (ftimes f g) (k + l) := ⟨nB_mul hf.1 hg.1, nB_mul hf.2 hg.2⟩
theorem ratMul_holds (a b : Q3) (w : World) (h1 : a.num.length ≤ 134217728) (h2 : a.den.length ≤ 134217728) (h3 : b.num.length ≤ 134217728) (h4 : b.den.length ≤ 134217728) :
    Calls Tryz.prog 17 #[qA a, qA b] w fun e w' => e = .returned (qA (rQ (qR a * qR b))) ∧ Below w.heap.size w w' := by
  have hfa := frac_le h1 h2 (by decide)
  have hfb := frac_le h3 h4 (by decide)
  obtain ⟨e1, d1⟩ := frac_eq a
  obtain ⟨e2, d2⟩ := frac_eq b
  have hle := ftimes_le hfa hfb
  have hof := fun w' => ratOf_holds a w' (by omega) (by omega)
  have hdo := fun w' => do_holds 75 (frA (frac a)) b _ w' (by omega) (by omega) (fun w2 => times_f (frac a) (frac b) w2 hfa hfb) ⟨Nat.le_trans hle.1 (by decide), Nat.le_trans hle.2 (by decide)⟩ (Nat.mul_ne_zero d1 d2)
  have e3 : ofF (ftimes (frac a) (frac b)).1 (ftimes (frac a) (frac b)).2.1 (ftimes (frac a) (frac b)).2.2 = qR a * qR b := by
    rw [← e1, ← e2, ofF_times]; rfl
  rw [e3] at hdo
  refine enterA [(0, qA a), (1, qA b)] Tryz.func17 Tryz.ntmps17 ?_
  all_goals (refine go ?_; and_intros <;> (try exact trivial) <;> repeat (first | refine fun (Bk : Nat) => ?_ | intro h))
  repeat' ((first | (apply G.cV (g := 72); rfl; rfl; exact fun w' _ => hof w') | (apply G.cV (g := 71); rfl; rfl; exact fun w' _ => hdo w')) <;> (refine go ?_; and_intros <;> (try exact trivial) <;> repeat (first | refine fun (Bk : Nat) => ?_ | intro h)))
  all_goals refine ret1b Tryz.func17 Tryz.results17 ?_
  all_goals rfl
end Go.Proofs.YtcdgibkbbcekhaaGreatDoor
/-
  Contracts of the rational numbers: Cmp, inside, integer, Make, Int.
-/
namespace Go.Proofs.YtcdgibkbbcekhaaGreatDoor
open Go.RowKit Go.Sl Go.Num
theorem ratCmp_holds (a b : Q3) (w : World) (h1 : a.num.length ≤ 134217728) (h2 : a.den.length ≤ 134217728) (h3 : b.num.length ≤ 134217728) (h4 : b.den.length ≤ 134217728) :
    Calls Tryz.prog 16 #[qA a, qA b] w fun e w' => e = .returned (.int .i64 (sgnR (qR a - qR b))) ∧ Below w.heap.size w w' := by
  have hfa := frac_le h1 h2 (by decide)
  have hfb := frac_le h3 h4 (by decide)
  obtain ⟨e1, d1⟩ := frac_eq a
  obtain ⟨e2, d2⟩ := frac_eq b
  obtain ⟨e3, d3⟩ := fplus_eq (s := (frac a).1) (t := !(frac b).1) (n := (frac a).2.1) (m := (frac b).2.1) d1 d2
  have hoa := fun w' => ratOf_holds a w' (by omega) (by omega)
  have hob := fun w' => ratOf_holds b w' (by omega) (by omega)
  have hle := fun w' => less_f (frac a) (frac b) w' hfa hfb
  rw [e1, ← ofF_neg, e2, ← Rat.sub_eq_add_neg] at e3
  rw [← e3, sgn_ofF d3]
  generalize fplus (frac a).1 (frac a).2.1 (frac a).2.2 (!(frac b).1) (frac b).2.1 (frac b).2.2 = r at *
  obtain ⟨s, n, d⟩ := r
  dsimp only at d3 ⊢
  refine enterA [(0, qA a), (1, qA b)] Tryz.func16 Tryz.ntmps16 ?_
  by_cases hn : n = 0
  · have c1 : nB n = [] := nB_nil.2 hn
    rw [if_pos hn]
    all_goals (refine go ?_; and_intros <;> (try exact trivial) <;> repeat (first | refine fun (Bk : Nat) => ?_ | intro h))
    repeat' ((first | (apply J.regA (.q 0 <| .q 1 <| .q 2 <| .q 3 <| .q 4 <| .e 5 <| .r 6 <| .nil); exact Tryz.mixed; decide +kernel) | (apply G.eqlStr; rfl; rfl; rfl; rfl; rfl; all_goals intro h; all_goals try (first | exact absurd h (by assumption) | exact absurd (by assumption) h)) | (apply G.cV (g := 72) (vs := [qA a]); rfl; rfl; exact fun w' _ => hoa w') | (apply G.cV (g := 72) (vs := [qA b]); rfl; rfl; exact fun w' _ => hob w') | (apply G.cV (g := 74); rfl; rfl; exact fun w' _ => hle w')) <;> (refine go ?_; and_intros <;> (try exact trivial) <;> repeat (first | refine fun (Bk : Nat) => ?_ | intro h)))
    all_goals refine ret1b Tryz.func16 Tryz.results16 ?_
    all_goals rfl
  · have c1 : nB n ≠ [] := fun e => hn (nB_nil.1 e)
    rw [if_neg hn]
    cases s
    all_goals skip
    all_goals (refine go ?_; and_intros <;> (try exact trivial) <;> repeat (first | refine fun (Bk : Nat) => ?_ | intro h))
    repeat' ((first | (apply J.regA (.q 0 <| .q 1 <| .q 2 <| .q 3 <| .q 4 <| .e 5 <| .r 6 <| .nil); exact Tryz.mixed; decide +kernel) | (apply G.eqlStr; rfl; rfl; rfl; rfl; rfl; all_goals intro h; all_goals try (first | exact absurd h (by assumption) | exact absurd (by assumption) h)) | (apply G.cV (g := 72) (vs := [qA a]); rfl; rfl; exact fun w' _ => hoa w') | (apply G.cV (g := 72) (vs := [qA b]); rfl; rfl; exact fun w' _ => hob w') | (apply G.cV (g := 74); rfl; rfl; exact fun w' _ => hle w')) <;> (refine go ?_; and_intros <;> (try exact trivial) <;> repeat (first | refine fun (Bk : Nat) => ?_ | intro h)))
    all_goals refine ret1b Tryz.func16 Tryz.results16 ?_
    all_goals rfl
def insideB (n : Int) : Bool := decide (-999999999999999 ≤ n) && decide (n ≤ 999999999999999)
theorem inside_holds (n : Int) (w : World) : Calls Tryz.prog 123 #[.int .i64 n] w fun e w' => e = .returned (.bool (insideB n)) ∧ Below w.heap.size w w' := by
  refine enterA [(0, .int .i64 n)] Tryz.func123 Tryz.ntmps123 ?_
  all_goals (refine go ?_; and_intros <;> (try exact trivial) <;> repeat (first | refine fun (Bk : Nat) => ?_ | intro h))
  all_goals refine ret1b Tryz.func123 Tryz.results123 ?_
  all_goals exact ret_bool (by rw [insideB]; first | (rw [decide_eq_true (by omega), decide_eq_true (by omega)]; rfl) | (rw [decide_eq_false (by omega)]; rfl) | (rw [decide_eq_true (by omega), decide_eq_false (by omega)]; rfl))
theorem insideB_true {n : Int} (h1 : -999999999999999 ≤ n) (h2 : n ≤ 999999999999999) : insideB n = true := by rw [insideB, decide_eq_true h1, decide_eq_true h2]; rfl
theorem integer_holds (n : Int) (w : World) (h1 : -999999999999999 ≤ n) (h2 : n ≤ 999999999999999) :
    Calls Tryz.prog 124 #[.int .i64 n] w fun e w' => e = .returned (frA (decide (n < 0), n.natAbs, 1)) ∧ Below w.heap.size w w' := by
  have hm : max n (-n) = ((n.natAbs : Nat) : Int) := by omega
  have hi := fun w' => natInt_holds n.natAbs w' (by omega)
  have hf : frA (decide (n < 0), n.natAbs, 1) = .agg #[.bool (decide (n < 0)), .string (bs (nB n.natAbs)), .string (bs [1])] := by simp only [frA, nB_one]
  rw [hf]
  generalize n.natAbs = m at *
  refine enterA [(0, .int .i64 n)] Tryz.func124 Tryz.ntmps124 ?_
  repeat' (first | (apply G.mxE; rfl; rfl; exact hm; rfl) | (apply G.cV (g := 84); rfl; rfl; exact fun w' _ => hi w') | (apply G.pu; rfl; rfl; first | exact trivial | omega) | (apply J.ct; rfl) | (apply G.nil; rfl) | (apply G.cm; rfl; rfl; all_goals intro h; all_goals try (exfalso; omega)) | (apply G.fa; rfl; rfl) | (apply G.ld; rfl; (first | (apply LdV.one; (first | exact CellV.row0 (by assumption) rfl | exact CellV.rowS (by assumption) rfl | exact CellV.rowSS (by assumption) rfl | (apply CellV.blk; exact mm; rfl))) | (apply LdV.aggBlk; exact mm; rfl) | (apply LdV.part; exact mm; rfl; rfl) | (apply LdV.aggRow; assumption; rfl) | (apply LdV.partRow; assumption; rfl; rfl)); rfl) | (apply G.sk; rfl) | (apply G.ls; rfl; rfl) | (apply G.ix; rfl; rfl; rfl; omega; rfl) | (apply G.ix; rfl; rfl; (first | exact sub_one _ | exact add_one' _); omega; rfl) | (apply G.lt; rfl; rfl) | (apply G.bu; rfl; rfl; rfl) | (apply G.fd; rfl; rfl; rfl) | (apply G.cv; rfl; rfl; rfl; omega) | (apply G.beq; rfl; rfl; rfl) | (apply G.bne; rfl; rfl; rfl) | (apply G.mm; rfl; rfl) | (apply G.mf; rfl; rfl) | (apply G.mx; rfl; rfl; rfl) | (apply G.mn; rfl; rfl; rfl) | (apply G.bx; rfl; rfl; rfl; intro Bk) | (apply G.al; rfl; intro Bk) | (apply G.so; rfl; rfl; (repeat (first | exact RAt.head | apply RAt.tail)); rfl; rfl) | (apply G.ss; rfl; rfl; (repeat (first | exact RAt.head | apply RAt.tail)); rfl; rfl) | (apply J.regQ; exact Tryz.mixed; decide +kernel) | (apply J.regL; exact Tryz.mixed; decide +kernel) | apply J.reg)
  all_goals refine ret1b Tryz.func124 Tryz.results124 ?_
  all_goals (first | (rw [decide_eq_true (by omega)]; rfl) | (rw [decide_eq_false (by omega)]; rfl))
theorem ofF_int (n : Int) : ofF (decide (n < 0)) n.natAbs 1 = (n : Rat) := by
  rw [ofF, sg_self, ← Rat.mkRat_one]
theorem int_le {n : Int} (h1 : -999999999999999 ≤ n) (h2 : n ≤ 999999999999999) : (nB n.natAbs).length ≤ 8 := nB_bound (by omega)
theorem nB1_le : (nB 1).length ≤ 8 := by rw [nB_one]; decide
theorem int_holds (n : Int) (w : World) (h1 : -999999999999999 ≤ n) (h2 : n ≤ 999999999999999) :
    Calls Tryz.prog 58 #[.int .i64 n] w fun e w' => e = .returned (qA (rQ (n : Rat))) ∧ Below w.heap.size w w' := by
  have i1 := fun w' => integer_holds n w' h1 h2
  have b1 := fun w' => inside_holds n w'
  rw [insideB_true h1 h2] at b1
  have l1 : fLe (decide (n < 0), n.natAbs, 1) 8 := ⟨int_le h1 h2, nB1_le⟩
  have lo := fun w' => lowest_holds (decide (n < 0), n.natAbs, 1) w' ⟨Nat.le_trans l1.1 (by decide), Nat.le_trans l1.2 (by decide)⟩ (show (1 : Nat) ≠ 0 by decide)
  rw [ofF_int n] at lo
  generalize frA (decide (n < 0), n.natAbs, 1) = f1 at *
  refine enterA [(0, .int .i64 n)] Tryz.func58 Tryz.ntmps58 ?_
  all_goals (refine go ?_; and_intros <;> (try exact trivial) <;> repeat (first | refine fun (Bk : Nat) => ?_ | intro h))
  repeat' ((first | (apply G.cV (g := 123) (vs := [.int .i64 n]); rfl; rfl; exact fun w' _ => b1 w') | (apply G.cV (g := 124) (vs := [.int .i64 n]); rfl; rfl; exact fun w' _ => i1 w') | (apply G.cV (g := 125); rfl; rfl; exact fun w' _ => lo w')) <;> (refine go ?_; and_intros <;> (try exact trivial) <;> repeat (first | refine fun (Bk : Nat) => ?_ | intro h)))
  all_goals refine ret1b Tryz.func58 Tryz.results58 ?_
  all_goals rfl
end Go.Proofs.YtcdgibkbbcekhaaGreatDoor
/-
  Contracts of the specification of rational numbers: Neg, Add, Sub, Mul, Cmp, Make, Int.
-/
namespace Go.Proofs.YtcdgibkbbcekhaaGreatDoor
open Go.RowKit Go.Sl Go.Num
theorem rQ_neg (q : Rat) : rQ (-q) = if (rQ q).num = [] then rQ q else ⟨!(rQ q).neg, (rQ q).num, (rQ q).den⟩ := by
  by_cases h : q.num = 0
  · have hq : q = 0 := Rat.num_eq_zero.1 h
    subst hq
    rfl
  · have h1 : (rQ q).num ≠ [] := by
      rw [rQ, if_neg h]
      exact fun e => h (Int.natAbs_eq_zero.1 (nB_nil.1 e))
    rw [if_neg h1, rQ, rQ, if_neg h, if_neg (by rw [Rat.neg_num]; omega)]
    simp only [Rat.neg_num, Rat.neg_den, Int.natAbs_neg]
    congr 1
    by_cases h2 : q.num < 0
    · rw [decide_eq_true h2, decide_eq_false (by omega)]; rfl
    · rw [decide_eq_false h2, decide_eq_true (by omega)]; rfl
theorem sgn_rQ (q : Rat) : sgnR q = if (rQ q).num = [] then 0 else if (rQ q).neg = true then -1 else 1 := by
  rw [sgnR]
  by_cases h : q.num = 0
  · have hq : q = 0 := Rat.num_eq_zero.1 h
    subst hq
    rfl
  · have h1 : (rQ q).num ≠ [] := by
      rw [rQ, if_neg h]
      exact fun e => h (Int.natAbs_eq_zero.1 (nB_nil.1 e))
    have h3 : q ≠ 0 := fun e => h (by rw [e]; rfl)
    rw [if_neg h3, if_neg h1, rQ, if_neg h]
    have h4 : q < 0 ↔ q.num < 0 := by rw [← Rat.not_le, ← Rat.num_nonneg, Int.not_le]
    by_cases h2 : q.num < 0
    · rw [if_pos (h4.2 h2), if_pos (decide_eq_true h2)]
    · rw [if_neg (fun e => h2 (h4.1 e)), if_neg (fun e => h2 (of_decide_eq_true e))]
end Go.Proofs.YtcdgibkbbcekhaaGreatDoor
/-
  Sizes of numbers, lists of integers, slices in memory: what all chapters share.
-/
namespace Go.Proofs.YtcdgibkbbcekhaaGreatDoor
open Go.RowKit Go.Sl Go.Num
def fewQ (k : Nat) (a : Q3) : Prop := a.num.length ≤ k ∧ a.den.length ≤ k
theorem fewQ_le {a : Q3} {j k : Nat} (h : fewQ j a) (hk : j ≤ k) : fewQ k a := ⟨Nat.le_trans h.1 hk, Nat.le_trans h.2 hk⟩
theorem SlAt.all {w : World} {a : Option Addr} {sz : Nat} {A : Type} {f : A → List Value} {l : List A} (h : SlAt w a sz (l.map f)) (h0 : 0 < l.length) : ∃ b off, a = some ⟨b, off, none⟩ ∧ ∀ i (hi : i < l.length), RowAt w b (off + i * sz) (f l[i]) := by
  obtain ⟨b, off, h1, h2⟩ := h (by simpa using h0)
  exact ⟨b, off, h1, fun i hi => h2 i _ (by simp [hi])⟩
theorem fewQ_ofF {s : Bool} {n d k : Nat} (hd : d ≠ 0) (h1 : (nB n).length ≤ k) (h2 : (nB d).length ≤ k) : fewQ k (rQ (ofF s n d)) := by
  rw [rQ_ofF hd]
  split
  · exact ⟨Nat.zero_le _, Nat.zero_le _⟩
  · exact ⟨Nat.le_trans (nB_len_le (Nat.div_le_self _ _)) h1, Nat.le_trans (nB_len_le (Nat.div_le_self _ _)) h2⟩
theorem fplus_le2 {f g : Bool × Nat × Nat} {i j : Nat} (hf : fLe f i) (hg : fLe g j) : fLe (fplus f.1 f.2.1 f.2.2 g.1 g.2.1 g.2.2) (i + j + 1) := by
  obtain ⟨s, n, d⟩ := f
  obtain ⟨t, m, e⟩ := g
  obtain ⟨h1, h2⟩ := hf
  obtain ⟨h3, h4⟩ := hg
  dsimp only at h1 h2 h3 h4
  have l1 := nB_mul h1 h4
  have l2 := nB_mul h3 h2
  rw [Nat.add_comm j i] at l2
  have l3 := nB_mul h2 h4
  have l4 := nB_add l1 l2
  rw [fplus]
  split
  · exact ⟨l4, by dsimp only; omega⟩
  · split
    · exact ⟨Nat.le_trans (nB_len_le (Nat.sub_le _ _)) (Nat.le_trans l2 (by omega)), by dsimp only; omega⟩
    · exact ⟨Nat.le_trans (nB_len_le (Nat.sub_le _ _)) (Nat.le_trans l1 (by omega)), by dsimp only; omega⟩
theorem fewQ_add {x y : Rat} {i j : Nat} (hx : fewQ i (rQ x)) (hy : fewQ j (rQ y)) (hi : 1 ≤ i) (hj : 1 ≤ j) : fewQ (i + j + 1) (rQ (x + y)) := by
  obtain ⟨e1, d1⟩ := frac_eq (rQ x)
  obtain ⟨e2, d2⟩ := frac_eq (rQ y)
  obtain ⟨e3, d3⟩ := fplus_eq (s := (frac (rQ x)).1) (t := (frac (rQ y)).1) (n := (frac (rQ x)).2.1) (m := (frac (rQ y)).2.1) d1 d2
  rw [e1, e2, qR_rQ, qR_rQ] at e3
  rw [← e3]
  have := fplus_le2 (frac_le hx.1 hx.2 hi) (frac_le hy.1 hy.2 hj)
  exact fewQ_ofF d3 this.1 this.2
theorem fewQ_neg {x : Rat} {i : Nat} (hx : fewQ i (rQ x)) : fewQ i (rQ (-x)) := by
  rw [rQ_neg]; split <;> exact hx
theorem fewQ_sub {x y : Rat} {i j : Nat} (hx : fewQ i (rQ x)) (hy : fewQ j (rQ y)) (hi : 1 ≤ i) (hj : 1 ≤ j) : fewQ (i + j + 1) (rQ (x - y)) := by
  rw [Rat.sub_eq_add_neg]; exact fewQ_add hx (fewQ_neg hy) hi hj
theorem fewQ_mul {x y : Rat} {i j : Nat} (hx : fewQ i (rQ x)) (hy : fewQ j (rQ y)) (hi : 1 ≤ i) (hj : 1 ≤ j) : fewQ (i + j) (rQ (x * y)) := by
  obtain ⟨e1, d1⟩ := frac_eq (rQ x)
  obtain ⟨e2, d2⟩ := frac_eq (rQ y)
  rw [qR_rQ] at e1 e2
  have e3 : ofF (ftimes (frac (rQ x)) (frac (rQ y))).1 (ftimes (frac (rQ x)) (frac (rQ y))).2.1 (ftimes (frac (rQ x)) (frac (rQ y))).2.2 = x * y := by
    rw [← e1, ← e2, ofF_times, e1, e2]; rfl
  rw [← e3]
  have := ftimes_le (frac_le hx.1 hx.2 hi) (frac_le hy.1 hy.2 hj)
  exact fewQ_ofF (Nat.mul_ne_zero d1 d2) this.1 this.2
theorem fewQ_int {n : Int} (h1 : -999999999999999 ≤ n) (h2 : n ≤ 999999999999999) : fewQ 8 (rQ (n : Rat)) := by
  rw [← ofF_int]
  exact fewQ_ofF (by decide) (int_le h1 h2) nB1_le
theorem fewQ_zero {k : Nat} : fewQ k (rQ 0) := ⟨Nat.zero_le _, Nat.zero_le _⟩
def isV (s : Int) : List Value := [.int .i64 s]
theorem isV_len (s : Int) : (isV s).length = 1 := rfl
theorem is_set {p : List Int} {j : Nat} {v : Int} (h : j < p.length) : setL (flat isV p) (0 + j * 1) [.int .i64 v] = flat isV (p.set j v) := flat_set1 isV_len h rfl
theorem is_get : ∀ {p : List Int} {j : Nat} (h : j < p.length), (flat isV p)[0 + j * 1]? = some (.int .i64 p[j])
  | x :: p, 0, _ => rfl
  | x :: p, j + 1, h => by
    have := is_get (p := p) (j := j) (by simpa using h)
    rw [Nat.zero_add, Nat.mul_one] at this ⊢
    rw [flat_cons]
    simpa [isV] using this
theorem isLen (l : List Int) : (flat isV l).length = l.length := by rw [flat_len isV_len, Nat.mul_one]
theorem getD_eq {S : List Int} {x : Nat} (h : x < S.length) : S.getD x 0 = S[x] := by rw [List.getD_eq_getElem?_getD, List.getElem?_eq_getElem h]; rfl
theorem nil_or_snoc {A : Type} (l : List A) : l = [] ∨ ∃ o p, l = o ++ [p] := by
  rcases List.eq_nil_or_concat l with rfl | ⟨o, p, rfl⟩
  · exact .inl rfl
  · exact .inr ⟨o, p, List.concat_eq_append⟩
theorem blkSlA {w0 w : World} {M : List Row} {A : Type} {f : A → List Value} {sz b tot : Nat} {e : TypeId} {l : List A} (hw : Sat w0 M w) (hf : ∀ x, (f x).length = sz) (hm : Row.blk b e (flat f l) tot ∈ M := by (repeat (first | exact List.Mem.head _ | apply List.Mem.tail))) : SlAt w (some ⟨b, 0, none⟩) sz (l.map f) ∧ w0.heap.size ≤ b := ⟨SlAt.ofBlk hf hw hm, ((hw.old _ hm).2 _ rfl).1⟩
end Go.Proofs.YtcdgibkbbcekhaaGreatDoor
/-
  Lists in which two elements change places; the order that insertion brings about.
-/
namespace Go.Proofs.YtcdgibkbbcekhaaGreatDoor
open Go.RowKit Go.Sl Go.Num
theorem swap_perm (l : List Int) (i j : Nat) (hi : i < l.length) (hj : j < l.length) : ((l.set i l[j]).set j l[i]).Perm l := by
  have h := Array.swap_perm (xs := l.toArray) (i := i) (j := j) (by simpa using hi) (by simpa using hj)
  have h2 := h.toList
  simpa using h2
def swp (S : List Int) (x y : Nat) : List Int := (S.set x (S.getD y 0)).set y (S.getD x 0)
theorem swp_len (S : List Int) (x y : Nat) : (swp S x y).length = S.length := by rw [swp, List.length_set, List.length_set]
theorem swp_eq {S : List Int} {x y : Nat} (hx : x < S.length) (hy : y < S.length) : swp S x y = (S.set x S[y]).set y S[x] := by rw [swp, getD_eq hx, getD_eq hy]
theorem swp_fst {S : List Int} {x y : Nat} (hx : x < S.length) (hy : y < S.length) : (swp S x y).getD x 0 = S.getD y 0 := by
  rw [getD_eq (by rw [swp_len]; exact hx), getD_eq hy]
  simp only [swp_eq hx hy, List.getElem_set]
  split
  · rename_i h; subst h; rfl
  · rfl
theorem swp_snd {S : List Int} {x y : Nat} (hx : x < S.length) (hy : y < S.length) : (swp S x y).getD y 0 = S.getD x 0 := by
  rw [getD_eq (by rw [swp_len]; exact hy), getD_eq hx]
  simp only [swp_eq hx hy, List.getElem_set_self]
theorem swp_oth {S : List Int} {x y z : Nat} (hx : x < S.length) (hy : y < S.length) (h1 : z ≠ x) (h2 : z ≠ y) : (swp S x y).getD z 0 = S.getD z 0 := by
  rw [swp_eq hx hy, List.getD_eq_getElem?_getD, List.getElem?_set_ne (by omega), List.getElem?_set_ne (by omega), List.getD_eq_getElem?_getD]
theorem swp_perm {S : List Int} {x y : Nat} (hx : x < S.length) (hy : y < S.length) : (swp S x y).Perm S := by
  rw [swp_eq hx hy]; exact swap_perm S x y hx hy
end Go.Proofs.YtcdgibkbbcekhaaGreatDoor
/-
  Maps from integers to integers.
-/
namespace Go.Proofs.YtcdgibkbbcekhaaGreatDoor
open Go.RowKit Go.Sl Go.Num
instance tkI : TKey Tryz.prog 3 (Value.int .i64) := TKey.int (by kernel_rfl)
end Go.Proofs.YtcdgibkbbcekhaaGreatDoor
/-
  How arguments read: what all chapters share.
-/
namespace Go.Proofs.YtcdgibkbbcekhaaGreatDoor
open Go.RowKit Go.Sl Go.Num Go.ChangeShapes Go.WideShapes
theorem own : ownKnob Tryz.prog.godebug = none := by kernel_rfl
theorem laidOut : laidOutB Tryz.prog = true := by kernel_rfl
theorem rInt : Reads Tryz.prog 3 isV (fun _ _ => True) := (Reads.int Tryz.underlying3).mono fun _ _ _ => trivial
theorem rStr : Reads Tryz.prog 9 (fun l : List UInt8 => [.string (bs l)]) (fun _ _ => True) := (Reads.string Tryz.underlying9).turn fun _ s _ => ⟨s.data.toList, by rw [bs_of], trivial⟩
theorem rBool : Reads Tryz.prog 4 (fun b : Bool => [.bool b]) (fun _ _ => True) := Reads.bool Tryz.underlying4
theorem rRat : Reads Tryz.prog 29 (fun a : Q3 => [.bool a.neg, .string (bs a.num), .string (bs a.den)]) (fun _ _ => True) := (Reads.struct3 (n := 3) Tryz.underlying29 (by kernel_rfl) (by kernel_rfl) rBool rStr rStr).turn fun _ a _ => ⟨⟨a.1, a.2.1, a.2.2⟩, rfl, trivial⟩
theorem rInts : Reads Tryz.prog 44 (fun s : Sld Int => [s.v]) (fun w s => SlAt w s.ad 1 (s.l.map isV) ∧ s.l.length ≤ s.cap) := (Reads.slice (sz := 1) Tryz.underlying44 (by kernel_rfl) (by decide) rInt).mono fun _ _ h => ⟨h.1, h.2.1⟩
abbrev laidL : List (String × DataW Unit) := [("unicode/utf8.acceptRanges", Rows.laid_unicode_utf8_acceptRanges), ("unicode/utf8.first", Rows.laid_unicode_utf8_first)]
theorem rU8 : Reads Tryz.prog 5 (fun n : Nat => [.int .u8 n]) (fun _ n => n ≤ 255) := (Reads.int Tryz.underlying5).turn fun _ n h => by
  have h2 : 0 ≤ n ∧ n ≤ 255 := by rw [Lit.wf, Bool.and_eq_true, decide_eq_true_eq, decide_eq_true_eq] at h; exact h
  exact ⟨n.toNat, by rw [Int.toNat_of_nonneg h2.1], by omega⟩
theorem rRats : Reads Tryz.prog 23 (fun s : Sld Q3 => [s.v]) (fun w s => SlAt w s.ad 3 (s.l.map fun a => [.bool a.neg, .string (bs a.num), .string (bs a.den)])) := (Reads.slice (sz := 3) Tryz.underlying23 (by kernel_rfl) (by decide) rRat).mono fun _ _ h => h.1
end Go.Proofs.YtcdgibkbbcekhaaGreatDoor
/-
  Ranges over functions with one value that may go on for ever, unless a round leaves the loop.
-/
namespace Go.Sl
open Go.RowKit
variable {C : Ctx} {st : List (Nat × Value)} {M : List Row} {k : List Item} {q q' : Md} {all rest : List Oper} {d : Nat} {ty : TypeId} {pos : String} {after : Array Edge} {gd : Option (Nat × Bool)}
/-- The function f with the captures cap calls yield with each of es, until it says false; it ends behind them if fin holds. -/
def IterH (P : Program) (w0 : World) (K : List Row) (f : FuncId) (cap : Array Value) {E : Type} (enc : E → List Value) (es : List E) (fin : Prop) : Prop :=
  ∀ {X : Type} (Rs : X → List Row) (Inv : Nat → X → Prop) (Out : X → Prop) (fY : Fn) (cY : Array Value), (fin ∨ ∀ x, ¬ Inv es.length x) →
    (∀ i x e, Inv i x → es[i]? = some e → ∀ M' w, Sat w0 (Rs x ++ M') w → CallsV P (.func fY #[] cY) (enc e) w fun v w' => ∃ x', Sat w0 (Rs x' ++ M') w' ∧ (v = .bool true ∧ Inv (i + 1) x' ∨ v = .bool false ∧ Out x')) →
    ∀ x0, Inv 0 x0 → ∀ M1 w, Sat w0 (K ++ (Rs x0 ++ M1)) w →
      Calls P f (#[.func fY #[] cY] ++ cap) w fun e w' => e = .returned (.tuple #[]) ∧ ∃ x', Sat w0 (K ++ (Rs x' ++ M1)) w' ∧ (Inv es.length x' ∨ Out x')
/-- The statement, where a round may leave. -/
theorem J.rangeH1 {f : FuncId} [hF : Fun C.P f] {cap : Array Value} {g : Operand} {p1 : Tmp} {assign body : Code} {E : Type} {e1 : E → Value} {es : List E} {fin : Prop} {K : List Row} {X : Type} (Rs : X → List Row) (Inv : Nat → X → Prop) (Out : Code → X → Prop) (x0 : X) (M1 : List Row)
    (hIt : IterH C.P C.w0 K f cap (fun e => [e1 e]) es fin) (hfin : fin ∨ ∀ x, ¬ Inv es.length x) (hb : C.b.roundOf = none) (hg : evS st g = some (.func (.func f) #[] cap)) (hp1 : Nat.blt p1 C.N = true) (hM : M.Perm (K ++ (Rs x0 ++ M1))) (hI : Inv 0 x0)
    (hround : ∀ i x e, Inv i x → es[i]? = some e → ∀ L (r : Loop) M', r.state = .ready → r.pending = none →
      J (rctx C.P L C.b.fn C.N (RoundR C.w0 L r Rs M' (Inv (i + 1)) Out) C.w0) ((p1, e1 e) :: st) (.obj L (.loop r) :: Rs x ++ M') [.code assign, .beginRound, .code body])
    (h1 : ∀ Bd x, Inv es.length x → J { C with D := mark Bd :: C.D } st (.obj Bd (.deferred (some [])) :: (K ++ (Rs x ++ M1))) k)
    (h2 : ∀ Bd x c, Out c x → J { C with D := mark Bd :: C.D } st (.obj Bd (.deferred (some [])) :: (K ++ (Rs x ++ M1))) (.code c :: k)) :
    J C st M (.code (.rangeFunc g #[p1] assign body) :: k) := by
  refine J.perm hM (J.range (f := f) (cap := cap) (X := { x : X × Option Code // match x.2 with | none => Inv es.length x.1 | some c => Out c x.1 }) (fun x => K ++ (Rs x.1.1 ++ M1)) (fun x => x.1.2) (fun x => loopSt x.1.2) hb hg (fun x => by rcases x with ⟨⟨_, _ | _⟩, _⟩ <;> simp [loopSt]) ?_ fun Bd x => ?_)
  · intro tmps Bd L w r hr hfit hw
    have hrs : r.state = .ready := by rw [hr]
    have hrp : r.pending = none := by rw [hr]
    have hperm : ∀ (o : Obj) x, (Row.obj L o :: .obj Bd (.deferred (some [])) :: (K ++ (Rs x ++ M1))).Perm (K ++ ((.obj L o :: Rs x) ++ (.obj Bd (.deferred (some [])) :: M1))) := fun o x =>
      perm_cat [[Row.obj L o], [.obj Bd (.deferred (some []))], K, Rs x, M1] [0, 1, 2, 3, 4] [2, 0, 3, 1, 4] rfl
    have hmain := hIt (X := X × Option Code) (fun x => Row.obj L (.loop (loopAt r x.2)) :: Rs x.1) (fun i x => x.2 = none ∧ Inv i x.1) (fun x => ∃ c, x.2 = some c ∧ Out c x.1) (.yield L) #[] (hfin.imp id fun h x hx => h x.1 hx.2) ?_ (x0, none) ⟨rfl, hI⟩ (.obj Bd (.deferred (some [])) :: M1) w (hw.perm (hperm _ x0))
    · refine hmain.mono fun e w2 ⟨q1, ⟨x, o⟩, q2, q3⟩ => ?_
      have key : Sat C.w0 (.obj L (.loop { r with state := loopSt o, pending := o }) :: .obj Bd (.deferred (some [])) :: (K ++ (Rs x ++ M1))) w2 := by
        have h3 := q2.perm (hperm _ x).symm
        cases o with
        | none =>
          have hrr : ({ r with state := .ready, pending := none } : Loop) = r := by rw [hr]
          show Sat C.w0 (.obj L (.loop { r with state := .ready, pending := none }) :: _) w2
          rw [hrr]; exact h3
        | some c => exact h3
      rcases q3 with ⟨q4, q5⟩ | ⟨c, q4, q5⟩
      · dsimp only at q4; subst q4
        exact ⟨_, ⟨(x, none), q5⟩, q1, key⟩
      · dsimp only at q4; subst q4
        exact ⟨_, ⟨(x, some c), q5⟩, q1, key⟩
    · rintro i ⟨x, o⟩ e ⟨h3, h4⟩ h5 M' w1 hw1
      dsimp only at h3 h4 hw1; subst h3
      have h6 := hround i x e h4 h5 L r M' hrs hrp
      refine .yield L r rfl (hw1.hold _ (.head _)) (by rw [hr]; rfl) ?_
      have hf6 := hfit.put hp1 (e1 e)
      have e3 : (r.params.zip [e1 e].toArray).foldl (fun tmps (t, a) => tmps.setIfInBounds t a) r.tmps = (({ tmps := tmps, defers := [] } : Act).put (some p1) (e1 e)).tmps := by
        have e0 : ((#[p1] : Array Tmp).zip [e1 e].toArray) = #[(p1, e1 e)] := by simp
        rw [hr]; dsimp only; rw [e0]; simp [Act.put]
      rw [e3, show r.fn = C.b.fn by rw [hr], show r.assign = assign by rw [hr], show r.body = body by rw [hr]]
      have h7 := rounds_of hf6 hw1 h6
      intro c cs
      obtain ⟨v, w', ⟨x', h8⟩, h9⟩ := h7 c cs
      refine ⟨v, w', ?_, h9⟩
      rcases h8 with ⟨g1, g2, g3⟩ | ⟨cc, g1, g2, g3⟩
      · exact ⟨(x', none), g3, .inl ⟨g1, rfl, g2⟩⟩
      · exact ⟨(x', some cc), g3, .inr ⟨g1, cc, rfl, g2⟩⟩
  · rcases x with ⟨⟨x, _ | c⟩, hx⟩
    · exact h1 Bd x hx
    · exact h2 Bd x c hx
end Go.Sl
/-
  Calls that lay rows; rows brought to the front; what later chapters share.
-/
namespace Go.Sl
open Go.RowKit
variable {C : Ctx} {st : List (Nat × Value)} {M : List Row} {k : List Item} {q q' : Md} {all rest : List Oper} {d : Nat} {opn : Op} {ty : TypeId} {pos : String} {after : Array Edge} {gd : Option (Nat × Bool)}
/-- A call whose value is one of many. -/
theorem G.cX {X : Type} {g : FuncId} {args : List Operand} {vs : List Value} {at_ : Array TypeId} {v : X → Value} {w : World} [hF : Fun C.P g]
    (hc : ∀ w', Below w.heap.size w w' → Calls C.P g vs.toArray w' fun e w'' => ∃ x, e = .returned (v x) ∧ Below w'.heap.size w' w'') (h : ∀ x, G q' C all ((d, v x) :: st) M rest k) (hw : w = C.w0 := by rfl) (ha : evL st args = some vs := by rfl) (hs : sideB all st gd d C.N q.ext = some q' := by rfl) :
    G q C all st M ({ dst := some d, op := .call { callee := .value (.func g), args := args.toArray, argTypes := at_ }, type := ty, pos, after, guard := gd } :: rest) k := by
  subst hw
  obtain ⟨g1, g2, g3⟩ := sideB_ok hs
  exact G.call0 (X := X) (v := v) (Mn := fun _ => []) g1 g2 g3 ha (fun w hw => (hc w hw.below).mono fun e w' ⟨x, h1, h2⟩ => ⟨x, h1, hw.ext h2⟩) h
/-- A call that lays rows. -/
theorem G.cR {X : Type} {g : FuncId} {args : List Operand} {vs : List Value} {at_ : Array TypeId} {v : X → Value} {Mn : X → List Row} (ha : evL st args = some vs) (hs : sideB all st gd d C.N q.ext = some q') [hF : Fun C.P g]
    (hc : ∀ w, Sat C.w0 M w → Calls C.P g vs.toArray w fun e w' => ∃ x, e = .returned (v x) ∧ Sat C.w0 (Mn x ++ M) w') (h : ∀ x, G q' C all ((d, v x) :: st) (Mn x ++ M) rest k) :
    G q C all st M ({ dst := some d, op := .call { callee := .value (.func g), args := args.toArray, argTypes := at_ }, type := ty, pos, after, guard := gd } :: rest) k := by
  obtain ⟨g1, g2, g3⟩ := sideB_ok hs
  exact G.call0 g1 g2 g3 ha hc h
end Go.Sl
namespace Go.Sl
end Go.Sl
namespace Go.Sl
open Go.RowKit
/-- An own slice has a slice's form. -/
theorem G.ownForm {C : Ctx} {st : List (Nat × Value)} {M : List Row} {k : List Item} {all rest : List Oper} {base E size n i : Nat} {v : Value} {xs : List Value} (hm : M[i]? = some (.own base v E size n xs)) (h : ∀ a c, v = .slice a n c → G .seq C all st M rest k) : G .seq C all st M rest k :=
  ⟨fun a w hf hd hw => by
    obtain ⟨hl, hv⟩ := hw.hold _ (List.mem_of_getElem? hm)
    rcases hv with ⟨rfl, rfl⟩ | ⟨g, cap, cur, rfl, _⟩
    · exact (h _ _ rfl).go a w hf hd hw
    · exact (h _ _ rfl).go a w hf hd hw⟩
end Go.Sl
namespace Go.Sl
open Go.RowKit Go.ChangeShapes Go.WideShapes
theorem list1 {A : Type} {l : List A} (h : l.length = 1) : ∃ a, l = [a] := by
  match l, h with
  | [a], _ => exact ⟨a, rfl⟩
theorem Reads.struct1 {P : Program} {T : TypeId} {A1 : Type} {f1 : A1 → List Value} {G1 : World → A1 → Prop} {d1 : Field} {n : Nat} (ht : P.underlying T = some (.struct #[d1])) (hn : P.cellsOf T = n) (hT : tight P #[d1] n = true) (h1 : Reads P d1.type f1 G1) :
    Reads P T f1 G1 := .mk fun enc w fuel cs x hx => by
  obtain ⟨hj, hl, hf⟩ := Reads.struct ht hn hT hx
  obtain ⟨p1, hp⟩ := list1 hl
  rw [hp] at hj hf
  obtain ⟨_, _, r1⟩ := hf 0 d1 p1 rfl rfl
  obtain ⟨a1, rfl, g1⟩ := h1.go enc w _ _ _ r1
  exact ⟨a1, by rw [hj]; simp, g1⟩
end Go.Sl
namespace Go.Sl
open Go.RowKit
end Go.Sl
namespace Go.Sl
open Go.RowKit
variable {C : Ctx} {st : List (Nat × Value)} {M : List Row} {k : List Item} {q q' : Md} {all rest : List Oper} {d : Nat} {opn : Op} {ty : TypeId} {pos : String} {after : Array Edge} {gd : Option (Nat × Bool)}
/-- A call that changes some rows, wherever they stand. -/
theorem G.cP {X : Type} {g : FuncId} {args : List Operand} {vs : List Value} {at_ : Array TypeId} (v : X → Value) (T : List Row) (Tn : X → List Row) {M1 : List Row} (ha : evL st args = some vs) (hs : sideB all st gd d C.N q.res = some q') [hF : Fun C.P g] (hp : M.Perm (T ++ M1))
    (hc : ∀ w, Sat C.w0 (T ++ M1) w → Calls C.P g vs.toArray w fun e w' => ∃ x, e = .returned (v x) ∧ Sat C.w0 (Tn x ++ M1) w') (h : ∀ x, G q' C all ((d, v x) :: st) (Tn x ++ M1) rest k) :
    G q C all st M ({ dst := some d, op := .call { callee := .value (.func g), args := args.toArray, argTypes := at_ }, type := ty, pos, after, guard := gd } :: rest) k :=
  G.cM v (fun x => Tn x ++ M1) hs ha (fun w hw => hc w (hw.perm hp)) h
/-- A slice that is nil is the call's own. -/
theorem G.nilOwn {E size : Nat} (h : G .seq C all st (.own 0 (.slice none 0 0) E size 0 [] :: M) rest k) : G .seq C all st M rest k :=
  ⟨fun a w hf hd hw => h.go a w hf hd (hw.new (Below.refl _ _) ⟨by simp, .inl ⟨rfl, rfl⟩⟩ (Nat.zero_le _) fun b hb => by simp [Row.sup, Value.ownBlock] at hb)⟩
/-- A block becomes the call's own slice, in the midst of a region. -/
theorem G.blkCut {A : Type} {f : A → List Value} {g cap E size : Nat} {l l' : List A} (m : Nat) {F : Row → List Row} (hf : ∀ x, (f x).length = size) (hm : RAt (.blk g E (flat f l) (cap * size)) M F) (h1 : m ≤ cap) (h2 : cap ≤ maxLen) (h3 : m ≤ l.length) (h4 : l.take m = l') (h : G .seq C all st (F (.own 0 (.slice (some ⟨g, 0, none⟩) m cap) E size m (flat f l'))) rest k) : G .seq C all st M rest k :=
  ⟨fun a w hfit hd hw => by
    obtain ⟨i, h5, h6⟩ := hm.idx
    obtain ⟨rs, h7, h8⟩ := hw.hold _ (List.mem_of_getElem? h5)
    rw [← h6] at h
    refine h.go a w hfit hd (hw.swap h5 (r' := .own 0 (.slice (some ⟨g, 0, none⟩) m cap) E size m (flat f l')) ?_ rfl fun b hb => ?_)
    · subst h4
      have h9 : m * size ≤ (flat f l).length := by rw [flat_len hf]; exact Nat.mul_le_mul_right _ h3
      refine ⟨by rw [flat_len hf, List.length_take, Nat.min_eq_left h3], .inr ⟨g, cap, _, rfl, Nat.zero_le _, h7, h1, h2, by simp [h8], ?_⟩⟩
      rw [← flat_take hf l m, List.take_append_of_le_length h9]
    · cases hb; rfl⟩
/-- A slice of things that hold slices. -/
structure NstAt {A : Type} (f : A → List Value) (sz : Nat) (adr : A → Option Addr) (sz2 : Nat) (F2 : A → List (List Value)) (w : World) (a : Option Addr) (L : List A) : Prop where
  out : SlAt w a sz (L.map f)
  inn : ∀ r ∈ L, SlAt w (adr r) sz2 (F2 r)
section
variable {A : Type} {f : A → List Value} {sz : Nat} {adr : A → Option Addr} {sz2 : Nat} {F2 : A → List (List Value)}
theorem NstAt.below {w w' : World} {a : Option Addr} {L : List A} (h : NstAt f sz adr sz2 F2 w a L) (hb : Below w.heap.size w w') : NstAt f sz adr sz2 F2 w' a L := ⟨h.out.below hb, fun r hr => (h.inn r hr).below hb⟩
end
end Go.Sl
/-
  Plain laws of kernels: totals, reduced lists, products.
-/
namespace Go.Proofs.YtcdgibkbbcekhaaGreatDoor
open Go.Num
/-! ### totals -/
def sumL : List Int → Int
  | [] => 0
  | x :: r => x + sumL r
def badW (w : Int) : Bool := decide (w < 0) || decide (999999999999999 < w)
/-- The error of a kernel. -/
def kerErr (k : List Int) : Int := if k.length < 1 ∨ 400 < k.length then 2 else if k.any badW = true then 3 else if 999999999999999 < sumL k then 3 else if sumL k = 0 then 1 else 0
structure Ker (k : List Int) : Prop where
  len : 1 ≤ k.length ∧ k.length ≤ 400
  nn : ∀ w ∈ k, 0 ≤ w ∧ w ≤ 999999999999999
  sum : 0 < sumL k ∧ sumL k ≤ 999999999999999
theorem sumL_nn : ∀ {k : List Int}, (∀ w ∈ k, 0 ≤ w) → 0 ≤ sumL k
  | [], _ => Int.le_refl _
  | x :: r, h => by
    have := sumL_nn fun w hw => h w (List.mem_cons_of_mem x hw)
    have := h x (List.mem_cons_self ..)
    rw [sumL]; omega
theorem ker_of {k : List Int} (h : kerErr k = 0) : Ker k := by
  rw [kerErr] at h
  split at h
  · cases h
  · split at h
    · cases h
    · rename_i h1 h2
      have h3 : ∀ w ∈ k, 0 ≤ w ∧ w ≤ 999999999999999 := fun w hw => by
        rw [Bool.not_eq_true] at h2
        have := List.any_eq_false.1 h2 w hw
        rw [badW, Bool.or_eq_true, decide_eq_true_eq, decide_eq_true_eq, not_or] at this
        omega
      split at h
      · cases h
      · split at h
        · cases h
        · rename_i h4 h5
          have := sumL_nn fun w hw => (h3 w hw).1
          exact ⟨by omega, h3, by omega⟩
/-! ### the greatest common divisor, and the last weight -/
def co (l : List Int) (i : Nat) : Int := l.getD i 0
/-- A list of weights that are not negative, some of them positive. -/
def Pos (l : List Int) : Prop := (∀ w ∈ l, 0 ≤ w) ∧ ∃ w ∈ l, 0 < w
theorem sum_pos : ∀ {l : List Int}, (∀ w ∈ l, 0 ≤ w) → 0 < sumL l → ∃ w ∈ l, 0 < w
  | [], _, h => absurd h (Int.lt_irrefl _)
  | x :: r, h, h2 => by
    by_cases hx : 0 < x
    · exact ⟨x, List.mem_cons_self .., hx⟩
    · rw [sumL] at h2
      have := h x (List.mem_cons_self ..)
      obtain ⟨w, h3, h4⟩ := sum_pos (l := r) (fun w hw => h w (List.mem_cons_of_mem _ hw)) (by omega)
      exact ⟨w, List.mem_cons_of_mem _ h3, h4⟩
theorem Ker.pos {l : List Int} (h : Ker l) : Pos l := ⟨fun w hw => (h.nn w hw).1, sum_pos (fun w hw => (h.nn w hw).1) h.sum.1⟩
end Go.Proofs.YtcdgibkbbcekhaaGreatDoor
/-
  Plain laws of kernels: products, and parts of what passes.
-/
namespace Go.Proofs.YtcdgibkbbcekhaaGreatDoor
open Go.Num
/-! ### sequences -/
/-! ### products of lists, as they are reckoned in place -/
def sq (l : List Int) (i : Nat) : Rat := ((co l i : Int) : Rat)
/-! ### sums of products -/
/-! ### reduced lists -/
/-- The part of what passes that arrives after i ticks. -/
def pk (l : List Int) (i : Nat) : Rat := sq l i / ((sumL l : Int) : Rat)
theorem rat_ne {n : Int} (h : 0 < n) : ((n : Int) : Rat) ≠ 0 := fun e => by
  have := Rat.intCast_inj.1 (show ((n : Int) : Rat) = ((0 : Int) : Rat) from e)
  omega
end Go.Proofs.YtcdgibkbbcekhaaGreatDoor
/-
  Plain laws of rivers: the way down.
-/
namespace Go.Proofs.YtcdgibkbbcekhaaGreatDoor
open Go.RowKit Go.Sl Go.Num
/-- A gauge with its way down, and its kernel. -/
structure Rch where
  dn : Int
  ws : List Int
  adr : Option Addr
  cap : Nat
def rcV (r : Rch) : List Value := [.int .i64 r.dn, .slice r.adr r.ws.length r.cap]
theorem rcV_len (r : Rch) : (rcV r).length = 2 := rfl
/-- The gauge below one; -1 if there is none. -/
def dnOf (l : List Rch) (g : Int) : Int := if g < 0 then -1 else match l[g.toNat]? with
  | some r => r.dn
  | none => -1
theorem dnOf_at {l : List Rch} {g : Nat} (h : g < l.length) : dnOf l (g : Int) = l[g].dn := by
  rw [dnOf, if_neg (by omega), Int.toNat_natCast, List.getElem?_eq_getElem h]
theorem dnOf_neg {l : List Rch} {g : Int} (h : g < 0) : dnOf l g = -1 := by rw [dnOf, if_pos h]
/-- After k steps down. -/
def itr (l : List Rch) : Nat → Int → Int
  | 0, g => g
  | k + 1, g => itr l k (dnOf l g)
theorem itr_neg {l : List Rch} : ∀ {k : Nat} {g : Int}, g < 0 → itr l k g < 0
  | 0, _, h => h
  | k + 1, g, h => by rw [itr, dnOf_neg h]; exact itr_neg (by decide)
theorem itr_add (l : List Rch) : ∀ (j k : Nat) (g : Int), itr l (j + k) g = itr l k (itr l j g)
  | 0, k, g => by rw [Nat.zero_add, itr]
  | j + 1, k, g => by rw [Nat.succ_add, itr, itr, itr_add l j k]
theorem itr_succ (l : List Rch) (k : Nat) (g : Int) : itr l (k + 1) g = dnOf l (itr l k g) := by rw [itr_add l k 1 g]; rfl
def badR1 (n : Nat) (g : Nat) (r : Rch) : Int := if r.dn < -1 ∨ (n : Int) ≤ r.dn then 3 else if r.dn = g ∨ (r.dn < 0 ∧ 0 < r.ws.length) ∨ (0 ≤ r.dn ∧ kerErr r.ws ≠ 0) then 1 else 0
def badRs (n : Nat) : Nat → List Rch → Int
  | _, [] => 0
  | g, r :: t => if badR1 n g r ≠ 0 then badR1 n g r else badRs n (g + 1) t
/-- The error of a river. -/
def rivErr (l : List Rch) : Int := if 40 < l.length then 2 else if badRs l.length 0 l ≠ 0 then badRs l.length 0 l else if (List.range l.length).all (fun g : Nat => decide (itr l l.length g < 0)) = true then 0 else 4
structure Riv (l : List Rch) : Prop where
  len : l.length ≤ 40
  rng : ∀ g (hg : g < l.length), -1 ≤ l[g].dn ∧ l[g].dn < l.length
  ne : ∀ g (hg : g < l.length), l[g].dn ≠ g
  ker : ∀ g (hg : g < l.length), 0 ≤ l[g].dn → kerErr l[g].ws = 0
  nil : ∀ g (hg : g < l.length), l[g].dn < 0 → l[g].ws = []
  fin : ∀ g, g < l.length → itr l l.length (g : Int) < 0
theorem badRs_ok {n : Nat} : ∀ {l : List Rch} {g : Nat}, badRs n g l = 0 → ∀ i (hi : i < l.length), badR1 n (g + i) l[i] = 0
  | r :: t, g, h, i, hi => by
    rw [badRs] at h
    split at h
    · rename_i h1; exact absurd h h1
    · rename_i h1
      cases i with
      | zero => exact Decidable.not_not.1 h1
      | succ i =>
        have := badRs_ok h i (by simpa using hi)
        rw [show g + (i + 1) = g + 1 + i by omega]; exact this
theorem riv_of {l : List Rch} (h : rivErr l = 0) : Riv l := by
  rw [rivErr] at h
  split at h
  · cases h
  · split at h
    · rename_i h1; exact absurd h h1
    · rename_i h1 h2
      split at h
      · rename_i h3
        have h4 := badRs_ok (Decidable.not_not.1 h2)
        have h5 : ∀ g (hg : g < l.length), badR1 l.length g l[g] = 0 := fun g hg => by have := h4 g hg; rwa [Nat.zero_add] at this
        have h6 : ∀ g (hg : g < l.length), ¬ (l[g].dn < -1 ∨ (l.length : Int) ≤ l[g].dn) ∧ ¬ (l[g].dn = g ∨ (l[g].dn < 0 ∧ 0 < l[g].ws.length) ∨ (0 ≤ l[g].dn ∧ kerErr l[g].ws ≠ 0)) := fun g hg => by
          have := h5 g hg
          rw [badR1] at this
          split at this
          · cases this
          · split at this
            · cases this
            · exact ⟨by assumption, by assumption⟩
        refine ⟨by omega, fun g hg => ?_, fun g hg => ?_, fun g hg h7 => ?_, fun g hg h7 => ?_, fun g hg => ?_⟩
        · have := (h6 g hg).1; omega
        · exact fun e => (h6 g hg).2 (.inl e)
        · by_cases h8 : kerErr l[g].ws = 0
          · exact h8
          · exact absurd (.inr (.inr ⟨h7, h8⟩)) (h6 g hg).2
        · by_cases h8 : 0 < l[g].ws.length
          · exact absurd (.inr (.inl ⟨h7, h8⟩)) (h6 g hg).2
          · exact List.length_eq_zero_iff.1 (by omega)
        · exact of_decide_eq_true (List.all_eq_true.1 h3 g (List.mem_range.2 hg))
      · cases h
theorem Riv.dn {l : List Rch} (h : Riv l) {g : Int} (h0 : 0 ≤ g) (h1 : g < l.length) : -1 ≤ dnOf l g ∧ dnOf l g < l.length ∧ dnOf l g ≠ g := by
  obtain ⟨k, rfl⟩ : ∃ k : Nat, g = k := ⟨g.toNat, by omega⟩
  rw [dnOf_at (by omega)]
  have := h.rng k (by omega)
  have := h.ne k (by omega)
  omega
/-- As long as there are gauges, they are gauges of the river. -/
theorem Riv.in_ {l : List Rch} (h : Riv l) : ∀ (k : Nat) {g : Int}, g < l.length → -1 ≤ g → -1 ≤ itr l k g ∧ itr l k g < l.length
  | 0, g, h1, h2 => ⟨h2, h1⟩
  | k + 1, g, h1, h2 => by
    rw [itr]
    by_cases h0 : g < 0
    · rw [dnOf_neg h0]
      have h3 : itr l k (-1) < 0 := itr_neg (by decide)
      refine Riv.in_ h k (by omega) (by decide)
    · have := h.dn (by omega) h1
      exact h.in_ k this.2.1 this.1
/-- How many gauges there are from one on down. -/
def dpt (l : List Rch) (g : Int) : Nat := ((List.range (l.length + 1)).find? fun k => decide (itr l k g < 0)).getD 0
theorem Riv.end_ {l : List Rch} (h : Riv l) {g : Int} (h1 : g < l.length) : itr l l.length g < 0 := by
  by_cases h0 : g < 0
  · exact itr_neg h0
  · obtain ⟨k, rfl⟩ : ∃ k : Nat, g = k := ⟨g.toNat, by omega⟩
    exact h.fin k (by omega)
theorem Riv.dep {l : List Rch} (h : Riv l) {g : Int} (h1 : g < l.length) : itr l (dpt l g) g < 0 ∧ dpt l g ≤ l.length ∧ ∀ k, k < dpt l g → 0 ≤ itr l k g := by
  rw [dpt]
  cases hf : (List.range (l.length + 1)).find? fun k => decide (itr l k g < 0) with
  | none =>
    rw [List.find?_eq_none] at hf
    have := hf l.length (List.mem_range.2 (by omega))
    exact absurd (decide_eq_true (h.end_ h1)) this
  | some k =>
    have h2 := List.find?_some hf
    have h3 := List.mem_of_find?_eq_some hf
    rw [List.find?_range_eq_some] at hf
    dsimp only [Option.getD_some]
    rw [List.mem_range] at h3
    refine ⟨of_decide_eq_true h2, by omega, fun j hj => ?_⟩
    have := hf.2.2 j hj
    simp only [Bool.not_eq_true', decide_eq_false_iff_not] at this
    omega
theorem Riv.ddn {l : List Rch} (h : Riv l) {g : Int} (h0 : 0 ≤ g) (h1 : g < l.length) : dpt l g = dpt l (dnOf l g) + 1 := by
  have h2 := h.dep h1
  have h3 := h.dep (h.dn h0 h1).2.1
  have h4 : 0 < dpt l g := by
    rcases Nat.eq_zero_or_pos (dpt l g) with h5 | h5
    · have := h2.1; rw [h5, itr] at this; omega
    · exact h5
  obtain ⟨d, hd⟩ : ∃ d, dpt l g = d + 1 := ⟨dpt l g - 1, by omega⟩
  rw [hd] at h2 ⊢
  have h5 := h2.1
  rw [itr] at h5
  rcases Nat.lt_trichotomy d (dpt l (dnOf l g)) with h6 | h6 | h6
  · have := h3.2.2 d h6; omega
  · rw [h6]
  · have := h2.2.2 (dpt l (dnOf l g) + 1) (by omega)
    rw [itr] at this
    have := h3.1; omega
end Go.Proofs.YtcdgibkbbcekhaaGreatDoor
/-
  Plain laws of rivers: a way that is too long never ends; paths.
-/
namespace Go.Proofs.YtcdgibkbbcekhaaGreatDoor
open Go.RowKit Go.Sl Go.Num
theorem nodup_le : ∀ (n : Nat) (L : List Nat), L.Nodup → (∀ x ∈ L, x < n) → L.length ≤ n
  | 0, [], _, _ => Nat.le_refl _
  | 0, x :: L, _, h => absurd (h x (List.mem_cons_self ..)) (Nat.not_lt_zero _)
  | n + 1, L, h, hl => by
    by_cases hn : n ∈ L
    · have h1 := nodup_le n (L.erase n) (h.erase n) fun x hx => by
        have h2 := (List.Nodup.mem_erase_iff h).1 hx
        have := hl x h2.2
        have := h2.1
        omega
      rw [List.length_erase_of_mem hn] at h1
      omega
    · have := nodup_le n L h fun x hx => by
        have := hl x hx
        have : x ≠ n := fun e => hn (e ▸ hx)
        omega
      omega
/-- Rivers of which all ways lead to gauges. -/
def InR (l : List Rch) : Prop := ∀ g (hg : g < l.length), -1 ≤ l[g].dn ∧ l[g].dn < l.length
theorem InR.in_ {l : List Rch} (h : InR l) : ∀ (k : Nat) {g : Int}, g < l.length → -1 ≤ g → -1 ≤ itr l k g ∧ itr l k g < l.length
  | 0, g, h1, h2 => ⟨h2, h1⟩
  | k + 1, g, h1, h2 => by
    rw [itr]
    by_cases h0 : g < 0
    · rw [dnOf_neg h0]
      exact InR.in_ h k (by omega) (by decide)
    · obtain ⟨j, rfl⟩ : ∃ j : Nat, g = j := ⟨g.toNat, by omega⟩
      rw [dnOf_at (by omega)]
      have := h j (by omega)
      exact h.in_ k this.2 this.1
theorem itr_pos {l : List Rch} {j k : Nat} {g : Int} (h : 0 ≤ itr l k g) (hj : j ≤ k) : 0 ≤ itr l j g := by
  rcases Int.lt_or_le (itr l j g) 0 with h1 | h1
  · have := itr_add l j (k - j) g
    rw [show j + (k - j) = k by omega] at this
    have h2 := itr_neg (l := l) (k := k - j) h1
    omega
  · exact h1
/-- A way of more gauges than there are goes around. -/
theorem itr_round {l : List Rch} (h : InR l) {g : Int} (h1 : g < l.length) (h2 : 0 ≤ itr l l.length g) : ∀ k, 0 ≤ itr l k g := by
  have h0 : 0 ≤ g := itr_pos (j := 0) h2 (Nat.zero_le _)
  have hin : ∀ k, k ≤ l.length → 0 ≤ itr l k g ∧ itr l k g < l.length := fun k hk => ⟨itr_pos h2 hk, (h.in_ k h1 (by omega)).2⟩
  have hex : ∃ i j, i < j ∧ j ≤ l.length ∧ itr l i g = itr l j g := by
    by_cases hc : ∃ i j, i < j ∧ j ≤ l.length ∧ itr l i g = itr l j g
    · exact hc
    · have hnd : ((List.range (l.length + 1)).map fun k => (itr l k g).toNat).Nodup := by
        rw [List.Nodup, List.pairwise_map]
        refine List.Pairwise.imp_of_mem (R := fun a b => a < b) (fun {a b} ha hb hab e => ?_) List.pairwise_lt_range
        rw [List.mem_range] at ha hb
        have := hin a (by omega)
        have := hin b (by omega)
        exact hc ⟨a, b, hab, by omega, by omega⟩
      have := nodup_le l.length _ hnd fun x hx => by
        obtain ⟨k, hk, rfl⟩ := List.mem_map.1 hx
        rw [List.mem_range] at hk
        have := hin k (by omega)
        omega
      rw [List.length_map, List.length_range] at this
      omega
  obtain ⟨i, j, hij, hj, e⟩ := hex
  have hper : ∀ k, itr l (i + k) g = itr l (j + k) g := fun k => by rw [itr_add, itr_add l j, e]
  intro k
  induction k using Nat.strongRecOn with
  | _ k ih =>
    rcases Nat.lt_or_ge l.length k with hk | hk
    · have := hper (k - j)
      rw [show j + (k - j) = k by omega] at this
      rw [← this]
      exact ih _ (by omega)
    · exact (hin k hk).1
def aboveL (l : List Rch) (g : Int) : List Int := ((List.range l.length).filter fun k : Nat => decide (dnOf l k = g)).map fun k : Nat => (k : Int)
end Go.Proofs.YtcdgibkbbcekhaaGreatDoor
/-
  Plain laws of rivers: paths as steps, kernels along paths.
-/
namespace Go.Proofs.YtcdgibkbbcekhaaGreatDoor
open Go.RowKit Go.Sl Go.Num
theorem Riv.dpt_itr {l : List Rch} (h : Riv l) : ∀ (i : Nat) {g : Int}, g < l.length → -1 ≤ g → 0 ≤ itr l i g → dpt l (itr l i g) + i = dpt l g
  | 0, _, _, _, _ => rfl
  | i + 1, g, h1, h2, h3 => by
    rw [itr] at h3 ⊢
    by_cases h0 : g < 0
    · rw [dnOf_neg h0] at h3
      have : itr l i (-1) < 0 := itr_neg (by decide)
      omega
    · have h4 := h.dn (by omega) h1
      have h5 := h.dpt_itr i h4.2.1 h4.1 h3
      have h6 := h.ddn (by omega) h1
      omega
theorem Riv.inj {l : List Rch} (h : Riv l) {g : Int} (h1 : g < l.length) (h2 : -1 ≤ g) {i j : Nat} (h3 : itr l i g = itr l j g) (h4 : 0 ≤ itr l i g) : i = j := by
  have e1 := h.dpt_itr i h1 h2 h4
  have e2 := h.dpt_itr j h1 h2 (by omega)
  rw [h3] at e1
  omega
/-! ### kernels along a way -/
def ker1 (l : List Rch) (g : Int) : List Int := if g < 0 then [] else match l[g.toNat]? with
  | some r => r.ws
  | none => []
end Go.Proofs.YtcdgibkbbcekhaaGreatDoor
/-
  Plain laws of rivers: an order in which each gauge comes before its way down.
-/
namespace Go.Proofs.YtcdgibkbbcekhaaGreatDoor
open Go.RowKit Go.Sl Go.Num
structure Ordd (l : List Rch) (out : List Int) : Prop where
  nd : out.Nodup
  rng : ∀ x ∈ out, 0 ≤ x ∧ x < l.length
  up : ∀ p (hp : p < out.length), ∀ u ∈ aboveL l out[p], u ∈ out.take p
end Go.Proofs.YtcdgibkbbcekhaaGreatDoor
/-
  Plain laws of what arrives: weights by ticks.
-/
namespace Go.Proofs.YtcdgibkbbcekhaaGreatDoor
open Go.RowKit Go.Sl Go.Num
/-! ### ticks with one weight together -/
abbrev Prt := Int × Int × Int
def addP (out : List Prt) (t w : Int) : List Prt := if w = 0 then out else match out.getLast? with
  | none => [(t, t + 1, w)]
  | some p => if p.2.1 = t ∧ p.2.2 = w then out.dropLast ++ [(p.1, t + 1, w)] else out ++ [(t, t + 1, w)]
structure Prts (W : Int → Int) (t0 t : Int) (out : List Prt) : Prop where
  ord : out.Pairwise fun p q => p.2.1 ≤ q.1
  mem : ∀ p ∈ out, t0 ≤ p.1 ∧ p.1 < p.2.1 ∧ p.2.1 ≤ t ∧ ∀ s, p.1 ≤ s → s < p.2.1 → W s = p.2.2 ∧ p.2.2 ≠ 0
  at_ : ∀ s, t0 ≤ s → s < t → W s ≠ 0 → ∃ p ∈ out, p.1 ≤ s ∧ s < p.2.1
theorem Prts.nil (W : Int → Int) (t : Int) : Prts W t t [] := ⟨.nil, fun p h => by (cases h), fun s h1 h2 => by omega⟩
theorem Prts.add {W : Int → Int} {t0 t : Int} {out : List Prt} (h : Prts W t0 t out) (h0 : t0 ≤ t) : Prts W t0 (t + 1) (addP out t (W t)) := by
  rw [addP]
  by_cases hw : W t = 0
  · rw [if_pos hw]
    refine ⟨h.ord, fun p hp => ?_, fun s h1 h2 h3 => ?_⟩
    · have := h.mem p hp; exact ⟨this.1, this.2.1, by omega, this.2.2.2⟩
    · refine h.at_ s h1 ?_ h3
      by_cases e : s = t
      · subst e; exact absurd hw h3
      · omega
  rw [if_neg hw]
  have hnew : ∀ o : List Prt, Prts W t0 t o → Prts W t0 (t + 1) (o ++ [(t, t + 1, W t)]) := fun o h => by
    refine ⟨?_, fun p hp => ?_, fun s h1 h2 h3 => ?_⟩
    · rw [List.pairwise_append]
      refine ⟨h.ord, List.pairwise_singleton .., fun a ha b hb => ?_⟩
      rw [List.mem_singleton.1 hb]
      exact (h.mem a ha).2.2.1
    · rcases List.mem_append.1 hp with hp | hp
      · have := h.mem p hp; exact ⟨this.1, this.2.1, by omega, this.2.2.2⟩
      · rw [List.mem_singleton.1 hp]
        refine ⟨h0, by dsimp only; omega, Int.le_refl _, fun s h1 h2 => ?_⟩
        dsimp only at h1 h2 ⊢
        obtain rfl : s = t := by omega
        exact ⟨rfl, hw⟩
    · by_cases e : s = t
      · exact ⟨_, List.mem_append_right _ (List.mem_singleton.2 rfl), by dsimp only; omega, by dsimp only; omega⟩
      · obtain ⟨p, hp, h4⟩ := h.at_ s h1 (by omega) h3
        exact ⟨p, List.mem_append_left _ hp, h4⟩
  rcases nil_or_snoc out with rfl | ⟨o, p, rfl⟩
  · exact hnew [] h
  · rw [List.getLast?_concat]
    dsimp only
    by_cases hp : p.2.1 = t ∧ p.2.2 = W t
    · rw [if_pos hp, List.dropLast_concat]
      have hord := List.pairwise_append.1 h.ord
      have hpm := h.mem p (List.mem_append_right _ (List.mem_singleton.2 rfl))
      refine ⟨?_, fun q hq => ?_, fun s h1 h2 h3 => ?_⟩
      · rw [List.pairwise_append]
        refine ⟨hord.1, List.pairwise_singleton .., fun a ha b hb => ?_⟩
        rw [List.mem_singleton.1 hb]
        exact hord.2.2 a ha p (List.mem_singleton.2 rfl)
      · rcases List.mem_append.1 hq with hq | hq
        · have := h.mem q (List.mem_append_left _ hq); exact ⟨this.1, this.2.1, by omega, this.2.2.2⟩
        · rw [List.mem_singleton.1 hq]
          refine ⟨hpm.1, by dsimp only; omega, Int.le_refl _, fun s h1 h2 => ?_⟩
          dsimp only at h1 h2 ⊢
          by_cases e : s = t
          · subst e; exact ⟨rfl, hw⟩
          · have := hpm.2.2.2 s h1 (by omega)
            exact ⟨this.1.trans hp.2, hw⟩
      · by_cases e : s = t
        · exact ⟨_, List.mem_append_right _ (List.mem_singleton.2 rfl), by dsimp only; omega, by dsimp only; omega⟩
        · obtain ⟨q, hq, h4⟩ := h.at_ s h1 (by omega) h3
          rcases List.mem_append.1 hq with hq | hq
          · exact ⟨q, List.mem_append_left _ hq, h4⟩
          · rw [List.mem_singleton.1 hq] at h4
            exact ⟨_, List.mem_append_right _ (List.mem_singleton.2 rfl), h4.1, by dsimp only; omega⟩
    · rw [if_neg hp]; exact hnew _ h
end Go.Proofs.YtcdgibkbbcekhaaGreatDoor
/-
  Plain laws of routing: what arrives in an interval is the sum of the flows, each with its weight.
-/
namespace Go.Proofs.YtcdgibkbbcekhaaGreatDoor
open Go.RowKit Go.Sl Go.Num
def fsq (l : List Rat) (i : Nat) : Rat := l.getD i 0
end Go.Proofs.YtcdgibkbbcekhaaGreatDoor
/-
  Plain laws of rivers: the kernel along a way is that of both its parts.
-/
namespace Go.Proofs.YtcdgibkbbcekhaaGreatDoor
open Go.RowKit Go.Sl Go.Num
theorem Riv.pos {l : List Rch} (h : Riv l) {g : Int} (h1 : 0 ≤ g ∧ g < l.length) (h2 : 0 ≤ dnOf l g) : Pos (ker1 l g) ∧ kerErr (ker1 l g) = 0 := by
  obtain ⟨k, rfl⟩ : ∃ k : Nat, g = k := ⟨g.toNat, by omega⟩
  have hk : k < l.length := by omega
  rw [dnOf_at hk] at h2
  rw [ker1, if_neg (by omega), Int.toNat_natCast, List.getElem?_eq_getElem hk]
  exact ⟨(ker_of (h.ker k hk h2)).pos, h.ker k hk h2⟩
end Go.Proofs.YtcdgibkbbcekhaaGreatDoor
/-
  Contracts of kernels: divisor, total, the error.
-/
namespace Go.Proofs.YtcdgibkbbcekhaaGreatDoor
open Go.RowKit Go.Sl Go.Num
def wOk (k : List Int) : Prop := (∀ w ∈ k, 0 ≤ w ∧ w ≤ 999999999999999) ∧ k.length ≤ 1000
theorem total_holds (a : Option Addr) (k : List Int) (c : Nat) (w : World) (hA : SlAt w a 1 (k.map isV)) (hk : wOk k) :
    Calls Tryz.prog 177 #[.agg #[.slice a k.length c]] w fun e w' => e = .returned (.int .i64 (sumL k)) ∧ Below w.heap.size w w' := by
  generalize hT : sumL k = T
  refine enterA [(0, .agg #[.slice a k.length c])] Tryz.func177 Tryz.ntmps177 ?_
  all_goals (refine go ?_; and_intros <;> (try exact trivial) <;> repeat (first | refine fun (Bk : Nat) => ?_ | intro h))
  refine J.loop (c := _) ((0, 0) : Nat × Int) (fun s => k.length - s.1) (fun s => [(3, .int .i64 s.2), (7, .slice a k.length c), (8, .int .i64 k.length), (9, .int .i64 s.1)]) (fun s => []) (fun s => s.1 ≤ k.length ∧ s.2 + sumL (k.drop s.1) = T ∧ 0 ≤ s.2 ∧ s.2 ≤ 999999999999999 * s.1) ?_ sbT sbL ?_
  · exact ⟨Nat.zero_le _, by rw [List.drop_zero, Int.zero_add]; exact hT, Int.le_refl _, Int.le_refl _⟩
  intro ⟨i, x⟩ ⟨h1, h2, h3, h4⟩ ih
  dsimp only at h1 h2 h3 h4 ⊢
  have hl := hk.2
  by_cases hi : i < k.length
  · obtain ⟨ba, oa, rfl, hra⟩ := SlAt.all hA (by omega)
    have hri := hra i hi
    have hw := hk.1 _ (List.getElem_mem hi)
    rw [List.drop_eq_getElem_cons hi, sumL] at h2
    clear hra hk
    have ih := ih (i + 1, x + k[i]) ⟨hi, by rw [← h2]; dsimp only; omega, by dsimp only; omega, by dsimp only; omega⟩ (by dsimp only; omega)
    generalize k[i] = z at *
    dsimp only [isV] at hri
    all_goals (refine go ?_; and_intros <;> (try exact trivial) <;> repeat (first | refine fun (Bk : Nat) => ?_ | intro h))
    exact J.fin ih
  · obtain rfl : i = k.length := by omega
    rw [List.drop_length, sumL, Int.add_zero] at h2
    subst h2
    clear ih
    all_goals (refine go ?_; and_intros <;> (try exact trivial) <;> repeat (first | refine fun (Bk : Nat) => ?_ | intro h))
    all_goals refine ret1b Tryz.func177 Tryz.results177 ?_
    all_goals rfl
end Go.Proofs.YtcdgibkbbcekhaaGreatDoor
/-
  Contracts of kernels: the error, the total.
-/
namespace Go.Proofs.YtcdgibkbbcekhaaGreatDoor
open Go.RowKit Go.Sl Go.Num
theorem badW_no {z : Int} (h : badW z = false) : 0 ≤ z ∧ z ≤ 999999999999999 := by
  rw [badW, Bool.or_eq_false_iff, decide_eq_false_iff_not, decide_eq_false_iff_not] at h; omega
theorem badW_yes {z : Int} (h : ¬ badW z = false) : z < 0 ∨ 999999999999999 < z := by
  rw [Bool.not_eq_false, badW, Bool.or_eq_true, decide_eq_true_eq, decide_eq_true_eq] at h; exact h
theorem any_yes {k : List Int} {i : Nat} (hi : i < k.length) (h : ¬ badW k[i] = false) : k.any badW = true := List.any_eq_true.2 ⟨_, List.getElem_mem hi, by simpa using h⟩
theorem any_no {k : List Int} (h : ∀ i (hi : i < k.length), badW k[i] = false) : k.any badW = false := List.any_eq_false.2 fun x hx => by
  obtain ⟨i, hi, rfl⟩ := List.getElem_of_mem hx
  simp [h i hi]
theorem wOk_of {k : List Int} (h : ∀ i (hi : i < k.length), badW k[i] = false) (hl : k.length ≤ 400) : wOk k := ⟨fun w hw => by
  obtain ⟨i, hi, rfl⟩ := List.getElem_of_mem hw
  exact badW_no (h i hi), by omega⟩
theorem Ker.wOk {k : List Int} (h : Ker k) : wOk k := ⟨h.nn, by have := h.len; omega⟩
theorem kCheck_holds (a : Option Addr) (k : List Int) (c : Nat) (w : World) (hA : SlAt w a 1 (k.map isV)) :
    Calls Tryz.prog 158 #[.agg #[.slice a k.length c]] w fun e w' => e = .returned (.int .i64 (kerErr k)) ∧ Below w.heap.size w w' := by
  rw [kerErr]
  refine enterA [(0, .agg #[.slice a k.length c])] Tryz.func158 Tryz.ntmps158 ?_
  by_cases hl : k.length < 1 ∨ 400 < k.length
  · rw [if_pos hl]
    all_goals (refine go ?_; and_intros <;> (try exact trivial) <;> repeat (first | refine fun (Bk : Nat) => ?_ | intro h))
    all_goals refine ret1b Tryz.func158 Tryz.results158 ?_
    all_goals rfl
  rw [if_neg hl]
  all_goals (refine go ?_; and_intros <;> (try exact trivial) <;> repeat (first | refine fun (Bk : Nat) => ?_ | intro h))
  all_goals
    refine J.loop (c := _) (0 : Nat) (fun s => k.length - s) (fun s => [(1, .pointer (some ⟨_, 0, none⟩)), (17, .slice a k.length c), (18, .int .i64 k.length), (19, .int .i64 s)]) (fun s => [.blk _ 181 [.slice a k.length c] 1]) (fun s => s ≤ k.length ∧ ∀ i (hi : i < k.length), i < s → badW k[i] = false) ?_ sbT sbL ?_
    · exact ⟨Nat.zero_le _, fun i h h2 => absurd h2 (Nat.not_lt_zero _)⟩
    intro i ⟨h1, h2⟩ ih
    by_cases hi : i < k.length
    · obtain ⟨ba, oa, rfl, hra⟩ := SlAt.all hA (by omega)
      have hri := hra i hi
      by_cases hb : badW k[i] = false
      · have ih := ih (i + 1) ⟨hi, fun j hj hj2 => by
          rcases Nat.lt_or_ge j i with h | h
          · exact h2 j hj h
          · obtain rfl : j = i := by omega
            exact hb⟩ (by omega)
        have hb := badW_no hb
        clear hra h2
        generalize k[i] = z at *
        dsimp only [isV] at hri
        all_goals (refine go ?_; and_intros <;> (try exact trivial) <;> repeat (first | refine fun (Bk : Nat) => ?_ | intro h))
        exact J.fin ih
      · rw [if_pos (any_yes hi hb)]
        have hb := badW_yes hb
        clear hra h2 ih
        generalize k[i] = z at *
        dsimp only [isV] at hri
        all_goals (refine go ?_; and_intros <;> (try exact trivial) <;> repeat (first | refine fun (Bk : Nat) => ?_ | intro h))
        all_goals refine ret1b Tryz.func158 Tryz.results158 ?_
        all_goals rfl
    · obtain rfl : i = k.length := by omega
      have h3 := fun j hj => h2 j hj hj
      have ht := fun w' (hb : Below w.heap.size w w') => total_holds a k c w' (hA.below hb) (wOk_of h3 (by omega))
      rw [any_no h3, if_neg (by decide)]
      clear ih h2 h3
      generalize sumL k = T at *
      by_cases hT : 999999999999999 < T
      · rw [if_pos hT]
        all_goals (refine go ?_; and_intros <;> (try exact trivial) <;> repeat (first | refine fun (Bk : Nat) => ?_ | intro h))
        repeat' ((first | (refine G.cvb ht ?_)) <;> (refine go ?_; and_intros <;> (try exact trivial) <;> repeat (first | refine fun (Bk : Nat) => ?_ | intro h)))
        all_goals refine ret1b Tryz.func158 Tryz.results158 ?_
        all_goals rfl
      rw [if_neg hT]
      by_cases h0 : T = 0
      · subst h0
        rw [if_pos rfl]
        all_goals (refine go ?_; and_intros <;> (try exact trivial) <;> repeat (first | refine fun (Bk : Nat) => ?_ | intro h))
        repeat' ((first | (refine G.cvb ht ?_)) <;> (refine go ?_; and_intros <;> (try exact trivial) <;> repeat (first | refine fun (Bk : Nat) => ?_ | intro h)))
        all_goals refine ret1b Tryz.func158 Tryz.results158 ?_
        all_goals rfl
      rw [if_neg h0]
      all_goals (refine go ?_; and_intros <;> (try exact trivial) <;> repeat (first | refine fun (Bk : Nat) => ?_ | intro h))
      repeat' ((first | (refine G.cvb ht ?_)) <;> (refine go ?_; and_intros <;> (try exact trivial) <;> repeat (first | refine fun (Bk : Nat) => ?_ | intro h)))
      all_goals refine ret1b Tryz.func158 Tryz.results158 ?_
      all_goals rfl
end Go.Proofs.YtcdgibkbbcekhaaGreatDoor
/-
  Contracts of kernels: reduced lists.
-/
namespace Go.Proofs.YtcdgibkbbcekhaaGreatDoor
open Go.RowKit Go.Sl Go.Num
/-- What a call returns that lays a list of numbers anew, within a value. -/
def RetI (F : Value → Value) (w : World) (L : List Int) (e : Ending) (w' : World) : Prop := ∃ a' c', e = .returned (F (.slice a' L.length c')) ∧ SlAt w' a' 1 (L.map isV) ∧ (∀ p, a' = some p → w.heap.size ≤ p.block) ∧ Below w.heap.size w w'
end Go.Proofs.YtcdgibkbbcekhaaGreatDoor
/-
  Contracts of kernels: reduced lists by the specification; Reduce and Delay of both.
-/
namespace Go.Proofs.YtcdgibkbbcekhaaGreatDoor
open Go.RowKit Go.Sl Go.Num
theorem retI_nil {w w' : World} (F : Value → Value) (hb : Below w.heap.size w w') : RetI F w [] (.returned (F (.slice none 0 0))) w' := ⟨none, 0, rfl, SlAt.nil, (fun p hp => by cases hp), hb⟩
end Go.Proofs.YtcdgibkbbcekhaaGreatDoor
/-
  Contracts: parts of kernels, equal lists, equal kernels.
-/
namespace Go.Proofs.YtcdgibkbbcekhaaGreatDoor
open Go.RowKit Go.Sl Go.Num
theorem eq_all {l m : List Int} (hl : l.length = m.length) (h : ∀ i (h : i < l.length) (h2 : i < m.length), i < l.length → l[i] = m[i]) : l = m := List.ext_getElem hl fun i h1 h2 => h i h1 h2 h1
theorem sameInts_holds (a b : Option Addr) (l m : List Int) (c d : Nat) (w : World) (hA : SlAt w a 1 (l.map isV)) (hB : SlAt w b 1 (m.map isV)) (hn : l.length ≤ 1000000000) :
    Calls Tryz.prog 57 #[.slice a l.length c, .slice b m.length d] w fun e w' => e = .returned (.bool (decide (l = m))) ∧ Below w.heap.size w w' := by
  refine enterA [(0, .slice a l.length c), (1, .slice b m.length d)] Tryz.func57 Tryz.ntmps57 ?_
  by_cases hl : l.length = m.length
  case neg =>
    rw [decide_eq_false (fun e => hl (by rw [e]))]
    all_goals (refine go ?_; and_intros <;> (try exact trivial) <;> repeat (first | refine fun (Bk : Nat) => ?_ | intro h))
    all_goals refine ret1b Tryz.func57 Tryz.results57 ?_
    all_goals rfl
  all_goals (refine go ?_; and_intros <;> (try exact trivial) <;> repeat (first | refine fun (Bk : Nat) => ?_ | intro h))
  refine J.loop (c := _) (0 : Nat) (fun s => l.length - s) (fun s => [(0, .slice a l.length c), (1, .slice b m.length d), (5, .int .i64 s)]) (fun s => []) (fun s => s ≤ l.length ∧ ∀ i (h : i < l.length) (h2 : i < m.length), i < s → l[i] = m[i]) ?_ sbT sbL ?_
  · exact ⟨Nat.zero_le _, fun i _ _ h => absurd h (Nat.not_lt_zero _)⟩
  intro i ⟨h1, h2⟩ ih
  by_cases hi : i < l.length
  · have hj : i < m.length := by omega
    obtain ⟨ba, oa, rfl, hra⟩ := SlAt.all hA (by omega)
    obtain ⟨bb, ob, rfl, hrb⟩ := SlAt.all hB (by omega)
    have hri := hra i hi
    have hrj := hrb i hj
    by_cases he : l[i] = m[i]
    · have ih := ih (i + 1) ⟨hi, fun j q1 q2 q3 => by
        rcases Nat.lt_or_ge j i with h | h
        · exact h2 j q1 q2 h
        · obtain rfl : j = i := by omega
          exact he⟩ (by omega)
      clear hra hrb h2
      generalize l[i] = y at *
      generalize m[i] = z at *
      dsimp only [isV] at hri hrj
      all_goals (refine go ?_; and_intros <;> (try exact trivial) <;> repeat (first | refine fun (Bk : Nat) => ?_ | intro h))
      exact J.fin ih
    · rw [decide_eq_false (fun e => he (by subst e; rfl))]
      clear hra hrb h2 ih
      generalize l[i] = y at *
      generalize m[i] = z at *
      dsimp only [isV] at hri hrj
      all_goals (refine go ?_; and_intros <;> (try exact trivial) <;> repeat (first | refine fun (Bk : Nat) => ?_ | intro h))
      all_goals refine ret1b Tryz.func57 Tryz.results57 ?_
      all_goals rfl
  · obtain rfl : i = l.length := by omega
    rw [decide_eq_true (eq_all hl h2)]
    clear ih
    all_goals (refine go ?_; and_intros <;> (try exact trivial) <;> repeat (first | refine fun (Bk : Nat) => ?_ | intro h))
    all_goals refine ret1b Tryz.func57 Tryz.results57 ?_
    all_goals rfl
end Go.Proofs.YtcdgibkbbcekhaaGreatDoor
/-
  A region that draws its order, cut in two: operations in any order, then others in a row. The latter may call a loop's round.
-/
namespace Go.Sl
open Go.RowKit
variable {C : Ctx} {st : List (Nat × Value)} {M : List Row} {k : List Item}
/-- From n on each operation waits for all before it; those before n wait for earlier ones alone. -/
def cutB (l : List Oper) (n : Nat) : Bool :=
  (List.range l.length).all fun j => match l[j]? with
    | none => true
    | some o => (o.after.all fun e => !Region.binds .any e || decide (e.on < j)) && (if j < n then (match o.guard with | some (g, _) => decide (g < n) | none => true) else (List.range j).all fun i => ((Region.before l.toArray).getD j 0).testBit i)
structure CutOk (l : List Oper) (n : Nat) : Prop where
  back : ∀ j o, l[j]? = some o → ∀ e ∈ o.after, Region.binds .any e = true → e.on < j
  gd : ∀ j o g v, l[j]? = some o → j < n → o.guard = some (g, v) → g < n
  wait : ∀ j i, j < l.length → n ≤ j → i < j → Path l.toArray j i
theorem cut_ok {l : List Oper} {n : Nat} (h : cutB l n = true) : CutOk l n := by
  have key : ∀ j o, l[j]? = some o → (∀ e ∈ o.after, Region.binds .any e = true → e.on < j) ∧ (if j < n then (match o.guard with | some (g, _) => decide (g < n) | none => true) else (List.range j).all fun i => ((Region.before l.toArray).getD j 0).testBit i) = true := fun j o ho => by
    have hj := (List.getElem?_eq_some_iff.1 ho).1
    have := List.all_eq_true.1 h j (List.mem_range.2 hj)
    rw [ho] at this
    dsimp only at this
    rw [Bool.and_eq_true] at this
    refine ⟨fun e he hb => ?_, this.2⟩
    have h2 := (Array.all_eq_true_iff_forall_mem.1 this.1) e he
    rw [hb] at h2
    simpa using h2
  refine ⟨fun j o ho => (key j o ho).1, fun j o g v ho hj hg => ?_, fun j i hj hn hi => ?_⟩
  · have := (key j o ho).2
    rw [if_pos hj, hg] at this
    exact of_decide_eq_true this
  · have ho : l[j]? = some l[j] := List.getElem?_eq_getElem hj
    have := (key j _ ho).2
    rw [if_neg (by omega)] at this
    exact before_path (List.all_eq_true.1 this i (List.mem_range.2 hi))
theorem lin_cons {ops : Array Oper} {F t : Nat} {listed : Array Bool} : (Region.ready .any ops listed = [] ∧ Region.linearise.go .any ops (F + 1) t listed [] = []) ∨ ∃ i t', i ∈ Region.ready .any ops listed ∧ Region.linearise.go .any ops (F + 1) t listed [] = i :: Region.linearise.go .any ops F t' (listed.setIfInBounds i true) [] := by
  cases hi : (Region.ready .any ops listed)[t % (Region.ready .any ops listed).length]? with
  | none =>
    left
    have hnil : Region.ready .any ops listed = [] := by
      cases hr : Region.ready .any ops listed with
      | nil => rfl
      | cons x xs =>
        rw [hr] at hi
        have hlt : t % (x :: xs).length < (x :: xs).length := Nat.mod_lt _ (by simp)
        simp at hi
        simp at hlt
        omega
    refine ⟨hnil, ?_⟩
    simp only [Region.linearise.go]
    change (match (Region.ready .any ops listed)[t % (Region.ready .any ops listed).length]? with
      | some i => Region.linearise.go .any ops F (t / (Region.ready .any ops listed).length) (listed.setIfInBounds i true) [i]
      | none => [].reverse) = []
    rw [hi]; rfl
  | some i =>
    right
    refine ⟨i, t / (Region.ready .any ops listed).length, List.mem_of_getElem? hi, ?_⟩
    simp only [Region.linearise.go]
    change (match (Region.ready .any ops listed)[t % (Region.ready .any ops listed).length]? with
      | some i => Region.linearise.go .any ops F (t / (Region.ready .any ops listed).length) (listed.setIfInBounds i true) [i]
      | none => [].reverse) = _
    rw [hi]
    simp only []
    rw [linearise_go_acc, List.reverse_singleton, List.singleton_append]
/-- What is still to come, when the first j are listed. -/
theorem lin_rest {l : List Oper} {n : Nat} (hc : CutOk l n) : ∀ (F j t : Nat) (listed : Array Bool), n ≤ j → j ≤ l.length → l.length - j ≤ F → listed.size = l.length → (∀ i, i < l.length → listed.getD i false = decide (i < j)) → DC l.toArray listed →
    Region.linearise.go .any l.toArray F t listed [] = List.range' j (l.length - j)
  | 0, j, t, listed, h1, h2, h3, _, _, _ => by
    rw [show l.length - j = 0 by omega]; rfl
  | F + 1, j, t, listed, h1, h2, h3, hz, h4, hdc => by
    have hget : ∀ i, i < l.length → listed.getD i true = decide (i < j) := fun i hi => by
      rw [← h4 i hi, Array.getD_eq_getD_getElem?, Array.getD_eq_getD_getElem?, Array.getElem?_eq_getElem (by omega)]; rfl
    have hrd : ∀ i, i ∈ Region.ready .any l.toArray listed → i = j ∧ j < l.length := fun i hi => by
      obtain ⟨q1, o, q2, _⟩ := mem_ready.1 hi
      have q3 := (Array.getElem?_eq_some_iff.1 q2).1
      rw [List.size_toArray] at q3
      rw [hget i q3, decide_eq_false_iff_not] at q1
      rcases Nat.lt_or_ge j i with q4 | q4
      · have := (hc.wait i j q3 (by omega) q4).listed hdc hi
        rw [h4 j (by omega), decide_eq_true_eq] at this
        omega
      · exact ⟨by omega, by omega⟩
    rcases lin_cons (ops := l.toArray) (F := F) (t := t) (listed := listed) with ⟨q1, q2⟩ | ⟨i, t', q1, q2⟩
    · rcases Nat.lt_or_ge j l.length with hj | hj
      · have : j ∈ Region.ready .any l.toArray listed := mem_ready.2 ⟨by rw [hget j hj]; simp, l[j], by simp [hj], fun e he hb => by
          have := hc.back j _ (List.getElem?_eq_getElem hj) e he hb
          rw [h4 _ (by omega)]; simpa using this⟩
        rw [q1] at this; cases this
      · rw [q2, show l.length - j = 0 by omega]; rfl
    · obtain ⟨rfl, hj⟩ := hrd i q1
      rw [q2, lin_rest hc F (i + 1) t' _ (by omega) (by omega) (by omega) (by simpa using hz) (fun m hm => ?_) (hdc.set q1), show l.length - i = l.length - (i + 1) + 1 by omega, List.range'_succ]
      by_cases e : i = m
      · subst e
        rw [Array.getD_eq_getD_getElem?, Array.getElem?_setIfInBounds_self_of_lt (by omega)]; simp
      · rw [getD_set_ne false e, h4 m hm]
        exact decide_eq_decide.2 (by omega)
theorem wanted_take {l : List Oper} {n j : Nat} (hc : CutOk l n) {o : Oper} (ho : l[j]? = some o) (hj : j < n) (tmps : Array Value) : Region.wanted o (yielded (l.take n).toArray tmps) = Region.wanted o (yielded l.toArray tmps) := by
  unfold Region.wanted
  cases hg : o.guard with
  | none => rfl
  | some p =>
    obtain ⟨g, v⟩ := p
    have := hc.gd j o g v ho hj hg
    have e : yielded (l.take n).toArray tmps g = yielded l.toArray tmps g := by
      unfold yielded
      rw [List.getElem?_toArray, List.getElem?_toArray, List.getElem?_take_of_lt this]
    dsimp only
    rw [e]
/-- The first n in any order, then the rest. -/
theorem run_cut {l : List Oper} {n : Nat} (hn : n ≤ l.length) (hc : CutOk l n) (hnd : noDefer l = true) : ∀ (c F t : Nat) (listed listed' : Array Bool) (a : Act) (w : World), listed.size = l.length → listed'.size = n → (∀ i, i < n → listed'.getD i false = listed.getD i false) → (∀ i, n ≤ i → listed.getD i false = false) → DC l.toArray listed →
    ((List.range l.length).filter fun i => !listed.getD i true).length ≤ F →
    wpAny C.P .any (l.take n).toArray (Qk C (.inRegion l.toArray (List.range' n (l.length - n)) :: k)) c listed' a w → Run C.P C.b C.PHI (.inRegion l.toArray (Region.linearise.go .any l.toArray F t listed []) :: k) a w := by
  have hopn : ∀ i, i < n → (l.take n).toArray[i]? = l.toArray[i]? := fun i hi => by
    rw [List.getElem?_toArray, List.getElem?_toArray, List.getElem?_take_of_lt hi]
  -- ready in the first part
  have hrdy : ∀ (listed listed' : Array Bool), listed.size = l.length → listed'.size = n → (∀ i, i < n → listed'.getD i false = listed.getD i false) → ∀ i, i < n → i ∈ Region.ready .any l.toArray listed → i ∈ Region.ready .any (l.take n).toArray listed' := fun listed listed' z1 z2 h1 i hi hr => by
    obtain ⟨q1, o, q2, q3⟩ := mem_ready.1 hr
    refine mem_ready.2 ⟨?_, o, by rw [hopn i hi]; exact q2, fun e he hb => ?_⟩
    · have := h1 i hi
      rw [Array.getD_eq_getD_getElem?, Array.getElem?_eq_getElem (by omega)] at q1 this ⊢
      rw [Array.getD_eq_getD_getElem?, Array.getElem?_eq_getElem (by omega)] at this
      simp only [Option.getD_some] at q1 this ⊢
      rw [this]; exact q1
    · have q4 := hc.back i o (by rw [← List.getElem?_toArray]; exact q2) e he hb
      rw [h1 _ (by omega)]; exact q3 e he hb
  -- some one is ready
  have hleast : ∀ (listed : Array Bool), listed.size = l.length → ∀ m, m < n → listed.getD m false = false → ∃ i, i < n ∧ i ∈ Region.ready .any l.toArray listed := fun listed hz m => by
    induction m using Nat.strongRecOn with
    | _ m ih =>
      intro hm hl
      by_cases hx : ∃ m', m' < m ∧ listed.getD m' false = false
      · obtain ⟨m', h1, h2⟩ := hx
        exact ih m' h1 (by omega) h2
      · refine ⟨m, hm, mem_ready.2 ⟨?_, l[m], by simp [show m < l.length by omega], fun e he hb => ?_⟩⟩
        · rw [Array.getD_eq_getD_getElem?, Array.getElem?_eq_getElem (by omega)] at hl ⊢; exact hl
        · have := hc.back m _ (List.getElem?_eq_getElem (by omega)) e he hb
          by_cases h3 : listed.getD e.on false = true
          · exact h3
          · rw [Bool.not_eq_true] at h3
            exact absurd ⟨_, this, h3⟩ hx
  have hdone : ∀ (F t : Nat) (listed : Array Bool) (a : Act) (w : World), listed.size = l.length → (∀ i, n ≤ i → listed.getD i false = false) → DC l.toArray listed → ((List.range l.length).filter fun i => !listed.getD i true).length ≤ F → (∀ m, m < n → listed.getD m false = true) →
      Qk C (.inRegion l.toArray (List.range' n (l.length - n)) :: k) .normal a w → Run C.P C.b C.PHI (.inRegion l.toArray (Region.linearise.go .any l.toArray F t listed []) :: k) a w := fun F t listed a w hz h2 hdc hF hall hQ => by
    have hl : ∀ i, i < l.length → listed.getD i false = decide (i < n) := fun i hi => by
      by_cases h : i < n
      · rw [hall i h]; simp [h]
      · rw [h2 i (by omega)]; simp [h]
    have hF2 : l.length - n ≤ F := by
      refine Nat.le_trans ?_ hF
      have : (List.range l.length).filter (fun i => !listed.getD i true) = (List.range l.length).filter (fun i => decide (n ≤ i)) := List.filter_congr fun i hi => by
        rw [List.mem_range] at hi
        have := hl i hi
        rw [Array.getD_eq_getD_getElem?, Array.getElem?_eq_getElem (by omega)] at this ⊢
        simp only [Option.getD_some] at this ⊢
        rw [this]
        by_cases h : i < n
        · simp [h]
        · simp [h, Nat.le_of_not_lt h]
      rw [this]
      have e : (List.range' n (l.length - n)).Sublist ((List.range l.length).filter fun i => decide (n ≤ i)) := by
        have h3 : (List.range' n (l.length - n)).filter (fun i => decide (n ≤ i)) = List.range' n (l.length - n) := List.filter_eq_self.2 fun i hi => by
          rw [List.mem_range'_1] at hi; exact decide_eq_true hi.1
        rw [← h3]
        refine List.Sublist.filter _ ?_
        rw [List.range_eq_range', show l.length = n + (l.length - n) by omega, List.range'_append_1.symm]
        rw [show n + (l.length - n) - n = l.length - n by omega, Nat.zero_add]
        exact List.sublist_append_right ..
      have := e.length_le
      rwa [List.length_range'] at this
    rw [lin_rest hc F n t listed (Nat.le_refl _) hn hF2 hz hl hdc]
    exact hQ.2
  intro c
  induction c with
  | zero =>
    intro F t listed listed' a w z1 z2 h1 h2 hdc hF hw
    refine hdone F t listed a w z1 h2 hdc hF (fun m hm => ?_) hw.2
    by_cases h : listed.getD m false = true
    · exact h
    · rw [Bool.not_eq_true] at h
      obtain ⟨i, q1, q2⟩ := hleast listed z1 m hm h
      have := hrdy listed listed' z1 z2 h1 i q1 q2
      rw [hw.1] at this; cases this
  | succ c ih =>
    intro F t listed listed' a w z1 z2 h1 h2 hdc hF hw
    by_cases hall : ∀ m, m < n → listed.getD m false = true
    · refine hdone F t listed a w z1 h2 hdc hF hall (hw.1 ?_)
      refine List.eq_nil_iff_forall_not_mem.2 fun i hi => ?_
      obtain ⟨q1, o, q2, _⟩ := mem_ready.1 hi
      have q3 := (Array.getElem?_eq_some_iff.1 q2).1
      rw [List.size_toArray, List.length_take] at q3
      have := h1 i (by omega)
      rw [hall i (by omega), Array.getD_eq_getD_getElem?, Array.getElem?_eq_getElem (by omega)] at this
      rw [Array.getD_eq_getD_getElem?, Array.getElem?_eq_getElem (by omega)] at q1
      simp only [Option.getD_some] at q1 this
      rw [this] at q1; cases q1
    · have hex : ∃ m, m < n ∧ listed.getD m false = false := by
        by_cases h : ∃ m, m < n ∧ listed.getD m false = false
        · exact h
        · exact absurd (fun m hm => by
            by_cases h3 : listed.getD m false = true
            · exact h3
            · rw [Bool.not_eq_true] at h3; exact absurd ⟨m, hm, h3⟩ h) hall
      obtain ⟨m, hm, hml⟩ := hex
      obtain ⟨i0, p1, p2⟩ := hleast listed z1 m hm hml
      cases F with
      | zero =>
        have : i0 ∈ (List.range l.length).filter fun i => !listed.getD i true := by
          obtain ⟨q1, o, q2, _⟩ := mem_ready.1 p2
          exact List.mem_filter.2 ⟨List.mem_range.2 (by omega), by rw [q1]; rfl⟩
        rw [List.length_eq_zero_iff.1 (Nat.le_zero.1 hF)] at this; cases this
      | succ F =>
        rcases lin_cons (ops := l.toArray) (F := F) (t := t) (listed := listed) with ⟨q1, _⟩ | ⟨i, t', q1, q2⟩
        · rw [q1] at p2; cases p2
        · have hin : i < n := by
            rcases Nat.lt_or_ge i n with h | h
            · exact h
            · have hil : i < l.length := by
                obtain ⟨_, o, q3, _⟩ := mem_ready.1 q1
                have := (Array.getElem?_eq_some_iff.1 q3).1
                rwa [List.size_toArray] at this
              have := (hc.wait i m hil h (by omega)).listed hdc q1
              rw [hml] at this; cases this
          rw [q2]
          have hrun : ∀ a' w', wpAny C.P .any (l.take n).toArray (Qk C (.inRegion l.toArray (List.range' n (l.length - n)) :: k)) c (listed'.setIfInBounds i true) a' w' → Run C.P C.b C.PHI (.inRegion l.toArray (Region.linearise.go .any l.toArray F t' (listed.setIfInBounds i true) []) :: k) a' w' := fun a' w' hw' => by
            refine ih F t' _ _ a' w' (by simpa using z1) (by simpa using z2) (fun j hj => ?_) (fun j hj => ?_) (hdc.set q1) ?_ hw'
            · by_cases e : i = j
              · subst e
                rw [Array.getD_eq_getD_getElem?, Array.getElem?_setIfInBounds_self_of_lt (by omega), Array.getD_eq_getD_getElem?, Array.getElem?_setIfInBounds_self_of_lt (by omega)]
              · rw [getD_set_ne false e, getD_set_ne false e, h1 j hj]
            · rw [getD_set_ne false (by omega), h2 j hj]
            · have hlt : ((List.range l.length).filter fun x => !(listed.setIfInBounds i true).getD x true).length < ((List.range l.length).filter fun x => !listed.getD x true).length := by
                have hsub : ((List.range l.length).filter fun x => !(listed.setIfInBounds i true).getD x true) = ((List.range l.length).filter fun x => !listed.getD x true).filter fun x => decide (x ≠ i) := by
                  rw [List.filter_filter]
                  refine List.filter_congr fun x hx => ?_
                  by_cases e : i = x
                  · subst e
                    rw [Array.getD_eq_getD_getElem?, Array.getElem?_setIfInBounds_self_of_lt (by omega)]; simp
                  · rw [getD_set_ne true e]; simp [show x ≠ i from fun h => e h.symm]
                rw [hsub]
                refine List.length_filter_lt_length_iff_exists.2 ⟨i, ?_, by simp⟩
                obtain ⟨r1, o, r2, _⟩ := mem_ready.1 q1
                exact List.mem_filter.2 ⟨List.mem_range.2 (by omega), by rw [r1]; rfl⟩
              omega
          have hop := hw.2 i (hrdy listed listed' z1 z2 h1 i hin q1)
          unfold wpOp at hop
          obtain ⟨_, o, r2, _⟩ := mem_ready.1 q1
          have hlo : l[i]? = some o := by rw [← List.getElem?_toArray]; exact r2
          rw [hopn i hin, r2] at hop
          dsimp only at hop
          rw [wanted_take hc hlo hin] at hop
          by_cases hwn : Region.wanted o (yielded l.toArray a.tmps) = true
          · rw [if_pos hwn] at hop
            rcases hop with hop | ⟨-, _, _, hq⟩
            · exact Run.op r2 hwn (.inr (noDefer_mem hnd (List.mem_of_getElem? hlo))) (Oper.upon_imp hrun (fun e a w hq => hq.1) hop)
            · exact absurd hq.1 (by simp)
          · rw [if_neg hwn] at hop
            exact Run.opSkip r2 (by simpa using hwn) (hrun _ _ hop)
/-- The region's first n operations by a plan, then the rest in a row. -/
theorem J.regY {id : Nat} {l : List Oper} (n : Nat) (p : Pt) (hm : C.P.follows .mixedOrders = true)
    (hB : ((decide (n ≤ l.length) && cutB l n) && (decide (p.size = (l.take n).length) && (planB (l.take n).toArray (Array.replicate (l.take n).length false) p && (Region.noSelect (l.take n).toArray && noDefer l)))) = true)
    (h : G (.any p) C (l.take n) st M (opsOf (l.take n) p) (.inRegion l.toArray (List.range' n (l.length - n)) :: k)) : J C st M (.code (.region id l.toArray true) :: k) := by
  simp only [Bool.and_eq_true, decide_eq_true_eq] at hB
  obtain ⟨⟨h1, h2⟩, h3, h4, h5, h6⟩ := hB
  have hlen : (l.take n).length = n := by rw [List.length_take]; omega
  refine .mk fun a w hf hd hw => ?_
  refine Run.step (a' := a) (w' := { w with drawn := w.drawn + 1 }) (fun cs => stepR_region_draw) ?_
  simp only [Region.schedule, hm, Bool.true_or, if_true]
  have h7 := h.go rfl h5 (Array.replicate (l.take n).length false) (DC.start _ _) h4 a _ hf hd hw.drawn
  rw [h3, hlen] at h7
  refine run_cut (n := n) h1 (cut_ok h2) h6 n _ _ _ (Array.replicate n false) a _ (by simp) (by simp) (fun i hi => ?_) (fun i hi => ?_) (DC.start _ _) ?_ ?_
  · rw [Array.getD_eq_getD_getElem?, Array.getD_eq_getD_getElem?, Array.getElem?_replicate, Array.getElem?_replicate, if_pos hi, if_pos (by rw [List.size_toArray]; omega)]
  · rw [Array.getD_eq_getD_getElem?, Array.getElem?_replicate]
    split <;> rfl
  · have := List.length_filter_le (fun i => !(Array.replicate l.toArray.size false).getD i true) (List.range l.length)
    rw [List.length_range] at this
    simpa using this
  · exact wpAny_of_wpK (fun a w hr => ⟨rfl, hr⟩) n _ _ _ _ h7
theorem J.inReg {l r : List Oper} {n : Nat} (hl : l.drop n = r) (h : G .seq C l st M r k) : J C st M (.inRegion l.toArray (List.range' n (l.length - n)) :: k) := by
  subst hl
  refine .mk fun a w hf hd hw => h.go a w hf hd hw _ ?_
  refine List.ext_getElem? fun i => ?_
  rw [List.getElem?_map, List.getElem?_map, List.getElem?_drop]
  by_cases hi : i < l.length - n
  · rw [List.getElem?_eq_getElem (by rw [List.length_range']; exact hi), List.getElem_range', Nat.one_mul]
    simp
    rw [List.getElem?_eq_getElem (by omega)]; rfl
  · rw [List.getElem?_eq_none (by rw [List.length_range']; omega), List.getElem?_eq_none (by omega)]; rfl
end Go.Sl
/-
  Contracts of rivers: the way down as an iterator.
-/
namespace Go.Proofs.YtcdgibkbbcekhaaGreatDoor
open Go.RowKit Go.Sl Go.Num
/-- The first K gauges from one on down. -/
def dnS (l : List Rch) (g : Int) (K : Nat) : List Int := (List.range K).map fun i => itr l i g
theorem dnS_len (l : List Rch) (g : Int) (K : Nat) : (dnS l g K).length = K := by rw [dnS, List.length_map, List.length_range]
theorem dnS_get (l : List Rch) (g : Int) {K i : Nat} (h : i < K) : (dnS l g K)[i]? = some (itr l i g) := by
  rw [dnS, List.getElem?_map, List.getElem?_range h]; rfl
theorem down_iter (w0 : World) (Bg Bl : Nat) (a : Option Addr) (l : List Rch) (c : Nat) (g : Int) (K : Nat) (hA : SlAt w0 a 2 (l.map rcV)) (hn : l.length ≤ 1000000) (hk : ∀ i, i < K → 0 ≤ itr l i g ∧ itr l i g < l.length) :
    IterH Tryz.prog w0 [.blk Bg 3 [.int .i64 g] 1, .blk Bl 22 [.slice a l.length c] 1] 178 #[.pointer (some ⟨Bg, 0, none⟩), .pointer (some ⟨Bl, 0, none⟩)] (fun e : Int => [.int .i64 e]) (dnS l g K) (itr l K g < 0) := by
  intro X Rs Inv Out fY cY hfin hY x0 hI0 M1 w hw
  rw [dnS_len] at hfin ⊢
  refine enterR [(0, .func fY #[] cY), (1, .pointer (some ⟨Bg, 0, none⟩)), (2, .pointer (some ⟨Bl, 0, none⟩))] hw Tryz.func178 Tryz.ntmps178 ?_
  all_goals (refine go ?_; and_intros <;> (try exact trivial) <;> repeat (first | refine fun (Bk : Nat) => ?_ | intro h))
  refine J.loop (c := _) ((0, x0) : Nat × X) (fun s => K + 1 - s.1) (fun s => [(0, .func fY #[] cY), (1, .pointer (some ⟨Bg, 0, none⟩)), (2, .pointer (some ⟨Bl, 0, none⟩)), (4, .int .i64 (itr l s.1 g))]) (fun s => .blk Bg 3 [.int .i64 g] 1 :: .blk Bl 22 [.slice a l.length c] 1 :: (Rs s.2 ++ M1)) (fun s => s.1 ≤ K ∧ Inv s.1 s.2) ?_ sbT sbL ?_
  · exact ⟨Nat.zero_le _, hI0⟩
  clear hI0 hw
  intro ⟨i, x⟩ ⟨h1, h2⟩ ih
  dsimp only at h1 h2 ⊢
  by_cases hi : i < K
  · obtain ⟨h3, h4⟩ := hk i hi
    have hy := hY i x _ h2 (dnS_get l g hi)
    have ih := fun x' h => ih (i + 1, x') ⟨hi, h⟩ (by dsimp only; omega)
    simp only [itr_succ] at ih
    clear hk
    generalize itr l i g = y at *
    obtain ⟨j, rfl⟩ : ∃ j : Nat, y = j := ⟨y.toNat, by omega⟩
    have hj : j < l.length := by omega
    obtain ⟨ba, oa, rfl, hra⟩ := SlAt.all hA (by omega)
    have hrj := hra j hj
    rw [dnOf_at hj] at ih
    clear hra
    generalize l[j] = r at *
    obtain ⟨dn, ws, adr, cap⟩ := r
    dsimp only [rcV] at *
    all_goals (refine go ?_; and_intros <;> (try exact trivial) <;> repeat (first | refine fun (Bk : Nat) => ?_ | intro h))
    repeat' ((first | (refine G.callG (Rs := Rs) (x := x) (M1 := M1) (Inv (i + 1)) Out hy rfl rfl rfl rfl (by (repeat (first | exact Splt.nil | apply Splt.cons))) ?_ ?_; all_goals intro x' hx')) <;> (refine go ?_; and_intros <;> (try exact trivial) <;> repeat (first | refine fun (Bk : Nat) => ?_ | intro h)))
    · exact J.fin (ih x' hx')
    · refine ret0 Tryz.func178 Tryz.results178 ?_
      exact fun w' hw' => ⟨rfl, x', hw'.forget sbL, .inr hx'⟩
  · obtain rfl : i = K := by omega
    have hf := hfin.resolve_right fun h => h x h2
    clear ih hk
    generalize itr l i g = y at *
    all_goals (refine go ?_; and_intros <;> (try exact trivial) <;> repeat (first | refine fun (Bk : Nat) => ?_ | intro h))
    refine end0 Tryz.func178 Tryz.results178 ?_
    exact fun w' hw' => ⟨rfl, x, hw', .inl h2⟩
theorem down_holds (w0 : World) (M : List Row) (w : World) (a : Option Addr) (l : List Rch) (c : Nat) (g : Int) (hw : Sat w0 M w) :
    Calls Tryz.prog 159 #[.slice a l.length c, .int .i64 g] w fun e w' => ∃ x : Nat × Nat, e = .returned (.func (.func 178) #[] #[.pointer (some ⟨x.1, 0, none⟩), .pointer (some ⟨x.2, 0, none⟩)]) ∧ Sat w0 (.blk x.1 3 [.int .i64 g] 1 :: .blk x.2 22 [.slice a l.length c] 1 :: M) w' := by
  refine enterR [(0, .slice a l.length c), (1, .int .i64 g)] hw Tryz.func159 Tryz.ntmps159 ?_
  all_goals (refine go ?_; and_intros <;> (try exact trivial) <;> repeat (first | refine fun (Bk : Nat) => ?_ | intro h))
  refine ret1 Tryz.func159 Tryz.results159 ?_
  exact fun w' hw' => ⟨(_, _), rfl, hw'⟩
end Go.Proofs.YtcdgibkbbcekhaaGreatDoor
/-
  Contracts of rivers: the program's Check.
-/
namespace Go.Proofs.YtcdgibkbbcekhaaGreatDoor
open Go.RowKit Go.Sl Go.Num
/-- The kernels of a river stand in memory. -/
def KerAt (w : World) (l : List Rch) : Prop := ∀ r ∈ l, SlAt w r.adr 1 (r.ws.map isV)
theorem KerAt.below {w w' : World} {l : List Rch} (h : KerAt w l) (hb : Below w.heap.size w w') : KerAt w' l := fun r hr => (h r hr).below hb
theorem badRs_step {n i : Nat} {l : List Rch} (hi : i < l.length) : badRs n i (l.drop i) = if badR1 n i l[i] ≠ 0 then badR1 n i l[i] else badRs n (i + 1) (l.drop (i + 1)) := by
  rw [List.drop_eq_getElem_cons hi, badRs]
theorem inR_of {l : List Rch} (h : badRs l.length 0 l = 0) : InR l := fun g hg => by
  have := badRs_ok h g hg
  rw [badR1] at this
  split at this
  · cases this
  · omega
theorem least {p : Nat → Prop} : ∀ n, p n → ∃ K, K ≤ n ∧ p K ∧ ∀ k, k < K → ¬ p k := fun n => by
  induction n using Nat.strongRecOn with
  | _ n ih =>
    intro h
    by_cases hc : ∃ m, m < n ∧ p m
    · obtain ⟨m, h1, h2⟩ := hc
      obtain ⟨K, h3, h4, h5⟩ := ih m h1 h2
      exact ⟨K, by omega, h4, h5⟩
    · exact ⟨n, Nat.le_refl _, h, fun k hk h2 => hc ⟨k, hk, h2⟩⟩
/-- How far a check goes down. -/
theorem ways {l : List Rch} (h : InR l) {g : Int} (h0 : 0 ≤ g) (h1 : g < l.length) : ∃ K, (∀ i, i < K → 0 ≤ itr l i g ∧ itr l i g < l.length) ∧ (K ≤ l.length ∧ itr l K g < 0 ∧ itr l l.length g < 0 ∨ K = l.length + 1 ∧ 0 ≤ itr l l.length g) := by
  by_cases hc : itr l l.length g < 0
  · obtain ⟨K, h2, h3, h4⟩ := least (p := fun k => itr l k g < 0) _ hc
    exact ⟨K, fun i hi => ⟨by have := h4 i hi; omega, (h.in_ i h1 (by omega)).2⟩, .inl ⟨h2, h3, hc⟩⟩
  · exact ⟨l.length + 1, fun i hi => ⟨itr_round h h1 (by omega) i, (h.in_ i h1 (by omega)).2⟩, .inr ⟨rfl, by omega⟩⟩
theorem riv_no {l : List Rch} (h1 : l.length ≤ 40) (h2 : badRs l.length 0 l = 0) {g : Nat} (hg : g < l.length) (h : 0 ≤ itr l l.length g) : rivErr l = 4 := by
  rw [rivErr, if_neg (by omega), if_neg (by rw [h2]; decide), if_neg]
  intro hc
  have := of_decide_eq_true (List.all_eq_true.1 hc g (List.mem_range.2 hg))
  omega
theorem riv_yes {l : List Rch} (h1 : l.length ≤ 40) (h2 : badRs l.length 0 l = 0) (h : ∀ g : Nat, g < l.length → itr l l.length g < 0) : rivErr l = 0 := by
  rw [rivErr, if_neg (by omega), if_neg (by rw [h2]; decide), if_pos]
  exact List.all_eq_true.2 fun g hg => decide_eq_true (h g (List.mem_range.1 hg))
theorem vCheckR_holds (a : Option Addr) (l : List Rch) (c : Nat) (w : World) (hA : SlAt w a 2 (l.map rcV)) (hK : KerAt w l) :
    Calls Tryz.prog 113 #[.slice a l.length c] w fun e w' => e = .returned (.int .i64 (rivErr l)) ∧ Below w.heap.size w w' := by
  refine enterA [(0, .slice a l.length c)] Tryz.func113 Tryz.ntmps113 ?_
  by_cases hl : 40 < l.length
  · rw [rivErr, if_pos hl]
    all_goals (refine go ?_; and_intros <;> (try exact trivial) <;> repeat (first | refine fun (Bk : Nat) => ?_ | intro h))
    all_goals refine ret1b Tryz.func113 Tryz.results113 ?_
    all_goals rfl
  all_goals (refine go ?_; and_intros <;> (try exact trivial) <;> repeat (first | refine fun (Bk : Nat) => ?_ | intro h))
  rename_i B1
  revert Bk; intro B2
  refine J.loop (c := _) (0 : Nat) (fun s => l.length - s) (fun s => [(1, .pointer (some ⟨B1, 0, none⟩)), (2, .pointer (some ⟨B2, 0, none⟩)), (10, .slice a l.length c), (11, .int .i64 l.length), (12, .int .i64 s)]) (fun s => [.blk B2 34 [.int .i64 0] 1, .blk B1 22 [.slice a l.length c] 1]) (fun s => s ≤ l.length ∧ badRs l.length 0 l = badRs l.length s (l.drop s)) ?_ sbT sbL ?_
  · exact ⟨Nat.zero_le _, rfl⟩
  intro i ⟨h1, h2⟩ ih
  by_cases hi : i < l.length
  · obtain ⟨ba, oa, rfl, hra⟩ := SlAt.all hA (by omega)
    have hri := hra i hi
    rw [badRs_step hi] at h2
    have hkk := hK _ (List.getElem_mem hi)
    have hk := fun w' (hb : Below w.heap.size w w') => kCheck_holds l[i].adr l[i].ws l[i].cap w' (hkk.below hb)
    have he : badR1 l.length i l[i] ≠ 0 → rivErr l = badR1 l.length i l[i] := fun h => by
      rw [if_pos h] at h2
      rw [rivErr, if_neg hl, if_pos (by rw [h2]; exact h), h2]
    have ih := fun (h : badR1 l.length i l[i] = 0) => ih (i + 1) ⟨hi, by rw [if_neg (fun h3 => h3 h)] at h2; exact h2⟩ (by omega)
    clear hra h2 hkk
    generalize l[i] = r at *
    obtain ⟨dn, ws, adr, cap⟩ := r
    dsimp only [rcV, badR1] at *
    generalize kerErr ws = ke at *
    generalize rivErr l = rv at *
    by_cases h3 : dn < -1 ∨ (l.length : Int) ≤ dn
    · rw [if_pos h3] at he
      obtain rfl := he (by decide)
      clear ih he
      all_goals (refine go ?_; and_intros <;> (try exact trivial) <;> repeat (first | refine fun (Bk : Nat) => ?_ | intro h))
      repeat' ((first | (refine G.cvb hk ?_)) <;> (refine go ?_; and_intros <;> (try exact trivial) <;> repeat (first | refine fun (Bk : Nat) => ?_ | intro h)))
      all_goals refine ret1b Tryz.func113 Tryz.results113 ?_
      all_goals rfl
    rw [if_neg h3] at he ih
    by_cases h4 : dn = i ∨ dn < 0 ∧ 0 < ws.length ∨ 0 ≤ dn ∧ ke ≠ 0
    · rw [if_pos h4] at he
      obtain rfl := he (by decide)
      clear ih he
      all_goals (refine go ?_; and_intros <;> (try exact trivial) <;> repeat (first | refine fun (Bk : Nat) => ?_ | intro h))
      repeat' ((first | (refine G.cvb hk ?_)) <;> (refine go ?_; and_intros <;> (try exact trivial) <;> repeat (first | refine fun (Bk : Nat) => ?_ | intro h)))
      all_goals refine ret1b Tryz.func113 Tryz.results113 ?_
      all_goals rfl
    · rw [if_neg h4] at ih
      have ih := ih rfl
      clear he
      all_goals (refine go ?_; and_intros <;> (try exact trivial) <;> repeat (first | refine fun (Bk : Nat) => ?_ | intro h))
      repeat' ((first | (refine G.cvb hk ?_)) <;> (refine go ?_; and_intros <;> (try exact trivial) <;> repeat (first | refine fun (Bk : Nat) => ?_ | intro h)))
      all_goals exact J.fin ih
  · obtain rfl : i = l.length := by omega
    rw [List.drop_length, badRs] at h2
    clear ih
    have hin := inR_of h2
    all_goals (refine go ?_; and_intros <;> (try exact trivial) <;> repeat (first | refine fun (Bk : Nat) => ?_ | intro h))
    refine J.loopD (c := _) ((0, []) : Nat × List Nat) (fun x => l.length - x.1) (fun x => x.2.map Sl.mark) (fun x => [(1, .pointer (some ⟨B1, 0, none⟩)), (2, .pointer (some ⟨B2, 0, none⟩)), (56, .int .i64 l.length), (57, .int .i64 x.1)]) (fun x => .blk B2 34 [.int .i64 0] 1 :: .blk B1 22 [.slice a l.length c] 1 :: Sl.mk x.2) (fun x => x.1 ≤ l.length ∧ ∀ i : Nat, i < x.1 → itr l l.length i < 0) ?_ rfl (by (repeat' (first | exact trivial | refine ⟨rfl, ?_⟩))) (List.Sublist.refl _) ?_
    · exact ⟨Nat.zero_le _, fun i h => absurd h (Nat.not_lt_zero _)⟩
    intro ⟨g, ds⟩ ⟨h3, h4⟩ ih
    dsimp only at h3 h4 ⊢
    by_cases hg : g < l.length
    · obtain ⟨K, hk1, hk2⟩ := ways hin (g := (g : Int)) (by omega) (by omega)
      have hno := riv_no (by omega) h2 hg
      have ih := fun (h : itr l l.length g < 0) Bd => ih (g + 1, Bd :: ds) ⟨hg, fun i hi => by
        rcases Nat.lt_or_ge i g with h5 | h5
        · exact h4 i h5
        · obtain rfl : i = g := by omega
          exact h⟩ (by dsimp only; omega)
      clear h4
      all_goals (refine goR ?_; and_intros <;> (try exact trivial) <;> repeat (first | refine fun (Bk : Nat) => ?_ | intro h))
      repeat' ((first | (apply G.cR (g := 159) (v := fun x : Nat × Nat => .func (.func 178) #[] #[.pointer (some ⟨x.1, 0, none⟩), .pointer (some ⟨x.2, 0, none⟩)]) (Mn := fun x => [.blk x.1 3 [.int .i64 g] 1, .blk x.2 22 [.slice a l.length c] 1]); rfl; rfl; exact fun w' hw' => down_holds _ _ w' a l c g hw'; rintro ⟨Bg, Bl⟩) | (apply J.regQ; exact Tryz.mixed; decide +kernel) | (apply J.regL'; exact Tryz.mixed; decide +kernel)) <;> (refine goR ?_; and_intros <;> (try exact trivial) <;> repeat (first | refine fun (Bk : Nat) => ?_ | intro h)))
      refine J.rangeH1 (e1 := fun e : Int => .int .i64 e) (es := dnS l g K) (fin := itr l K g < 0) (fun s : Nat × Int => [.blk Bk 3 [.int .i64 s.1] 1, .blk B2 34 [.int .i64 s.2] 1, .blk B1 22 [.slice a l.length c] 1]) (fun i s => s.1 = i ∧ s.2 = 0 ∧ i ≤ l.length) (fun cc s => cc = .ret ∧ s.2 = 4 ∧ K = l.length + 1 ∧ 0 ≤ itr l l.length g) (0, 0) (Sl.mk ds) (down_iter w Bg Bl a l c g K hA (by omega) hk1) (by
        rw [dnS_len]
        rcases hk2 with h | h
        · exact .inl h.2.1
        · exact .inr fun x hx => by omega) rfl rfl rfl (List.Perm.refl _) ⟨rfl, rfl, Nat.zero_le _⟩ ?_ ?_ ?_
      · intro i ⟨n, e⟩ y ⟨i1, i2, i3⟩ he L rr M' hrs hrp
        dsimp only at i1 i2 i3 ⊢
        subst i1 i2
        have hnK : n < K := by
          have := (List.getElem?_eq_some_iff.1 he).1
          rwa [dnS_len] at this
        clear he ih
        by_cases hn : n = l.length
        · have hk3 : K = l.length + 1 ∧ 0 ≤ itr l l.length g := hk2.resolve_left fun h => by omega
          all_goals (refine goR ?_; and_intros <;> (try exact trivial) <;> repeat (first | refine fun (Bk : Nat) => ?_ | intro h))
          repeat' ((first | (refine J.beginR rfl (i := 0) rfl hrs ?_) | (apply J.regQ; exact Tryz.mixed; decide +kernel) | (apply J.regL'; exact Tryz.mixed; decide +kernel)) <;> (refine goR ?_; and_intros <;> (try exact trivial) <;> repeat (first | refine fun (Bk : Nat) => ?_ | intro h)))
          exact J.sel (leaveGret (n + 1, 4) ⟨rfl, rfl, hk3⟩ rfl)
        · skip
          all_goals (refine goR ?_; and_intros <;> (try exact trivial) <;> repeat (first | refine fun (Bk : Nat) => ?_ | intro h))
          repeat' ((first | (refine J.beginR rfl (i := 0) rfl hrs ?_) | (apply J.regQ; exact Tryz.mixed; decide +kernel) | (apply J.regL'; exact Tryz.mixed; decide +kernel)) <;> (refine goR ?_; and_intros <;> (try exact trivial) <;> repeat (first | refine fun (Bk : Nat) => ?_ | intro h)))
          exact J.sel (leaveG hrs hrp (n + 1, 0) ⟨rfl, rfl, by omega⟩ rfl)
      · intro Bd ⟨n, e⟩ ⟨i1, i2, i3⟩
        dsimp only at i1 i2 i3 ⊢
        subst i2
        rw [dnS_len] at i1 i3
        have ih := ih (hk2.resolve_right (fun h => by omega)).2.2 Bd
        all_goals (refine go ?_; and_intros <;> (try exact trivial) <;> repeat (first | refine fun (Bk : Nat) => ?_ | intro h))
        exact J.finS ih
      · intro Bd ⟨n, e⟩ cc ⟨i1, i2, i3, i4⟩
        dsimp only at i1 i2 i3 i4 ⊢
        subst i1 i2
        rw [hno i4]
        all_goals (refine go ?_; and_intros <;> (try exact trivial) <;> repeat (first | refine fun (Bk : Nat) => ?_ | intro h))
        refine J.sel (T := .blk B2 34 [.int .i64 4] 1 :: Sl.mk (Bd :: ds)) ?_
        refine leaveM (v := .int .i64 4) (ds := Bd :: ds) (M0 := [.blk B2 34 [.int .i64 4] 1]) Tryz.func113 rfl rfl rfl rfl (RunsTo.one Tryz.results113 (by (first | (apply ResV.tmp; rfl) | (apply ResV.cell; rfl; (first | (apply LdV.one; (first | exact CellV.row0 (by assumption) rfl | exact CellV.rowS (by assumption) rfl | exact CellV.rowSS (by assumption) rfl | (apply CellV.blk; exact mm; rfl))) | (apply LdV.aggBlk; exact mm; rfl) | (apply LdV.part; exact mm; rfl; rfl) | (apply LdV.aggRow; assumption; rfl) | (apply LdV.partRow; assumption; rfl; rfl)))))) (List.perm_append_comm (l₁ := [_])) fun w' hw' => ?_
        exact ⟨rfl, hw'.below⟩
    · rw [riv_yes (by omega) h2 fun i hi => h4 i (by omega)]
      clear ih
      all_goals (refine go ?_; and_intros <;> (try exact trivial) <;> repeat (first | refine fun (Bk : Nat) => ?_ | intro h))
      refine J.sel (T := .blk B2 34 [.int .i64 0] 1 :: Sl.mk ds) ?_
      refine leaveM (v := .int .i64 0) (ds := ds) (M0 := [.blk B2 34 [.int .i64 0] 1]) Tryz.func113 rfl rfl rfl rfl (RunsTo.one Tryz.results113 (by (first | (apply ResV.tmp; rfl) | (apply ResV.cell; rfl; (first | (apply LdV.one; (first | exact CellV.row0 (by assumption) rfl | exact CellV.rowS (by assumption) rfl | exact CellV.rowSS (by assumption) rfl | (apply CellV.blk; exact mm; rfl))) | (apply LdV.aggBlk; exact mm; rfl) | (apply LdV.part; exact mm; rfl; rfl) | (apply LdV.aggRow; assumption; rfl) | (apply LdV.partRow; assumption; rfl; rfl)))))) (List.perm_append_comm (l₁ := [_])) fun w' hw' => ?_
      exact ⟨rfl, hw'.below⟩
end Go.Proofs.YtcdgibkbbcekhaaGreatDoor
/-
  Windows of a list that are brought into another order; insertion.
-/
namespace Go.Proofs.YtcdgibkbbcekhaaGreatDoor
open Go.RowKit Go.Sl Go.Num
/-- From a to b the list is in order. -/
def Srt (S : List Int) (a b : Nat) : Prop := ∀ x y, a ≤ x → x < y → y < b → S.getD x 0 ≤ S.getD y 0
/-- Only the window from a to b has changed, and only its order. -/
structure WP (S : List Int) (a b : Nat) (S' : List Int) : Prop where
  len : S'.length = S.length
  out : ∀ z, z < a ∨ b ≤ z → S'.getD z 0 = S.getD z 0
  per : S'.Perm S
theorem WP.refl (S : List Int) (a b : Nat) : WP S a b S := ⟨rfl, fun _ _ => rfl, .refl _⟩
theorem WP.trans {S T U : List Int} {a b : Nat} (h : WP S a b T) (h2 : WP T a b U) : WP S a b U := ⟨h2.len.trans h.len, fun z hz => (h2.out z hz).trans (h.out z hz), h2.per.trans h.per⟩
theorem WP.mono {S T : List Int} {a b c d : Nat} (h : WP S a b T) (h1 : c ≤ a) (h2 : b ≤ d) : WP S c d T := ⟨h.len, fun z hz => h.out z (by omega), h.per⟩
theorem WP.swp {S : List Int} {a b x y : Nat} (hx : a ≤ x ∧ x < b) (hy : a ≤ y ∧ y < b) (hb : b ≤ S.length) : WP S a b (swp S x y) :=
  ⟨swp_len S x y, fun z hz => swp_oth (by omega) (by omega) (by omega) (by omega), swp_perm (by omega) (by omega)⟩
theorem getD_ext {S T : List Int} (hl : S.length = T.length) (h : ∀ z, z < S.length → S.getD z 0 = T.getD z 0) : S = T := List.ext_getElem hl fun i h1 h2 => by
  have := h i h1
  rwa [getD_eq h1, getD_eq h2] at this
theorem WP.win {S T : List Int} {a b : Nat} (h : WP S a b T) (hab : a ≤ b) (hb : b ≤ S.length) : ((T.drop a).take (b - a)).Perm ((S.drop a).take (b - a)) := by
  have e1 : T.take a = S.take a := by
    refine getD_ext (by rw [List.length_take, List.length_take, h.len]) fun z hz => ?_
    rw [List.length_take] at hz
    have := h.out z (.inl (by omega))
    rw [List.getD_eq_getElem?_getD, List.getD_eq_getElem?_getD, List.getElem?_take_of_lt (by omega), List.getElem?_take_of_lt (by omega), ← List.getD_eq_getElem?_getD, ← List.getD_eq_getElem?_getD, this]
  have e2 : T.drop b = S.drop b := by
    refine getD_ext (by rw [List.length_drop, List.length_drop, h.len]) fun z hz => ?_
    have := h.out (b + z) (.inr (by omega))
    rw [List.getD_eq_getElem?_getD, List.getD_eq_getElem?_getD, List.getElem?_drop, List.getElem?_drop, ← List.getD_eq_getElem?_getD, ← List.getD_eq_getElem?_getD, this]
  have hS : S = S.take a ++ ((S.drop a).take (b - a) ++ S.drop b) := by
    have := (List.take_append_drop a S).symm
    have h2 := (List.take_append_drop (b - a) (S.drop a)).symm
    rw [List.drop_drop, show a + (b - a) = b by omega] at h2
    rw [h2] at this
    exact this
  have hT : T = T.take a ++ ((T.drop a).take (b - a) ++ T.drop b) := by
    have := (List.take_append_drop a T).symm
    have h2 := (List.take_append_drop (b - a) (T.drop a)).symm
    rw [List.drop_drop, show a + (b - a) = b by omega] at h2
    rw [h2] at this
    exact this
  have hp := h.per
  rw [hS, hT, e1, e2] at hp
  exact (List.perm_append_right_iff _).1 ((List.perm_append_left_iff _).1 hp)
/-- What holds of all elements of the window holds of them in the other order. -/
theorem WP.all {S T : List Int} {a b : Nat} (h : WP S a b T) (hb : b ≤ S.length) {P : Int → Prop} (hP : ∀ z, a ≤ z → z < b → P (S.getD z 0)) : ∀ z, a ≤ z → z < b → P (T.getD z 0) := fun z h1 h2 => by
  have hw := h.win (by omega) hb
  have hm : T.getD z 0 ∈ (T.drop a).take (b - a) := by
    refine List.mem_iff_getElem?.2 ⟨z - a, ?_⟩
    rw [List.getElem?_take_of_lt (by omega), List.getElem?_drop, show a + (z - a) = z by omega, List.getD_eq_getElem?_getD, List.getElem?_eq_getElem (by rw [h.len]; omega)]; rfl
  obtain ⟨i, hi⟩ := List.mem_iff_getElem?.1 (hw.mem_iff.1 hm)
  have hil : i < b - a := by
    have := (List.getElem?_eq_some_iff.1 hi).1
    rw [List.length_take] at this; omega
  rw [List.getElem?_take_of_lt hil, List.getElem?_drop] at hi
  have := hP (a + i) (by omega) (by omega)
  rw [List.getD_eq_getElem?_getD, hi] at this
  exact this
/-! ### insertion -/
/-- Up to i, all but the element at j are in order, and this one is not greater than those behind it. -/
def InsW (S : List Int) (a i j : Nat) : Prop := (∀ x y, a ≤ x → x < y → y ≤ i → x ≠ j → y ≠ j → S.getD x 0 ≤ S.getD y 0) ∧ ∀ y, j < y → y ≤ i → S.getD j 0 ≤ S.getD y 0
theorem InsW.start {S : List Int} {a i : Nat} (h : Srt S a i) : InsW S a i i := ⟨fun x y h1 h2 h3 _ h5 => h x y h1 h2 (by omega), fun y h1 h2 => by omega⟩
theorem InsW.step {S : List Int} {a i j : Nat} (h : InsW S a i (j + 1)) (ha : a ≤ j) (hi : i < S.length) (hj : j + 1 ≤ i) (hlt : S.getD (j + 1) 0 < S.getD j 0) : InsW (Proofs.YtcdgibkbbcekhaaGreatDoor.swp S (j + 1) j) a i j := by
  have e1 := swp_fst (S := S) (x := j + 1) (y := j) (by omega) (by omega)
  have e2 := swp_snd (S := S) (x := j + 1) (y := j) (by omega) (by omega)
  have e3 : ∀ z, z ≠ j + 1 → z ≠ j → (Proofs.YtcdgibkbbcekhaaGreatDoor.swp S (j + 1) j).getD z 0 = S.getD z 0 := fun z h1 h2 => swp_oth (by omega) (by omega) h1 h2
  refine ⟨fun x y h1 h2 h3 h4 h5 => ?_, fun y h1 h2 => ?_⟩
  · by_cases hx : x = j + 1
    · subst hx
      rw [e1, e3 y (by omega) h5]
      exact h.1 j y ha (by omega) h3 (by omega) (by omega)
    · by_cases hy : y = j + 1
      · subst hy
        rw [e1, e3 x hx h4]
        exact h.1 x j h1 (by omega) (by omega) hx (by omega)
      · rw [e3 x hx h4, e3 y hy h5]
        exact h.1 x y h1 h2 h3 hx hy
  · rw [e2]
    by_cases hy : y = j + 1
    · subst hy; rw [e1]; omega
    · rw [e3 y hy (by omega)]
      exact h.2 y (by omega) h2
theorem InsW.end_ {S : List Int} {a i j : Nat} (h : InsW S a i j) (hj : j = a ∨ a < j ∧ ¬ S.getD j 0 < S.getD (j - 1) 0) : Srt S a (i + 1) := fun x y h1 h2 h3 => by
  by_cases hx : x = j
  · subst hx; exact h.2 y h2 (by omega)
  · by_cases hy : y = j
    · subst hy
      rcases hj with rfl | ⟨h4, h5⟩
      · omega
      · by_cases h6 : x = y - 1
        · subst h6; omega
        · have := h.1 x (y - 1) h1 (by omega) (by omega) hx (by omega)
          omega
    · exact h.1 x y h1 h2 (by omega) hx hy
theorem Srt.short {S : List Int} {a b : Nat} (h : b ≤ a + 1) : Srt S a b := fun x y h1 h2 h3 => by omega
theorem srt_pair {S : List Int} (h : Srt S 0 S.length) : S.Pairwise (· ≤ ·) := by
  rw [List.pairwise_iff_getElem]
  intro i j hi hj hij
  have := h i j (Nat.zero_le _) hij hj
  rwa [getD_eq hi, getD_eq hj] at this
end Go.Proofs.YtcdgibkbbcekhaaGreatDoor
