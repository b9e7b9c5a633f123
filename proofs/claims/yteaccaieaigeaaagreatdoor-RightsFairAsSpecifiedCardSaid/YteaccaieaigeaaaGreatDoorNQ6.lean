/-
  Contracts of the specification of natural numbers: DivMod, Gcd, Int.
-/
import Derived.Test.YteaccaieaigeaaaGreatDoorNQ5
import Derived.ProofKit
import Derived.Test.YteaccaieaigeaaaGreatDoorRows
set_option linter.unusedVariables false
set_option linter.unusedSimpArgs false
set_option linter.unusedSectionVars false
namespace Go.Proofs.YteaccaieaigeaaaGreatDoor
open Go.RowKit Go.Sl Go.Num
theorem u8_row {c : Nat} (h : c < 256) : flat u8V [UInt8.ofNat c] = [.int .u8 (c : Int)] := by
  have : (UInt8.ofNat c).toNat = c := by simp [UInt8.toNat_ofNat', Nat.mod_eq_of_lt h]
  simp [flat, u8V, this]
theorem vB_snoc (l : List UInt8) (x : UInt8) : vB (l ++ [x]) = vB l * 256 + x.toNat := by
  rw [vB_append]; simp [vB]
theorem rDivMod_holds (a b : List UInt8) (w : World) (ha : a.length ≤ 536870000) (hb : b.length ≤ 536870000) (hn : vB b ≠ 0) :
    Calls Tryz.prog 135 #[.string (bs a), .string (bs b)] w fun e w' => e = .returned (.agg #[.string (bs (nB (vB a / vB b))), .string (bs (nB (vB a % vB b))), .int .i64 0]) ∧ Below w.heap.size w w' := by
  have hcb := fun (w' : World) => rClean_holds b w' (by omega)
  have hne : nB (vB b) ≠ [] := fun e => hn (nB_nil.1 e)
  have hrl : ∀ r, r < vB b → (nB r).length ≤ b.length := fun r h => nB_bound (Nat.lt_trans h (vB_lt b))
  obtain ⟨n, hnb⟩ : ∃ n, n = vB b := ⟨_, rfl⟩
  rw [← hnb] at hcb hne hrl hn ⊢
  have hcmp := fun (ρ : Nat) (w' : World) (h : (nB ρ).length ≤ 536870912) => rCmp_holds (nB ρ) b w' (by omega) (by omega)
  have hsub := fun (ρ : Nat) (w' : World) (h : (nB ρ).length ≤ 536870912) (hle : n ≤ ρ) => rSub_holds (nB ρ) b w' h (by omega) (by rw [vB_nB, ← hnb]; exact hle)
  simp only [vB_nB, ← hnb] at hcmp hsub
  refine enterA [(0, .string (bs a)), (1, .string (bs b))] Tryz.func135 Tryz.ntmps135 ?_
  all_goals (refine go ?_; and_intros <;> (try exact trivial) <;> repeat (first | refine fun (Bk : Nat) => ?_ | intro h))
  repeat' ((first | (apply G.cV (g := 134) (vs := [.string (bs b)]); rfl; rfl; exact fun w' _ => hcb w') | (apply G.eqlStr; rfl; rfl; rfl; rfl; rfl; all_goals intro h; all_goals try (exact absurd h hne))) <;> (refine go ?_; and_intros <;> (try exact trivial) <;> repeat (first | refine fun (Bk : Nat) => ?_ | intro h)))
  refine J.loop (c := _) ((0, [], 0, []) : Nat × List UInt8 × Nat × List UInt8) (fun s => a.length - s.1) (fun s => [(0, .string (bs a)), (1, .string (bs b)), (4, .pointer (some ⟨Bk, 0, none⟩)), (5, .string (bs s.2.1)), (6, .string (bs s.2.2.2)), (7, .int .i64 s.1)]) (fun s => [.blk Bk 156 [.string (bs []), .string (bs []), .int .i64 0] 3]) (fun s => s.1 ≤ a.length ∧ s.2.1.length = s.1 ∧ s.2.2.1 < n ∧ vB s.2.1 * n + s.2.2.1 = vB (a.take s.1) ∧ s.2.2.2 = nB s.2.2.1) ?_ sbT sbL ?_
  · exact ⟨Nat.zero_le _, rfl, Nat.pos_of_ne_zero hn, by simp [vB], nB_zero.symm⟩
  intro ⟨k, q, r, rs⟩ ⟨h1, h2, h3, h4, h5⟩ ih
  dsimp only at h1 h2 h3 h4 h5 ⊢
  subst h5
  by_cases hk : k < a.length
  · have hts := vB_take_succ hk
    have hx8 : (a[k]).toNat < 256 := (a[k]).toNat_lt
    have hsl : (a.drop k).take (k + 1 - k) = [a[k]] := by
      rw [show k + 1 - k = 1 by omega, List.drop_eq_getElem_cons hk]; rfl
    have hR : vB (nB r ++ [a[k]]) = r * 256 + (a[k]).toNat := by rw [vB_snoc, vB_nB]
    have hrl1 := hrl r h3
    have hcl := fun (w' : World) => rClean_holds (nB r ++ [a[k]]) w' (by rw [List.length_append, List.length_singleton]; omega)
    rw [hR] at hcl
    generalize a[k] = x at *
    obtain ⟨R, hRe⟩ : ∃ R, R = r * 256 + x.toNat := ⟨_, rfl⟩
    rw [← hRe] at hcl
    have hRn : R < 256 * n := by omega
    have hRl : ∀ ρ, ρ ≤ R → (nB ρ).length ≤ 536870912 := fun ρ h => by
      have : (nB ρ).length ≤ b.length + 1 := nB_bound (by
        rw [Nat.pow_succ, hnb] at *
        have := vB_lt b
        omega)
      omega
    all_goals (refine go ?_; and_intros <;> (try exact trivial) <;> repeat (first | refine fun (Bk : Nat) => ?_ | intro h))
    repeat' ((first | (apply G.subStr (i := k) (j := k + 1); rfl; rfl; rfl; rfl; rfl; omega; omega; rfl; rfl; rfl) | (apply G.catStr (b := [x]); rfl; (rw [hsl]; rfl); (rw [List.length_singleton]; omega); rfl; rfl; rfl) | (apply G.cV (g := 134); rfl; rfl; exact fun w' _ => hcl w')) <;> (refine go ?_; and_intros <;> (try exact trivial) <;> repeat (first | refine fun (Bk : Nat) => ?_ | intro h)))
    refine J.loop (c := _) ((0, R) : Nat × Nat) (fun s => s.2) (fun s => [(0, .string (bs a)), (1, .string (bs b)), (4, .pointer (some ⟨Bk, 0, none⟩)), (5, .string (bs q)), (6, .string (bs (nB s.2))), (7, .int .i64 k), (8, .int .i64 s.1)]) (fun s => [.blk Bk 156 [.string (bs []), .string (bs []), .int .i64 0] 3]) (fun s => s.1 * n + s.2 = R) ?_ sbT sbL ?_
    · show 0 * n + R = R; omega
    intro ⟨c, ρ⟩ hcr ih2
    dsimp only at hcr ⊢
    have hρR : ρ ≤ R := by omega
    have hρl := hRl ρ hρR
    have hcmp := fun w' => hcmp ρ w' hρl
    by_cases hge : n ≤ ρ
    · have hsub := fun w' => hsub ρ w' hρl hge
      have hc0 : 0 ≤ cmpI (ρ : Int) n := by
        rcases Nat.lt_or_ge n ρ with h | h
        · rw [cmpI_gt (by omega)]; decide
        · rw [show ρ = n by omega, cmpI_eq]; decide
      generalize cmpI (ρ : Int) n = cc at *
      have hc256 : c < 256 := by
        rcases Nat.lt_or_ge c 256 with h | h
        · exact h
        · have := Nat.mul_le_mul_right n h; omega
      all_goals (refine go ?_; and_intros <;> (try exact trivial) <;> repeat (first | refine fun (Bk : Nat) => ?_ | intro h))
      repeat' ((first | (apply G.cV (g := 107); rfl; rfl; exact fun w' _ => hcmp w') | (apply G.cV (g := 108); rfl; rfl; exact fun w' _ => hsub w')) <;> (refine go ?_; and_intros <;> (try exact trivial) <;> repeat (first | refine fun (Bk : Nat) => ?_ | intro h)))
      exact J.fin (ih2 (c + 1, ρ - n) (by dsimp only; rw [Nat.add_mul, Nat.one_mul]; omega) (by dsimp only; omega))
    · rw [cmpI_lt (by omega)] at hcmp
      have hc256 : c < 256 := by
        rcases Nat.lt_or_ge c 256 with h | h
        · exact h
        · have := Nat.mul_le_mul_right n h; omega
      have hu8 := u8_row hc256
      have hq2 : vB (q ++ [UInt8.ofNat c]) = vB q * 256 + c := by
        rw [vB_snoc]; simp [UInt8.toNat_ofNat', Nat.mod_eq_of_lt hc256]
      all_goals (refine go ?_; and_intros <;> (try exact trivial) <;> repeat (first | refine fun (Bk : Nat) => ?_ | intro h))
      repeat' ((first | (apply G.cV (g := 107); rfl; rfl; exact fun w' _ => hcmp w') | (apply G.sliceL; rfl; rfl; rfl; rfl; rfl; rfl; rfl; rfl; intro Bs) | (apply G.ofBytes (E := 5) (l := [UInt8.ofNat c]); rfl; rfl; exact fun w' hw => SlAt.ofBlk (fun _ => rfl) hw (by (rw [hu8]; exact .head _)); rfl; rfl; rfl) | (apply G.catStr; rfl; rfl; (rw [List.length_singleton]; omega); rfl; rfl; rfl)) <;> (refine go ?_; and_intros <;> (try exact trivial) <;> repeat (first | refine fun (Bk : Nat) => ?_ | intro h)))
      refine J.fin (ih (k + 1, q ++ [UInt8.ofNat c], ρ, nB ρ) ⟨by dsimp only; omega, by simp [h2], by dsimp only; omega, ?_, rfl⟩ (by dsimp only; omega))
      dsimp only
      rw [hq2, hts, ← h4, Nat.add_mul, Nat.add_mul, Nat.mul_right_comm]
      omega
  · have hke : k = a.length := by omega
    subst hke
    rw [List.take_length] at h4
    have hqv : vB q = vB a / n := by
      rw [← h4, Nat.add_comm, Nat.add_mul_div_right _ _ (by omega), Nat.div_eq_of_lt h3, Nat.zero_add]
    have hrv : r = vB a % n := by
      rw [← h4, Nat.add_comm, Nat.add_mul_mod_self_right, Nat.mod_eq_of_lt h3]
    have hcl := fun (w' : World) => rClean_holds q w' (by omega)
    rw [hqv] at hcl
    rw [← hrv]
    all_goals (refine go ?_; and_intros <;> (try exact trivial) <;> repeat (first | refine fun (Bk : Nat) => ?_ | intro h))
    repeat' ((first | (apply G.cV (g := 134); rfl; rfl; exact fun w' _ => hcl w')) <;> (refine go ?_; and_intros <;> (try exact trivial) <;> repeat (first | refine fun (Bk : Nat) => ?_ | intro h)))
    all_goals refine ret1b Tryz.func135 Tryz.results135 ?_
    all_goals rfl
theorem rGcd_holds (a b : List UInt8) (w : World) (ha : a.length ≤ 536870000) (hb : b.length ≤ 536870000) :
    Calls Tryz.prog 120 #[.string (bs a), .string (bs b)] w fun e w' => e = .returned (.string (bs (nB (Nat.gcd (vB a) (vB b))))) ∧ Below w.heap.size w w' := by
  have hca := fun (w' : World) => rClean_holds a w' (by omega)
  have hcb := fun (w' : World) => rClean_holds b w' (by omega)
  have hla := nB_vB_len a
  have hlb := nB_vB_len b
  refine enterA [(0, .string (bs a)), (1, .string (bs b))] Tryz.func120 Tryz.ntmps120 ?_
  all_goals (refine go ?_; and_intros <;> (try exact trivial) <;> repeat (first | refine fun (Bk : Nat) => ?_ | intro h))
  repeat' ((first | (apply G.cV (g := 134) (vs := [.string (bs a)]); rfl; rfl; exact fun w' _ => hca w') | (apply G.cV (g := 134) (vs := [.string (bs b)]); rfl; rfl; exact fun w' _ => hcb w')) <;> (refine go ?_; and_intros <;> (try exact trivial) <;> repeat (first | refine fun (Bk : Nat) => ?_ | intro h)))
  refine J.loop (c := _) ((vB a, vB b) : Nat × Nat) (fun s => s.2) (fun s => [(5, .string (bs (nB s.1))), (6, .string (bs (nB s.2)))]) (fun s => []) (fun s => (nB s.1).length ≤ 536870000 ∧ (nB s.2).length ≤ 536870000 ∧ Nat.gcd s.1 s.2 = Nat.gcd (vB a) (vB b)) ?_ sbT sbL ?_
  · exact ⟨by dsimp only; omega, by dsimp only; omega, rfl⟩
  intro ⟨m, n⟩ ⟨h1, h2, h3⟩ ih
  dsimp only at h1 h2 h3 ⊢
  by_cases hn : n = 0
  · subst hn
    rw [← h3, Nat.gcd_zero_right, nB_zero]
    all_goals (refine go ?_; and_intros <;> (try exact trivial) <;> repeat (first | refine fun (Bk : Nat) => ?_ | intro h))
    repeat' ((first | (apply G.neqStr; rfl; rfl; rfl; rfl; rfl; all_goals intro h; all_goals try (exact absurd rfl h))) <;> (refine go ?_; and_intros <;> (try exact trivial) <;> repeat (first | refine fun (Bk : Nat) => ?_ | intro h)))
    all_goals refine ret1b Tryz.func120 Tryz.results120 ?_
    all_goals rfl
  · have hne : nB n ≠ [] := fun e => hn (nB_nil.1 e)
    have hdm := fun (w' : World) => rDivMod_holds (nB m) (nB n) w' h1 h2 (by rw [vB_nB]; exact hn)
    simp only [vB_nB] at hdm
    all_goals (refine go ?_; and_intros <;> (try exact trivial) <;> repeat (first | refine fun (Bk : Nat) => ?_ | intro h))
    repeat' ((first | (apply G.neqStr; rfl; rfl; rfl; rfl; rfl; all_goals intro h; all_goals try (exact absurd h hne)) | (apply G.cV (g := 135); rfl; rfl; exact fun w' _ => hdm w')) <;> (refine go ?_; and_intros <;> (try exact trivial) <;> repeat (first | refine fun (Bk : Nat) => ?_ | intro h)))
    have hlt := Nat.mod_lt m (Nat.pos_of_ne_zero hn)
    exact J.fin (ih (n, m % n) ⟨h2, Nat.le_trans (nB_len_le (Nat.le_of_lt hlt)) h2, by dsimp only; rw [← h3, Nat.gcd_comm m n, Nat.gcd_rec n m, Nat.gcd_comm]⟩ hlt)
theorem nB_succ {m : Nat} (h : m ≠ 0) : nB m = nB (m / 256) ++ [UInt8.ofNat (m % 256)] := by
  rw [nB, dgs_pos (by decide) h, List.map_cons, List.reverse_cons]; rfl
theorem rInt_holds (n : Nat) (w : World) (h : n < 9223372036854775808) : Calls Tryz.prog 159 #[.int .i64 n] w fun e w' => e = .returned (.agg #[.string (bs (nB n)), .int .i64 0]) ∧ Below w.heap.size w w' := by
  refine enterA [(0, .int .i64 n)] Tryz.func159 Tryz.ntmps159 ?_
  all_goals (refine go ?_; and_intros <;> (try exact trivial) <;> repeat (first | refine fun (Bk : Nat) => ?_ | intro h))
  refine J.loop (c := _) ((n, []) : Nat × List UInt8) (fun s => s.1) (fun s => [(0, .int .i64 s.1), (2, .pointer (some ⟨Bk, 0, none⟩)), (3, .string (bs s.2))]) (fun s => [.blk Bk 130 [.string (bs []), .int .i64 0] 2]) (fun s => s.1 ≤ n ∧ nB s.1 ++ s.2 = nB n) ?_ sbT sbL ?_
  · exact ⟨Nat.le_refl _, by simp⟩
  intro ⟨m, l⟩ ⟨h1, h2⟩ ih
  dsimp only at h1 h2 ⊢
  by_cases hm : m = 0
  · subst hm
    rw [nB_zero, List.nil_append] at h2
    rw [← h2]
    all_goals (refine go ?_; and_intros <;> (try exact trivial) <;> repeat (first | refine fun (Bk : Nat) => ?_ | intro h))
    all_goals refine ret1b Tryz.func159 Tryz.results159 ?_
    all_goals rfl
  · have hu8 := u8_row (c := m % 256) (Nat.mod_lt _ (by decide))
    have hlt : m / 256 < m := Nat.div_lt_self (by omega) (by decide)
    have hll : l.length ≤ 8 := by
      have h3 := congrArg List.length h2
      rw [List.length_append] at h3
      have h4 : (nB n).length ≤ 8 := nB_bound (by omega)
      omega
    have c1 : (m : Int).tmod 256 = ((m % 256 : Nat) : Int) := rem_n (b := 256)
    have c2 : IntKind.i64.wrap ((m : Int).tdiv 256) = ((m / 256 : Nat) : Int) := quo64_n (b := 256) (by omega)
    repeat' (first | (apply G.remK; rfl; rfl; decide; exact c1; rfl; rfl; rfl) | (apply G.quoK; rfl; rfl; decide; exact c2; rfl; rfl; rfl) | (apply G.sliceL; rfl; rfl; rfl; rfl; rfl; rfl; rfl; rfl; intro Bs) | (apply G.ofBytes (E := 5) (l := [UInt8.ofNat (m % 256)]); rfl; rfl; exact fun w' hw => SlAt.ofBlk (fun _ => rfl) hw (by (rw [hu8]; exact .head _)); rfl; rfl; rfl) | (apply G.catStr; rfl; rfl; (rw [List.length_singleton]; omega); rfl; rfl; rfl) | (apply G.pu; rfl; rfl; first | exact trivial | omega) | (apply J.ct; rfl) | (apply G.nil; rfl) | (apply G.cm; rfl; rfl; all_goals intro h; all_goals try (exfalso; omega)) | (apply G.fa; rfl; rfl) | (apply G.ld; rfl; (first | (apply LdV.one; (first | exact CellV.row0 (by assumption) rfl | exact CellV.rowS (by assumption) rfl | exact CellV.rowSS (by assumption) rfl | (apply CellV.blk; exact mm; rfl))) | (apply LdV.aggBlk; exact mm; rfl) | (apply LdV.part; exact mm; rfl; rfl) | (apply LdV.aggRow; assumption; rfl) | (apply LdV.partRow; assumption; rfl; rfl)); rfl) | (apply G.sk; rfl) | (apply G.ls; rfl; rfl) | (apply G.ix; rfl; rfl; rfl; omega; rfl) | (apply G.ix; rfl; rfl; (first | exact sub_one _ | exact add_one' _); omega; rfl) | (apply G.lt; rfl; rfl) | (apply G.bu; rfl; rfl; rfl) | (apply G.fd; rfl; rfl; rfl) | (apply G.cv; rfl; rfl; rfl; omega) | (apply G.beq; rfl; rfl; rfl) | (apply G.bne; rfl; rfl; rfl) | (apply G.mm; rfl; rfl) | (apply G.mf; rfl; rfl) | (apply G.mx; rfl; rfl; rfl) | (apply G.mn; rfl; rfl; rfl) | (apply G.bx; rfl; rfl; rfl; intro Bk) | (apply G.al; rfl; intro Bk) | (apply G.so; rfl; rfl; (repeat (first | exact RAt.head | apply RAt.tail)); rfl; rfl) | (apply G.ss; rfl; rfl; (repeat (first | exact RAt.head | apply RAt.tail)); rfl; rfl) | (apply J.regQ; exact Tryz.mixed; decide +kernel) | (apply J.regL; exact Tryz.mixed; decide +kernel) | apply J.reg)
    exact J.fin (ih (m / 256, [UInt8.ofNat (m % 256)] ++ l) ⟨by dsimp only; omega, by dsimp only; rw [← List.append_assoc, ← nB_succ hm]; exact h2⟩ hlt)
end Go.Proofs.YteaccaieaigeaaaGreatDoor
/-
  Contracts of the rational numbers: Valid, of, lowest, plus, less, times, over.
-/
namespace Go.Proofs.YteaccaieaigeaaaGreatDoor
open Go.RowKit Go.Sl Go.Num
theorem nB_one : nB 1 = [1] := by
  have h := nB_vB_of (x := 1) (r := []) (by decide)
  have e : vB [1] = 1 := rfl
  rwa [e] at h
theorem nB_eq_one {n : Nat} : nB n = [1] ↔ n = 1 := ⟨fun h => nB_inj (h.trans nB_one.symm), fun h => by rw [h, nB_one]⟩
theorem ratValid_holds (a : Q3) (w : World) (h1 : a.num.length ≤ 536870912) (h2 : a.den.length ≤ 536870912) :
    Calls Tryz.prog 27 #[qA a] w fun e w' => e = .returned (.bool (decide (validQ a))) ∧ Below w.heap.size w w' := by
  have hvn := fun w' => natValid_holds a.num w'
  have hvd := fun w' => natValid_holds a.den w'
  have hg := fun w' => natGcd_holds a.num a.den w' h1 h2
  refine enterA [(0, qA a)] Tryz.func27 Tryz.ntmps27 ?_
  by_cases hz : a = zero3
  · rw [decide_eq_true (show validQ a from .inl hz)]
    all_goals (refine go ?_; and_intros <;> (try exact trivial) <;> repeat (first | refine fun (Bk : Nat) => ?_ | intro h))
    repeat' ((first | (apply G.eqR a zero3; rfl; rfl; rfl; all_goals intro h; all_goals try (exact absurd hz h))) <;> (refine go ?_; and_intros <;> (try exact trivial) <;> repeat (first | refine fun (Bk : Nat) => ?_ | intro h)))
    all_goals refine ret1b Tryz.func27 Tryz.results27 ?_
    all_goals rfl
  have key : validQ a ↔ (a.num ≠ [] ∧ a.den ≠ [] ∧ nB (vB a.num) = a.num ∧ nB (vB a.den) = a.den ∧ Nat.gcd (vB a.num) (vB a.den) = 1) := ⟨fun h => h.resolve_left hz, .inr⟩
  generalize hr : decide (validQ a) = r
  obtain ⟨s, n, d⟩ := a
  dsimp only at *
  by_cases c1 : n = []
  · rw [show r = false from hr ▸ decide_eq_false (fun h => (key.1 h).1 c1)]
    all_goals (refine go ?_; and_intros <;> (try exact trivial) <;> repeat (first | refine fun (Bk : Nat) => ?_ | intro h))
    repeat' ((first | (apply G.eqR ⟨s, n, d⟩ zero3; rfl; rfl; rfl; all_goals intro h; all_goals try (exact absurd h hz)) | (apply G.neqStr; rfl; rfl; rfl; rfl; rfl; all_goals intro h; all_goals try (first | exact absurd h (by assumption) | exact absurd (by assumption) h))) <;> (refine go ?_; and_intros <;> (try exact trivial) <;> repeat (first | refine fun (Bk : Nat) => ?_ | intro h)))
    all_goals refine ret1b Tryz.func27 Tryz.results27 ?_
    all_goals rfl
  by_cases c2 : d = []
  · rw [show r = false from hr ▸ decide_eq_false (fun h => (key.1 h).2.1 c2)]
    all_goals (refine go ?_; and_intros <;> (try exact trivial) <;> repeat (first | refine fun (Bk : Nat) => ?_ | intro h))
    repeat' ((first | (apply G.eqR ⟨s, n, d⟩ zero3; rfl; rfl; rfl; all_goals intro h; all_goals try (exact absurd h hz)) | (apply G.neqStr; rfl; rfl; rfl; rfl; rfl; all_goals intro h; all_goals try (first | exact absurd h (by assumption) | exact absurd (by assumption) h))) <;> (refine go ?_; and_intros <;> (try exact trivial) <;> repeat (first | refine fun (Bk : Nat) => ?_ | intro h)))
    all_goals refine ret1b Tryz.func27 Tryz.results27 ?_
    all_goals rfl
  by_cases c3 : nB (vB n) = n
  · rw [decide_eq_true c3] at hvn
    by_cases c4 : nB (vB d) = d
    · rw [decide_eq_true c4] at hvd
      by_cases c5 : Nat.gcd (vB n) (vB d) = 1
      · have c6 : nB (Nat.gcd (vB n) (vB d)) = [1] := nB_eq_one.2 c5
        rw [show r = true from hr ▸ decide_eq_true (key.2 ⟨c1, c2, c3, c4, c5⟩)]
        all_goals (refine go ?_; and_intros <;> (try exact trivial) <;> repeat (first | refine fun (Bk : Nat) => ?_ | intro h))
        repeat' ((first | (apply G.eqR ⟨s, n, d⟩ zero3; rfl; rfl; rfl; all_goals intro h; all_goals try (exact absurd h hz)) | (apply G.neqStr; rfl; rfl; rfl; rfl; rfl; all_goals intro h; all_goals try (first | exact absurd h (by assumption) | exact absurd (by assumption) h)) | (apply G.eqlStr; rfl; rfl; rfl; rfl; rfl; all_goals intro h; all_goals try (first | exact absurd h (by assumption) | exact absurd (by assumption) h)) | (apply G.cV (g := 65) (vs := [.string (bs n)]); rfl; rfl; exact fun w' _ => hvn w') | (apply G.cV (g := 65) (vs := [.string (bs d)]); rfl; rfl; exact fun w' _ => hvd w') | (apply G.cV (g := 66); rfl; rfl; exact fun w' _ => hg w')) <;> (refine go ?_; and_intros <;> (try exact trivial) <;> repeat (first | refine fun (Bk : Nat) => ?_ | intro h)))
        all_goals refine ret1b Tryz.func27 Tryz.results27 ?_
        all_goals rfl
      · have c6 : nB (Nat.gcd (vB n) (vB d)) ≠ [1] := fun e => c5 (nB_eq_one.1 e)
        rw [show r = false from hr ▸ decide_eq_false (fun h => c5 (key.1 h).2.2.2.2)]
        all_goals (refine go ?_; and_intros <;> (try exact trivial) <;> repeat (first | refine fun (Bk : Nat) => ?_ | intro h))
        repeat' ((first | (apply G.eqR ⟨s, n, d⟩ zero3; rfl; rfl; rfl; all_goals intro h; all_goals try (exact absurd h hz)) | (apply G.neqStr; rfl; rfl; rfl; rfl; rfl; all_goals intro h; all_goals try (first | exact absurd h (by assumption) | exact absurd (by assumption) h)) | (apply G.eqlStr; rfl; rfl; rfl; rfl; rfl; all_goals intro h; all_goals try (first | exact absurd h (by assumption) | exact absurd (by assumption) h)) | (apply G.cV (g := 65) (vs := [.string (bs n)]); rfl; rfl; exact fun w' _ => hvn w') | (apply G.cV (g := 65) (vs := [.string (bs d)]); rfl; rfl; exact fun w' _ => hvd w') | (apply G.cV (g := 66); rfl; rfl; exact fun w' _ => hg w')) <;> (refine go ?_; and_intros <;> (try exact trivial) <;> repeat (first | refine fun (Bk : Nat) => ?_ | intro h)))
        all_goals refine ret1b Tryz.func27 Tryz.results27 ?_
        all_goals rfl
    · rw [decide_eq_false c4] at hvd
      rw [show r = false from hr ▸ decide_eq_false (fun h => c4 (key.1 h).2.2.2.1)]
      all_goals (refine go ?_; and_intros <;> (try exact trivial) <;> repeat (first | refine fun (Bk : Nat) => ?_ | intro h))
      repeat' ((first | (apply G.eqR ⟨s, n, d⟩ zero3; rfl; rfl; rfl; all_goals intro h; all_goals try (exact absurd h hz)) | (apply G.neqStr; rfl; rfl; rfl; rfl; rfl; all_goals intro h; all_goals try (first | exact absurd h (by assumption) | exact absurd (by assumption) h)) | (apply G.cV (g := 65) (vs := [.string (bs n)]); rfl; rfl; exact fun w' _ => hvn w') | (apply G.cV (g := 65) (vs := [.string (bs d)]); rfl; rfl; exact fun w' _ => hvd w')) <;> (refine go ?_; and_intros <;> (try exact trivial) <;> repeat (first | refine fun (Bk : Nat) => ?_ | intro h)))
      all_goals refine ret1b Tryz.func27 Tryz.results27 ?_
      all_goals rfl
  · rw [decide_eq_false c3] at hvn
    rw [show r = false from hr ▸ decide_eq_false (fun h => c3 (key.1 h).2.2.1)]
    all_goals (refine go ?_; and_intros <;> (try exact trivial) <;> repeat (first | refine fun (Bk : Nat) => ?_ | intro h))
    repeat' ((first | (apply G.eqR ⟨s, n, d⟩ zero3; rfl; rfl; rfl; all_goals intro h; all_goals try (exact absurd h hz)) | (apply G.neqStr; rfl; rfl; rfl; rfl; rfl; all_goals intro h; all_goals try (first | exact absurd h (by assumption) | exact absurd (by assumption) h)) | (apply G.cV (g := 65) (vs := [.string (bs n)]); rfl; rfl; exact fun w' _ => hvn w')) <;> (refine go ?_; and_intros <;> (try exact trivial) <;> repeat (first | refine fun (Bk : Nat) => ?_ | intro h)))
    all_goals refine ret1b Tryz.func27 Tryz.results27 ?_
    all_goals rfl
/-- A fraction as the program holds it. -/
abbrev frA (f : Bool × Nat × Nat) : Value := .agg #[.bool f.1, .string (bs (nB f.2.1)), .string (bs (nB f.2.2))]
theorem ratOf_holds (a : Q3) (w : World) (h1 : a.num.length ≤ 536870912) (h2 : a.den.length ≤ 536870912) :
    Calls Tryz.prog 61 #[qA a] w fun e w' => e = .returned (frA (frac a)) ∧ Below w.heap.size w w' := by
  have hv := fun w' => ratValid_holds a w' h1 h2
  have hf0 : ¬ (validQ a ∧ a.num ≠ []) → frA (frac a) = .agg #[.bool false, .string (bs []), .string (bs [1])] := fun h => by
    rw [frac, if_neg h]; simp only [frA, nB_zero, nB_one]
  have hf1 : validQ a ∧ a.num ≠ [] → frA (frac a) = .agg #[.bool a.neg, .string (bs a.num), .string (bs a.den)] := fun h => by
    rw [frac, if_pos h]
    rcases h.1 with e | ⟨_, _, e1, e2, _⟩
    · exact absurd (by rw [e]; rfl) h.2
    · simp only [frA, e1, e2]
  refine enterA [(0, qA a)] Tryz.func61 Tryz.ntmps61 ?_
  by_cases c1 : a.num = []
  · rw [hf0 (fun h => h.2 c1)]
    all_goals (refine go ?_; and_intros <;> (try exact trivial) <;> repeat (first | refine fun (Bk : Nat) => ?_ | intro h))
    repeat' ((first | (apply G.eqlStr; rfl; rfl; rfl; rfl; rfl; all_goals intro h; all_goals try (first | exact absurd h (by assumption) | exact absurd (by assumption) h))) <;> (refine go ?_; and_intros <;> (try exact trivial) <;> repeat (first | refine fun (Bk : Nat) => ?_ | intro h)))
    all_goals refine ret1b Tryz.func61 Tryz.results61 ?_
    all_goals rfl
  by_cases c2 : validQ a
  · rw [hf1 ⟨c2, c1⟩]
    rw [decide_eq_true c2] at hv
    all_goals (refine go ?_; and_intros <;> (try exact trivial) <;> repeat (first | refine fun (Bk : Nat) => ?_ | intro h))
    repeat' ((first | (apply G.eqlStr; rfl; rfl; rfl; rfl; rfl; all_goals intro h; all_goals try (first | exact absurd h (by assumption) | exact absurd (by assumption) h)) | (apply G.cV (g := 27); rfl; rfl; exact fun w' _ => hv w')) <;> (refine go ?_; and_intros <;> (try exact trivial) <;> repeat (first | refine fun (Bk : Nat) => ?_ | intro h)))
    all_goals refine ret1b Tryz.func61 Tryz.results61 ?_
    all_goals rfl
  · rw [hf0 (fun h => c2 h.1)]
    rw [decide_eq_false c2] at hv
    all_goals (refine go ?_; and_intros <;> (try exact trivial) <;> repeat (first | refine fun (Bk : Nat) => ?_ | intro h))
    repeat' ((first | (apply G.eqlStr; rfl; rfl; rfl; rfl; rfl; all_goals intro h; all_goals try (first | exact absurd h (by assumption) | exact absurd (by assumption) h)) | (apply G.cV (g := 27); rfl; rfl; exact fun w' _ => hv w')) <;> (refine go ?_; and_intros <;> (try exact trivial) <;> repeat (first | refine fun (Bk : Nat) => ?_ | intro h)))
    all_goals refine ret1b Tryz.func61 Tryz.results61 ?_
    all_goals rfl
/-- The lengths of a fraction's parts. -/
def fLe (f : Bool × Nat × Nat) (k : Nat) : Prop := (nB f.2.1).length ≤ k ∧ (nB f.2.2).length ≤ k
theorem lowest_holds (f : Bool × Nat × Nat) (w : World) (hl : fLe f 536870912) (hd : f.2.2 ≠ 0) :
    Calls Tryz.prog 70 #[frA f] w fun e w' => e = .returned (qA (rQ (ofF f.1 f.2.1 f.2.2))) ∧ Below w.heap.size w w' := by
  obtain ⟨s, n, d⟩ := f
  obtain ⟨h1, h2⟩ := hl
  dsimp only at h1 h2 hd ⊢
  have hg := fun w' => natGcd_holds (nB n) (nB d) w' h1 h2
  have hg0 : Nat.gcd n d ≠ 0 := fun e => hd (Nat.eq_zero_of_gcd_eq_zero_right e)
  have hgl : (nB (Nat.gcd n d)).length ≤ 536870912 := Nat.le_trans (nB_len_le (Nat.gcd_le_right _ (by omega))) h2
  have hn := fun w' => natDivMod_holds (nB n) (nB (Nat.gcd n d)) w' h1 hgl (by rw [vB_nB]; exact hg0)
  have hdd := fun w' => natDivMod_holds (nB d) (nB (Nat.gcd n d)) w' h2 hgl (by rw [vB_nB]; exact hg0)
  simp only [vB_nB] at hg hn hdd
  rw [rQ_ofF hd]
  refine enterA [(0, frA (s, n, d))] Tryz.func70 Tryz.ntmps70 ?_
  by_cases c1 : n = 0
  · subst c1
    rw [if_pos rfl]
    have c2 : nB 0 = [] := nB_zero
    all_goals (refine go ?_; and_intros <;> (try exact trivial) <;> repeat (first | refine fun (Bk : Nat) => ?_ | intro h))
    repeat' ((first | (apply G.eqlStr; rfl; rfl; rfl; rfl; rfl; all_goals intro h; all_goals try (first | exact absurd h (by assumption) | exact absurd (by assumption) h))) <;> (refine go ?_; and_intros <;> (try exact trivial) <;> repeat (first | refine fun (Bk : Nat) => ?_ | intro h)))
    all_goals refine ret1b Tryz.func70 Tryz.results70 ?_
    all_goals rfl
  · rw [if_neg c1]
    have c2 : nB n ≠ [] := fun e => c1 (nB_nil.1 e)
    all_goals (refine go ?_; and_intros <;> (try exact trivial) <;> repeat (first | refine fun (Bk : Nat) => ?_ | intro h))
    repeat' ((first | (apply G.eqlStr; rfl; rfl; rfl; rfl; rfl; all_goals intro h; all_goals try (first | exact absurd h (by assumption) | exact absurd (by assumption) h)) | (apply G.cV (g := 66); rfl; rfl; exact fun w' _ => hg w') | (apply G.cV (g := 101) (vs := [.string (bs (nB n)), .string (bs (nB (Nat.gcd n d)))]); rfl; rfl; exact fun w' _ => hn w') | (apply G.cV (g := 101) (vs := [.string (bs (nB d)), .string (bs (nB (Nat.gcd n d)))]); rfl; rfl; exact fun w' _ => hdd w')) <;> (refine go ?_; and_intros <;> (try exact trivial) <;> repeat (first | refine fun (Bk : Nat) => ?_ | intro h)))
    all_goals refine ret1b Tryz.func70 Tryz.results70 ?_
    all_goals rfl
end Go.Proofs.YteaccaieaigeaaaGreatDoor
/-
  Contracts of the rational numbers: plus, less, times, over, do, Add, Sub, Mul, Cmp, Make, Int.
-/
namespace Go.Proofs.YteaccaieaigeaaaGreatDoor
open Go.RowKit Go.Sl Go.Num
theorem nB_lt_pow {n k : Nat} (h : (nB n).length ≤ k) : n < 256 ^ k := by
  have := vB_lt (nB n)
  rw [vB_nB] at this
  exact Nat.lt_of_lt_of_le this (Nat.pow_le_pow_right (by decide) h)
theorem nB_mul {m n k l : Nat} (h1 : (nB m).length ≤ k) (h2 : (nB n).length ≤ l) : (nB (m * n)).length ≤ k + l := by
  refine nB_bound ?_
  rw [Nat.pow_add]
  exact Nat.mul_lt_mul'' (nB_lt_pow h1) (nB_lt_pow h2)
theorem nB_add {m n k : Nat} (h1 : (nB m).length ≤ k) (h2 : (nB n).length ≤ k) : (nB (m + n)).length ≤ k + 1 := by
  refine nB_bound ?_
  have a1 := nB_lt_pow h1
  have a2 := nB_lt_pow h2
  rw [Nat.pow_succ]
  omega
theorem plus_f (f g : Bool × Nat × Nat) (w : World) (hf : fLe f 134217728) (hg : fLe g 134217728) :
    Calls Tryz.prog 64 #[frA f, frA g] w fun e w' => e = .returned (frA (fplus f.1 f.2.1 f.2.2 g.1 g.2.1 g.2.2)) ∧ Below w.heap.size w w' := by
  obtain ⟨s, n, d⟩ := f
  obtain ⟨t, m, e⟩ := g
  obtain ⟨h1, h2⟩ := hf
  obtain ⟨h3, h4⟩ := hg
  dsimp only at h1 h2 h3 h4 ⊢
  have m1 := fun w' => natMul_holds (nB n) (nB e) w' (by omega) (by omega)
  have m2 := fun w' => natMul_holds (nB m) (nB d) w' (by omega) (by omega)
  have m3 := fun w' => natMul_holds (nB d) (nB e) w' (by omega) (by omega)
  have l1 := nB_mul h1 h4
  have l2 := nB_mul h3 h2
  have ad := fun w' => natAdd_holds (nB (n * e)) (nB (m * d)) w' (by omega) (by omega)
  have cm := fun w' => natCmp_holds (nB (n * e)) (nB (m * d)) w' (by omega) (by omega)
  have s1 := fun (h : n * e ≤ m * d) w' => natSub_holds (nB (m * d)) (nB (n * e)) w' (by omega) (by omega) (by rw [vB_nB, vB_nB]; exact h)
  have s2 := fun (h : m * d ≤ n * e) w' => natSub_holds (nB (n * e)) (nB (m * d)) w' (by omega) (by omega) (by rw [vB_nB, vB_nB]; exact h)
  simp only [vB_nB] at m1 m2 m3 ad cm s1 s2
  rw [fplus]
  refine enterA [(0, frA (s, n, d)), (1, frA (t, m, e))] Tryz.func64 Tryz.ntmps64 ?_
  by_cases hst : s = t
  · subst hst
    rw [if_pos rfl]
    cases s <;> skip
    all_goals clear cm s1 s2
    all_goals (refine go ?_; and_intros <;> (try exact trivial) <;> repeat (first | refine fun (Bk : Nat) => ?_ | intro h))
    repeat' ((first | (apply G.cV (g := 92) (vs := [.string (bs (nB n)), .string (bs (nB e))]); rfl; rfl; exact fun w' _ => m1 w') | (apply G.cV (g := 92) (vs := [.string (bs (nB m)), .string (bs (nB d))]); rfl; rfl; exact fun w' _ => m2 w') | (apply G.cV (g := 92) (vs := [.string (bs (nB d)), .string (bs (nB e))]); rfl; rfl; exact fun w' _ => m3 w') | (apply G.cV (g := 93); rfl; rfl; exact fun w' _ => ad w')) <;> (refine go ?_; and_intros <;> (try exact trivial) <;> repeat (first | refine fun (Bk : Nat) => ?_ | intro h)))
    all_goals refine ret1b Tryz.func64 Tryz.results64 ?_
    all_goals rfl
  rw [if_neg hst]
  have ht : t = !s := by cases s <;> cases t <;> simp_all
  subst ht
  by_cases hlt : n * e < m * d
  · rw [if_pos hlt]
    have s1 := s1 (by omega)
    rw [cmpI_lt (by omega)] at cm
    clear s2 hst
    cases s <;> skip
    all_goals (refine go ?_; and_intros <;> (try exact trivial) <;> repeat (first | refine fun (Bk : Nat) => ?_ | intro h))
    repeat' ((first | (apply G.cV (g := 92) (vs := [.string (bs (nB n)), .string (bs (nB e))]); rfl; rfl; exact fun w' _ => m1 w') | (apply G.cV (g := 92) (vs := [.string (bs (nB m)), .string (bs (nB d))]); rfl; rfl; exact fun w' _ => m2 w') | (apply G.cV (g := 92) (vs := [.string (bs (nB d)), .string (bs (nB e))]); rfl; rfl; exact fun w' _ => m3 w') | (apply G.cV (g := 94); rfl; rfl; exact fun w' _ => cm w') | (apply G.cV (g := 95); rfl; rfl; exact fun w' _ => s1 w')) <;> (refine go ?_; and_intros <;> (try exact trivial) <;> repeat (first | refine fun (Bk : Nat) => ?_ | intro h)))
    all_goals refine ret1b Tryz.func64 Tryz.results64 ?_
    all_goals rfl
  · rw [if_neg hlt]
    have s2 := s2 (by omega)
    have hc0 : 0 ≤ cmpI ((n * e : Nat) : Int) ((m * d : Nat) : Int) := by
      rcases Nat.lt_or_ge (m * d) (n * e) with h | h
      · rw [cmpI_gt (by omega)]; decide
      · rw [show n * e = m * d by omega, cmpI_eq]; decide
    generalize cmpI ((n * e : Nat) : Int) ((m * d : Nat) : Int) = cc at *
    clear s1 hst
    cases s <;> skip
    all_goals (refine go ?_; and_intros <;> (try exact trivial) <;> repeat (first | refine fun (Bk : Nat) => ?_ | intro h))
    repeat' ((first | (apply G.cV (g := 92) (vs := [.string (bs (nB n)), .string (bs (nB e))]); rfl; rfl; exact fun w' _ => m1 w') | (apply G.cV (g := 92) (vs := [.string (bs (nB m)), .string (bs (nB d))]); rfl; rfl; exact fun w' _ => m2 w') | (apply G.cV (g := 92) (vs := [.string (bs (nB d)), .string (bs (nB e))]); rfl; rfl; exact fun w' _ => m3 w') | (apply G.cV (g := 94); rfl; rfl; exact fun w' _ => cm w') | (apply G.cV (g := 95); rfl; rfl; exact fun w' _ => s2 w')) <;> (refine go ?_; and_intros <;> (try exact trivial) <;> repeat (first | refine fun (Bk : Nat) => ?_ | intro h)))
    all_goals refine ret1b Tryz.func64 Tryz.results64 ?_
    all_goals rfl
theorem fplus_le {f g : Bool × Nat × Nat} {k : Nat} (hf : fLe f k) (hg : fLe g k) : fLe (fplus f.1 f.2.1 f.2.2 g.1 g.2.1 g.2.2) (k + k + 1) := by
  obtain ⟨s, n, d⟩ := f
  obtain ⟨t, m, e⟩ := g
  obtain ⟨h1, h2⟩ := hf
  obtain ⟨h3, h4⟩ := hg
  dsimp only at h1 h2 h3 h4
  have l1 := nB_mul h1 h4
  have l2 := nB_mul h3 h2
  have l3 := nB_mul h2 h4
  rw [fplus]
  split
  · exact ⟨nB_add l1 l2, Nat.le_succ_of_le l3⟩
  · split
    · exact ⟨Nat.le_succ_of_le (Nat.le_trans (nB_len_le (Nat.sub_le _ _)) l2), Nat.le_succ_of_le l3⟩
    · exact ⟨Nat.le_succ_of_le (Nat.le_trans (nB_len_le (Nat.sub_le _ _)) l1), Nat.le_succ_of_le l3⟩
theorem less_f (f g : Bool × Nat × Nat) (w : World) (hf : fLe f 134217728) (hg : fLe g 134217728) :
    Calls Tryz.prog 62 #[frA f, frA g] w fun e w' => e = .returned (frA (fplus f.1 f.2.1 f.2.2 (!g.1) g.2.1 g.2.2)) ∧ Below w.heap.size w w' := by
  obtain ⟨t, m, e⟩ := g
  have hp := fun w' => plus_f f (!t, m, e) w' hf hg
  dsimp only at hp ⊢
  generalize fplus f.1 f.2.1 f.2.2 (!t) m e = r at *
  obtain ⟨s, n, d⟩ := f
  refine enterA [(0, frA (s, n, d)), (1, frA (t, m, e))] Tryz.func62 Tryz.ntmps62 ?_
  cases t
  all_goals skip
  all_goals (refine go ?_; and_intros <;> (try exact trivial) <;> repeat (first | refine fun (Bk : Nat) => ?_ | intro h))
  repeat' ((first | (apply G.cV (g := 64); rfl; rfl; exact fun w' _ => hp w')) <;> (refine go ?_; and_intros <;> (try exact trivial) <;> repeat (first | refine fun (Bk : Nat) => ?_ | intro h)))
  all_goals refine ret1b Tryz.func62 Tryz.results62 ?_
  all_goals rfl
def ftimes (f g : Bool × Nat × Nat) : Bool × Nat × Nat := (f.1 != g.1, f.2.1 * g.2.1, f.2.2 * g.2.2)
theorem times_f (f g : Bool × Nat × Nat) (w : World) (hf : fLe f 134217728) (hg : fLe g 134217728) :
    Calls Tryz.prog 67 #[frA f, frA g] w fun e w' => e = .returned (frA (ftimes f g)) ∧ Below w.heap.size w w' := by
  obtain ⟨s, n, d⟩ := f
  obtain ⟨t, m, e⟩ := g
  obtain ⟨h1, h2⟩ := hf
  obtain ⟨h3, h4⟩ := hg
  dsimp only at h1 h2 h3 h4 ⊢
  have m1 := fun w' => natMul_holds (nB n) (nB m) w' (by omega) (by omega)
  have m2 := fun w' => natMul_holds (nB d) (nB e) w' (by omega) (by omega)
  simp only [vB_nB] at m1 m2
  refine enterA [(0, frA (s, n, d)), (1, frA (t, m, e))] Tryz.func67 Tryz.ntmps67 ?_
  all_goals (refine go ?_; and_intros <;> (try exact trivial) <;> repeat (first | refine fun (Bk : Nat) => ?_ | intro h))
  repeat' ((first | (apply G.cV (g := 92) (vs := [.string (bs (nB n)), .string (bs (nB m))]); rfl; rfl; exact fun w' _ => m1 w') | (apply G.cV (g := 92) (vs := [.string (bs (nB d)), .string (bs (nB e))]); rfl; rfl; exact fun w' _ => m2 w')) <;> (refine go ?_; and_intros <;> (try exact trivial) <;> repeat (first | refine fun (Bk : Nat) => ?_ | intro h)))
  all_goals refine ret1b Tryz.func67 Tryz.results67 ?_
  all_goals rfl
theorem over_f (f g : Bool × Nat × Nat) (w : World) (hf : fLe f 134217728) (hg : fLe g 134217728) :
    Calls Tryz.prog 79 #[frA f, frA g] w fun e w' => e = .returned (frA (ftimes f (g.1, g.2.2, g.2.1))) ∧ Below w.heap.size w w' := by
  obtain ⟨t, m, e⟩ := g
  have hp := fun w' => times_f f (t, e, m) w' hf ⟨hg.2, hg.1⟩
  dsimp only at hp ⊢
  generalize ftimes f (t, e, m) = r at *
  obtain ⟨s, n, d⟩ := f
  refine enterA [(0, frA (s, n, d)), (1, frA (t, m, e))] Tryz.func79 Tryz.ntmps79 ?_
  all_goals (refine go ?_; and_intros <;> (try exact trivial) <;> repeat (first | refine fun (Bk : Nat) => ?_ | intro h))
  repeat' ((first | (apply G.cV (g := 67); rfl; rfl; exact fun w' _ => hp w')) <;> (refine go ?_; and_intros <;> (try exact trivial) <;> repeat (first | refine fun (Bk : Nat) => ?_ | intro h)))
  all_goals refine ret1b Tryz.func79 Tryz.results79 ?_
  all_goals rfl
theorem do_holds (g : FuncId) [Fun Tryz.prog g] (F : Value) (b : Q3) (r : Bool × Nat × Nat) (w : World) (h1 : b.num.length ≤ 536870912) (h2 : b.den.length ≤ 536870912) (hop : ∀ w', Calls Tryz.prog g #[F, frA (frac b)] w' fun e w2 => e = .returned (frA r) ∧ Below w'.heap.size w' w2) (hr : fLe r 536870912) (hd : r.2.2 ≠ 0) :
    Calls Tryz.prog 63 #[.func (.func g) #[F] #[], qA b] w fun e w' => e = .returned (qA (rQ (ofF r.1 r.2.1 r.2.2))) ∧ Below w.heap.size w w' := by
  have hof := fun w' => ratOf_holds b w' h1 h2
  have hlo := fun w' => lowest_holds r w' hr hd
  have hop' : ∀ w', Calls Tryz.prog g (#[F] ++ [frA (frac b)].toArray) w' fun e w2 => e = .returned (frA r) ∧ Below w'.heap.size w' w2 := fun w' => by simpa using hop w'
  refine enterA [(0, .func (.func g) #[F] #[]), (1, qA b)] Tryz.func63 Tryz.ntmps63 ?_
  all_goals (refine go ?_; and_intros <;> (try exact trivial) <;> repeat (first | refine fun (Bk : Nat) => ?_ | intro h))
  repeat' ((first | (apply G.cV (g := 61); rfl; rfl; exact fun w' _ => hof w') | (apply G.cVm (g := g) (v := frA r); rfl; rfl; rfl; exact fun w' _ => hop' w') | (apply G.cV (g := 70); rfl; rfl; exact fun w' _ => hlo w')) <;> (refine go ?_; and_intros <;> (try exact trivial) <;> repeat (first | refine fun (Bk : Nat) => ?_ | intro h)))
  all_goals refine ret1b Tryz.func63 Tryz.results63 ?_
  all_goals rfl
theorem frac_le {a : Q3} {k : Nat} (h1 : a.num.length ≤ k) (h2 : a.den.length ≤ k) (hk : 1 ≤ k) : fLe (frac a) k := by
  rw [frac]
  split
  · exact ⟨Nat.le_trans (nB_vB_len _) h1, Nat.le_trans (nB_vB_len _) h2⟩
  · refine ⟨?_, ?_⟩
    · show (nB 0).length ≤ k
      rw [nB_zero]; exact Nat.zero_le _
    · show (nB 1).length ≤ k
      rw [nB_one]; exact hk
theorem ratAdd_holds (a b : Q3) (w : World) (h1 : a.num.length ≤ 134217728) (h2 : a.den.length ≤ 134217728) (h3 : b.num.length ≤ 134217728) (h4 : b.den.length ≤ 134217728) :
    Calls Tryz.prog 26 #[qA a, qA b] w fun e w' => e = .returned (qA (rQ (qR a + qR b))) ∧ Below w.heap.size w w' := by
  have hfa := frac_le h1 h2 (by decide)
  have hfb := frac_le h3 h4 (by decide)
  obtain ⟨e1, d1⟩ := frac_eq a
  obtain ⟨e2, d2⟩ := frac_eq b
  obtain ⟨e3, d3⟩ := fplus_eq (s := (frac a).1) (t := (frac b).1) (n := (frac a).2.1) (m := (frac b).2.1) d1 d2
  have hle := fplus_le hfa hfb
  have hof := fun w' => ratOf_holds a w' (by omega) (by omega)
  have hdo := fun w' => do_holds 64 (frA (frac a)) b _ w' (by omega) (by omega) (fun w2 => plus_f (frac a) (frac b) w2 hfa hfb) ⟨Nat.le_trans hle.1 (by decide), Nat.le_trans hle.2 (by decide)⟩ d3
  rw [e3, e1, e2] at hdo
  refine enterA [(0, qA a), (1, qA b)] Tryz.func26 Tryz.ntmps26 ?_
  all_goals (refine go ?_; and_intros <;> (try exact trivial) <;> repeat (first | refine fun (Bk : Nat) => ?_ | intro h))
  repeat' ((first | (apply G.cV (g := 61); rfl; rfl; exact fun w' _ => hof w') | (apply G.cV (g := 63); rfl; rfl; exact fun w' _ => hdo w')) <;> (refine go ?_; and_intros <;> (try exact trivial) <;> repeat (first | refine fun (Bk : Nat) => ?_ | intro h)))
  all_goals refine ret1b Tryz.func26 Tryz.results26 ?_
  all_goals rfl
theorem ratSub_holds (a b : Q3) (w : World) (h1 : a.num.length ≤ 134217728) (h2 : a.den.length ≤ 134217728) (h3 : b.num.length ≤ 134217728) (h4 : b.den.length ≤ 134217728) :
    Calls Tryz.prog 44 #[qA a, qA b] w fun e w' => e = .returned (qA (rQ (qR a - qR b))) ∧ Below w.heap.size w w' := by
  have hfa := frac_le h1 h2 (by decide)
  have hfb := frac_le h3 h4 (by decide)
  obtain ⟨e1, d1⟩ := frac_eq a
  obtain ⟨e2, d2⟩ := frac_eq b
  obtain ⟨e3, d3⟩ := fplus_eq (s := (frac a).1) (t := !(frac b).1) (n := (frac a).2.1) (m := (frac b).2.1) d1 d2
  have hle := fplus_le (g := (!(frac b).1, (frac b).2.1, (frac b).2.2)) hfa hfb
  have hof := fun w' => ratOf_holds a w' (by omega) (by omega)
  have hdo := fun w' => do_holds 62 (frA (frac a)) b _ w' (by omega) (by omega) (fun w2 => less_f (frac a) (frac b) w2 hfa hfb) ⟨Nat.le_trans hle.1 (by decide), Nat.le_trans hle.2 (by decide)⟩ d3
  rw [e3, e1, ← ofF_neg, e2, ← Rat.sub_eq_add_neg] at hdo
  refine enterA [(0, qA a), (1, qA b)] Tryz.func44 Tryz.ntmps44 ?_
  all_goals (refine go ?_; and_intros <;> (try exact trivial) <;> repeat (first | refine fun (Bk : Nat) => ?_ | intro h))
  repeat' ((first | (apply G.cV (g := 61); rfl; rfl; exact fun w' _ => hof w') | (apply G.cV (g := 63); rfl; rfl; exact fun w' _ => hdo w')) <;> (refine go ?_; and_intros <;> (try exact trivial) <;> repeat (first | refine fun (Bk : Nat) => ?_ | intro h)))
  all_goals refine ret1b Tryz.func44 Tryz.results44 ?_
  all_goals rfl
theorem ftimes_le {f g : Bool × Nat × Nat} {k l : Nat} (hf : fLe f k) (hg : fLe g l) : fLe (ftimes f g) (k + l) := ⟨nB_mul hf.1 hg.1, nB_mul hf.2 hg.2⟩
theorem ratMul_holds (a b : Q3) (w : World) (h1 : a.num.length ≤ 134217728) (h2 : a.den.length ≤ 134217728) (h3 : b.num.length ≤ 134217728) (h4 : b.den.length ≤ 134217728) :
    Calls Tryz.prog 28 #[qA a, qA b] w fun e w' => e = .returned (qA (rQ (qR a * qR b))) ∧ Below w.heap.size w w' := by
  have hfa := frac_le h1 h2 (by decide)
  have hfb := frac_le h3 h4 (by decide)
  obtain ⟨e1, d1⟩ := frac_eq a
  obtain ⟨e2, d2⟩ := frac_eq b
  have hle := ftimes_le hfa hfb
  have hof := fun w' => ratOf_holds a w' (by omega) (by omega)
  have hdo := fun w' => do_holds 67 (frA (frac a)) b _ w' (by omega) (by omega) (fun w2 => times_f (frac a) (frac b) w2 hfa hfb) ⟨Nat.le_trans hle.1 (by decide), Nat.le_trans hle.2 (by decide)⟩ (Nat.mul_ne_zero d1 d2)
  have e3 : ofF (ftimes (frac a) (frac b)).1 (ftimes (frac a) (frac b)).2.1 (ftimes (frac a) (frac b)).2.2 = qR a * qR b := by
    rw [← e1, ← e2, ofF_times]; rfl
  rw [e3] at hdo
  refine enterA [(0, qA a), (1, qA b)] Tryz.func28 Tryz.ntmps28 ?_
  all_goals (refine go ?_; and_intros <;> (try exact trivial) <;> repeat (first | refine fun (Bk : Nat) => ?_ | intro h))
  repeat' ((first | (apply G.cV (g := 61); rfl; rfl; exact fun w' _ => hof w') | (apply G.cV (g := 63); rfl; rfl; exact fun w' _ => hdo w')) <;> (refine go ?_; and_intros <;> (try exact trivial) <;> repeat (first | refine fun (Bk : Nat) => ?_ | intro h)))
  all_goals refine ret1b Tryz.func28 Tryz.results28 ?_
  all_goals rfl
end Go.Proofs.YteaccaieaigeaaaGreatDoor
/-
  Contracts of the rational numbers: Cmp, inside, integer, Make, Int.
-/
namespace Go.Proofs.YteaccaieaigeaaaGreatDoor
open Go.RowKit Go.Sl Go.Num
theorem ratCmp_holds (a b : Q3) (w : World) (h1 : a.num.length ≤ 134217728) (h2 : a.den.length ≤ 134217728) (h3 : b.num.length ≤ 134217728) (h4 : b.den.length ≤ 134217728) :
    Calls Tryz.prog 25 #[qA a, qA b] w fun e w' => e = .returned (.int .i64 (sgnR (qR a - qR b))) ∧ Below w.heap.size w w' := by
  have hfa := frac_le h1 h2 (by decide)
  have hfb := frac_le h3 h4 (by decide)
  obtain ⟨e1, d1⟩ := frac_eq a
  obtain ⟨e2, d2⟩ := frac_eq b
  obtain ⟨e3, d3⟩ := fplus_eq (s := (frac a).1) (t := !(frac b).1) (n := (frac a).2.1) (m := (frac b).2.1) d1 d2
  have hoa := fun w' => ratOf_holds a w' (by omega) (by omega)
  have hob := fun w' => ratOf_holds b w' (by omega) (by omega)
  have hle := fun w' => less_f (frac a) (frac b) w' hfa hfb
  rw [e1, ← ofF_neg, e2, ← Rat.sub_eq_add_neg] at e3
  rw [← e3, sgn_ofF d3]
  generalize fplus (frac a).1 (frac a).2.1 (frac a).2.2 (!(frac b).1) (frac b).2.1 (frac b).2.2 = r at *
  obtain ⟨s, n, d⟩ := r
  dsimp only at d3 ⊢
  refine enterA [(0, qA a), (1, qA b)] Tryz.func25 Tryz.ntmps25 ?_
  by_cases hn : n = 0
  · have c1 : nB n = [] := nB_nil.2 hn
    rw [if_pos hn]
    all_goals (refine go ?_; and_intros <;> (try exact trivial) <;> repeat (first | refine fun (Bk : Nat) => ?_ | intro h))
    repeat' ((first | (apply J.regA (.q 0 <| .q 1 <| .q 2 <| .q 3 <| .q 4 <| .e 5 <| .r 6 <| .nil); exact Tryz.mixed; decide +kernel) | (apply G.eqlStr; rfl; rfl; rfl; rfl; rfl; all_goals intro h; all_goals try (first | exact absurd h (by assumption) | exact absurd (by assumption) h)) | (apply G.cV (g := 61) (vs := [qA a]); rfl; rfl; exact fun w' _ => hoa w') | (apply G.cV (g := 61) (vs := [qA b]); rfl; rfl; exact fun w' _ => hob w') | (apply G.cV (g := 62); rfl; rfl; exact fun w' _ => hle w')) <;> (refine go ?_; and_intros <;> (try exact trivial) <;> repeat (first | refine fun (Bk : Nat) => ?_ | intro h)))
    all_goals refine ret1b Tryz.func25 Tryz.results25 ?_
    all_goals rfl
  · have c1 : nB n ≠ [] := fun e => hn (nB_nil.1 e)
    rw [if_neg hn]
    cases s
    all_goals skip
    all_goals (refine go ?_; and_intros <;> (try exact trivial) <;> repeat (first | refine fun (Bk : Nat) => ?_ | intro h))
    repeat' ((first | (apply J.regA (.q 0 <| .q 1 <| .q 2 <| .q 3 <| .q 4 <| .e 5 <| .r 6 <| .nil); exact Tryz.mixed; decide +kernel) | (apply G.eqlStr; rfl; rfl; rfl; rfl; rfl; all_goals intro h; all_goals try (first | exact absurd h (by assumption) | exact absurd (by assumption) h)) | (apply G.cV (g := 61) (vs := [qA a]); rfl; rfl; exact fun w' _ => hoa w') | (apply G.cV (g := 61) (vs := [qA b]); rfl; rfl; exact fun w' _ => hob w') | (apply G.cV (g := 62); rfl; rfl; exact fun w' _ => hle w')) <;> (refine go ?_; and_intros <;> (try exact trivial) <;> repeat (first | refine fun (Bk : Nat) => ?_ | intro h)))
    all_goals refine ret1b Tryz.func25 Tryz.results25 ?_
    all_goals rfl
def insideB (n : Int) : Bool := decide (-999999999999999 ≤ n) && decide (n ≤ 999999999999999)
theorem inside_holds (n : Int) (w : World) : Calls Tryz.prog 68 #[.int .i64 n] w fun e w' => e = .returned (.bool (insideB n)) ∧ Below w.heap.size w w' := by
  refine enterA [(0, .int .i64 n)] Tryz.func68 Tryz.ntmps68 ?_
  all_goals (refine go ?_; and_intros <;> (try exact trivial) <;> repeat (first | refine fun (Bk : Nat) => ?_ | intro h))
  all_goals refine ret1b Tryz.func68 Tryz.results68 ?_
  all_goals exact ret_bool (by rw [insideB]; first | (rw [decide_eq_true (by omega), decide_eq_true (by omega)]; rfl) | (rw [decide_eq_false (by omega)]; rfl) | (rw [decide_eq_true (by omega), decide_eq_false (by omega)]; rfl))
theorem insideB_true {n : Int} (h1 : -999999999999999 ≤ n) (h2 : n ≤ 999999999999999) : insideB n = true := by rw [insideB, decide_eq_true h1, decide_eq_true h2]; rfl
theorem integer_holds (n : Int) (w : World) (h1 : -999999999999999 ≤ n) (h2 : n ≤ 999999999999999) :
    Calls Tryz.prog 69 #[.int .i64 n] w fun e w' => e = .returned (frA (decide (n < 0), n.natAbs, 1)) ∧ Below w.heap.size w w' := by
  have hm : max n (-n) = ((n.natAbs : Nat) : Int) := by omega
  have hi := fun w' => natInt_holds n.natAbs w' (by omega)
  have hf : frA (decide (n < 0), n.natAbs, 1) = .agg #[.bool (decide (n < 0)), .string (bs (nB n.natAbs)), .string (bs [1])] := by simp only [frA, nB_one]
  rw [hf]
  generalize n.natAbs = m at *
  refine enterA [(0, .int .i64 n)] Tryz.func69 Tryz.ntmps69 ?_
  repeat' (first | (apply G.mxE; rfl; rfl; exact hm; rfl) | (apply G.cV (g := 100); rfl; rfl; exact fun w' _ => hi w') | (apply G.pu; rfl; rfl; first | exact trivial | omega) | (apply J.ct; rfl) | (apply G.nil; rfl) | (apply G.cm; rfl; rfl; all_goals intro h; all_goals try (exfalso; omega)) | (apply G.fa; rfl; rfl) | (apply G.ld; rfl; (first | (apply LdV.one; (first | exact CellV.row0 (by assumption) rfl | exact CellV.rowS (by assumption) rfl | exact CellV.rowSS (by assumption) rfl | (apply CellV.blk; exact mm; rfl))) | (apply LdV.aggBlk; exact mm; rfl) | (apply LdV.part; exact mm; rfl; rfl) | (apply LdV.aggRow; assumption; rfl) | (apply LdV.partRow; assumption; rfl; rfl)); rfl) | (apply G.sk; rfl) | (apply G.ls; rfl; rfl) | (apply G.ix; rfl; rfl; rfl; omega; rfl) | (apply G.ix; rfl; rfl; (first | exact sub_one _ | exact add_one' _); omega; rfl) | (apply G.lt; rfl; rfl) | (apply G.bu; rfl; rfl; rfl) | (apply G.fd; rfl; rfl; rfl) | (apply G.cv; rfl; rfl; rfl; omega) | (apply G.beq; rfl; rfl; rfl) | (apply G.bne; rfl; rfl; rfl) | (apply G.mm; rfl; rfl) | (apply G.mf; rfl; rfl) | (apply G.mx; rfl; rfl; rfl) | (apply G.mn; rfl; rfl; rfl) | (apply G.bx; rfl; rfl; rfl; intro Bk) | (apply G.al; rfl; intro Bk) | (apply G.so; rfl; rfl; (repeat (first | exact RAt.head | apply RAt.tail)); rfl; rfl) | (apply G.ss; rfl; rfl; (repeat (first | exact RAt.head | apply RAt.tail)); rfl; rfl) | (apply J.regQ; exact Tryz.mixed; decide +kernel) | (apply J.regL; exact Tryz.mixed; decide +kernel) | apply J.reg)
  all_goals refine ret1b Tryz.func69 Tryz.results69 ?_
  all_goals (first | (rw [decide_eq_true (by omega)]; rfl) | (rw [decide_eq_false (by omega)]; rfl))
theorem ofF_int (n : Int) : ofF (decide (n < 0)) n.natAbs 1 = (n : Rat) := by
  rw [ofF, sg_self, ← Rat.mkRat_one]
theorem ofF_self {n : Nat} (h : n ≠ 0) : ofF false n n = 1 := by
  have : ofF false n n = ofF false 1 1 := by
    rw [ofF, ofF]
    exact (Rat.mkRat_eq_iff h (by decide)).2 (by simp [sg, Int.mul_comm])
  rw [this]; rfl
theorem ofF_div (m n : Int) (h : n ≠ 0) : ofF (ftimes (decide (m < 0), m.natAbs, 1) (decide (n < 0), 1, n.natAbs)).1 (ftimes (decide (m < 0), m.natAbs, 1) (decide (n < 0), 1, n.natAbs)).2.1 (ftimes (decide (m < 0), m.natAbs, 1) (decide (n < 0), 1, n.natAbs)).2.2 = (m : Rat) / (n : Rat) := by
  have e1 : ofF (ftimes (decide (m < 0), m.natAbs, 1) (decide (n < 0), 1, n.natAbs)).1 (ftimes (decide (m < 0), m.natAbs, 1) (decide (n < 0), 1, n.natAbs)).2.1 (ftimes (decide (m < 0), m.natAbs, 1) (decide (n < 0), 1, n.natAbs)).2.2 = ofF (decide (m < 0)) m.natAbs 1 * ofF (decide (n < 0)) 1 n.natAbs := by rw [ofF_times]; rfl
  have e2 : ofF (decide (n < 0)) 1 n.natAbs * ofF (decide (n < 0)) n.natAbs 1 = 1 := by
    rw [ofF_times, bne_self_eq_false, Nat.one_mul, Nat.mul_one]
    exact ofF_self (by omega)
  rw [e1, ofF_int]
  rw [ofF_int] at e2
  have hn : (n : Rat) ≠ 0 := by exact_mod_cast h
  grind
theorem int_le {n : Int} (h1 : -999999999999999 ≤ n) (h2 : n ≤ 999999999999999) : (nB n.natAbs).length ≤ 8 := nB_bound (by omega)
theorem nB1_le : (nB 1).length ≤ 8 := by rw [nB_one]; decide
theorem int_holds (n : Int) (w : World) (h1 : -999999999999999 ≤ n) (h2 : n ≤ 999999999999999) :
    Calls Tryz.prog 33 #[.int .i64 n] w fun e w' => e = .returned (qA (rQ (n : Rat))) ∧ Below w.heap.size w w' := by
  have i1 := fun w' => integer_holds n w' h1 h2
  have b1 := fun w' => inside_holds n w'
  rw [insideB_true h1 h2] at b1
  have l1 : fLe (decide (n < 0), n.natAbs, 1) 8 := ⟨int_le h1 h2, nB1_le⟩
  have lo := fun w' => lowest_holds (decide (n < 0), n.natAbs, 1) w' ⟨Nat.le_trans l1.1 (by decide), Nat.le_trans l1.2 (by decide)⟩ (show (1 : Nat) ≠ 0 by decide)
  rw [ofF_int n] at lo
  generalize frA (decide (n < 0), n.natAbs, 1) = f1 at *
  refine enterA [(0, .int .i64 n)] Tryz.func33 Tryz.ntmps33 ?_
  all_goals (refine go ?_; and_intros <;> (try exact trivial) <;> repeat (first | refine fun (Bk : Nat) => ?_ | intro h))
  repeat' ((first | (apply G.cV (g := 68) (vs := [.int .i64 n]); rfl; rfl; exact fun w' _ => b1 w') | (apply G.cV (g := 69) (vs := [.int .i64 n]); rfl; rfl; exact fun w' _ => i1 w') | (apply G.cV (g := 70); rfl; rfl; exact fun w' _ => lo w')) <;> (refine go ?_; and_intros <;> (try exact trivial) <;> repeat (first | refine fun (Bk : Nat) => ?_ | intro h)))
  all_goals refine ret1b Tryz.func33 Tryz.results33 ?_
  all_goals rfl
end Go.Proofs.YteaccaieaigeaaaGreatDoor
/-
  Contracts of the specification of rational numbers: Valid, clean, lowest, parts, Neg, Add, Sub, Mul, Cmp.
-/
namespace Go.Proofs.YteaccaieaigeaaaGreatDoor
open Go.RowKit Go.Sl Go.Num
theorem sValid_holds (a : Q3) (w : World) (h1 : a.num.length ≤ 536870000) (h2 : a.den.length ≤ 536870000) :
    Calls Tryz.prog 89 #[qA a] w fun e w' => e = .returned (.bool (decide (validQ a))) ∧ Below w.heap.size w w' := by
  have hvn := fun w' => rValid_holds a.num w' (by omega)
  have hvd := fun w' => rValid_holds a.den w' (by omega)
  have hg := fun w' => rGcd_holds a.num a.den w' h1 h2
  refine enterA [(0, qA a)] Tryz.func89 Tryz.ntmps89 ?_
  by_cases hz : a = zero3
  · subst hz
    have c0 : zero3.num = [] := rfl
    rw [decide_eq_true (show validQ zero3 from .inl rfl)]
    all_goals (refine go ?_; and_intros <;> (try exact trivial) <;> repeat (first | refine fun (Bk : Nat) => ?_ | intro h))
    repeat' ((first | (apply G.eqlStr; rfl; rfl; rfl; rfl; rfl; all_goals intro h; all_goals try (first | exact absurd h (by assumption) | exact absurd (by assumption) h)) | (apply G.eqR zero3 zero3; rfl; rfl; rfl; all_goals intro h; all_goals try (exact absurd rfl h))) <;> (refine go ?_; and_intros <;> (try exact trivial) <;> repeat (first | refine fun (Bk : Nat) => ?_ | intro h)))
    all_goals refine ret1b Tryz.func89 Tryz.results89 ?_
    all_goals rfl
  have key : validQ a ↔ (a.num ≠ [] ∧ a.den ≠ [] ∧ nB (vB a.num) = a.num ∧ nB (vB a.den) = a.den ∧ Nat.gcd (vB a.num) (vB a.den) = 1) := ⟨fun h => h.resolve_left hz, .inr⟩
  generalize hr : decide (validQ a) = r
  obtain ⟨s, n, d⟩ := a
  dsimp only at *
  by_cases c1 : n = []
  · rw [show r = false from hr ▸ decide_eq_false (fun h => (key.1 h).1 c1)]
    all_goals (refine go ?_; and_intros <;> (try exact trivial) <;> repeat (first | refine fun (Bk : Nat) => ?_ | intro h))
    repeat' ((first | (apply G.eqR ⟨s, n, d⟩ zero3; rfl; rfl; rfl; all_goals intro h; all_goals try (exact absurd h hz)) | (apply G.eqlStr; rfl; rfl; rfl; rfl; rfl; all_goals intro h; all_goals try (first | exact absurd h (by assumption) | exact absurd (by assumption) h))) <;> (refine go ?_; and_intros <;> (try exact trivial) <;> repeat (first | refine fun (Bk : Nat) => ?_ | intro h)))
    all_goals refine ret1b Tryz.func89 Tryz.results89 ?_
    all_goals rfl
  by_cases c2 : d = []
  · rw [show r = false from hr ▸ decide_eq_false (fun h => (key.1 h).2.1 c2)]
    all_goals (refine go ?_; and_intros <;> (try exact trivial) <;> repeat (first | refine fun (Bk : Nat) => ?_ | intro h))
    repeat' ((first | (apply G.eqR ⟨s, n, d⟩ zero3; rfl; rfl; rfl; all_goals intro h; all_goals try (exact absurd h hz)) | (apply G.eqlStr; rfl; rfl; rfl; rfl; rfl; all_goals intro h; all_goals try (first | exact absurd h (by assumption) | exact absurd (by assumption) h))) <;> (refine go ?_; and_intros <;> (try exact trivial) <;> repeat (first | refine fun (Bk : Nat) => ?_ | intro h)))
    all_goals refine ret1b Tryz.func89 Tryz.results89 ?_
    all_goals rfl
  by_cases c3 : nB (vB n) = n
  · rw [decide_eq_true c3] at hvn
    by_cases c4 : nB (vB d) = d
    · rw [decide_eq_true c4] at hvd
      by_cases c5 : Nat.gcd (vB n) (vB d) = 1
      · have c6 : nB (Nat.gcd (vB n) (vB d)) = [1] := nB_eq_one.2 c5
        rw [show r = true from hr ▸ decide_eq_true (key.2 ⟨c1, c2, c3, c4, c5⟩)]
        all_goals (refine go ?_; and_intros <;> (try exact trivial) <;> repeat (first | refine fun (Bk : Nat) => ?_ | intro h))
        repeat' ((first | (apply G.eqlStr; rfl; rfl; rfl; rfl; rfl; all_goals intro h; all_goals try (first | exact absurd h (by assumption) | exact absurd (by assumption) h)) | (apply G.cV (g := 119) (vs := [.string (bs n)]); rfl; rfl; exact fun w' _ => hvn w') | (apply G.cV (g := 119) (vs := [.string (bs d)]); rfl; rfl; exact fun w' _ => hvd w') | (apply G.cV (g := 120); rfl; rfl; exact fun w' _ => hg w')) <;> (refine go ?_; and_intros <;> (try exact trivial) <;> repeat (first | refine fun (Bk : Nat) => ?_ | intro h)))
        all_goals refine ret1b Tryz.func89 Tryz.results89 ?_
        all_goals rfl
      · have c6 : nB (Nat.gcd (vB n) (vB d)) ≠ [1] := fun e => c5 (nB_eq_one.1 e)
        rw [show r = false from hr ▸ decide_eq_false (fun h => c5 (key.1 h).2.2.2.2)]
        all_goals (refine go ?_; and_intros <;> (try exact trivial) <;> repeat (first | refine fun (Bk : Nat) => ?_ | intro h))
        repeat' ((first | (apply G.eqlStr; rfl; rfl; rfl; rfl; rfl; all_goals intro h; all_goals try (first | exact absurd h (by assumption) | exact absurd (by assumption) h)) | (apply G.cV (g := 119) (vs := [.string (bs n)]); rfl; rfl; exact fun w' _ => hvn w') | (apply G.cV (g := 119) (vs := [.string (bs d)]); rfl; rfl; exact fun w' _ => hvd w') | (apply G.cV (g := 120); rfl; rfl; exact fun w' _ => hg w')) <;> (refine go ?_; and_intros <;> (try exact trivial) <;> repeat (first | refine fun (Bk : Nat) => ?_ | intro h)))
        all_goals refine ret1b Tryz.func89 Tryz.results89 ?_
        all_goals rfl
    · rw [decide_eq_false c4] at hvd
      rw [show r = false from hr ▸ decide_eq_false (fun h => c4 (key.1 h).2.2.2.1)]
      all_goals (refine go ?_; and_intros <;> (try exact trivial) <;> repeat (first | refine fun (Bk : Nat) => ?_ | intro h))
      repeat' ((first | (apply G.eqlStr; rfl; rfl; rfl; rfl; rfl; all_goals intro h; all_goals try (first | exact absurd h (by assumption) | exact absurd (by assumption) h)) | (apply G.cV (g := 119) (vs := [.string (bs n)]); rfl; rfl; exact fun w' _ => hvn w') | (apply G.cV (g := 119) (vs := [.string (bs d)]); rfl; rfl; exact fun w' _ => hvd w')) <;> (refine go ?_; and_intros <;> (try exact trivial) <;> repeat (first | refine fun (Bk : Nat) => ?_ | intro h)))
      all_goals refine ret1b Tryz.func89 Tryz.results89 ?_
      all_goals rfl
  · rw [decide_eq_false c3] at hvn
    rw [show r = false from hr ▸ decide_eq_false (fun h => c3 (key.1 h).2.2.1)]
    by_cases c4 : nB (vB d) = d
    · rw [decide_eq_true c4] at hvd
      all_goals (refine go ?_; and_intros <;> (try exact trivial) <;> repeat (first | refine fun (Bk : Nat) => ?_ | intro h))
      repeat' ((first | (apply G.eqlStr; rfl; rfl; rfl; rfl; rfl; all_goals intro h; all_goals try (first | exact absurd h (by assumption) | exact absurd (by assumption) h)) | (apply G.cV (g := 119) (vs := [.string (bs n)]); rfl; rfl; exact fun w' _ => hvn w') | (apply G.cV (g := 119) (vs := [.string (bs d)]); rfl; rfl; exact fun w' _ => hvd w')) <;> (refine go ?_; and_intros <;> (try exact trivial) <;> repeat (first | refine fun (Bk : Nat) => ?_ | intro h)))
      all_goals refine ret1b Tryz.func89 Tryz.results89 ?_
      all_goals rfl
    · rw [decide_eq_false c4] at hvd
      all_goals (refine go ?_; and_intros <;> (try exact trivial) <;> repeat (first | refine fun (Bk : Nat) => ?_ | intro h))
      repeat' ((first | (apply G.eqlStr; rfl; rfl; rfl; rfl; rfl; all_goals intro h; all_goals try (first | exact absurd h (by assumption) | exact absurd (by assumption) h)) | (apply G.cV (g := 119) (vs := [.string (bs n)]); rfl; rfl; exact fun w' _ => hvn w') | (apply G.cV (g := 119) (vs := [.string (bs d)]); rfl; rfl; exact fun w' _ => hvd w')) <;> (refine go ?_; and_intros <;> (try exact trivial) <;> repeat (first | refine fun (Bk : Nat) => ?_ | intro h)))
      all_goals refine ret1b Tryz.func89 Tryz.results89 ?_
      all_goals rfl
theorem clean_q (a : Q3) : rQ (qR a) = if validQ a then a else zero3 := by
  by_cases h : validQ a
  · rw [if_pos h, rQ_qR h]
  · rw [if_neg h, qR, if_neg h]; rfl
theorem sClean_holds (a : Q3) (w : World) (h1 : a.num.length ≤ 536870000) (h2 : a.den.length ≤ 536870000) :
    Calls Tryz.prog 102 #[qA a] w fun e w' => e = .returned (qA (rQ (qR a))) ∧ Below w.heap.size w w' := by
  have hv := fun w' => sValid_holds a w' h1 h2
  rw [clean_q]
  refine enterA [(0, qA a)] Tryz.func102 Tryz.ntmps102 ?_
  by_cases h : validQ a
  · rw [if_pos h]
    rw [decide_eq_true h] at hv
    all_goals (refine go ?_; and_intros <;> (try exact trivial) <;> repeat (first | refine fun (Bk : Nat) => ?_ | intro h))
    repeat' ((first | (apply G.cV (g := 89); rfl; rfl; exact fun w' _ => hv w')) <;> (refine go ?_; and_intros <;> (try exact trivial) <;> repeat (first | refine fun (Bk : Nat) => ?_ | intro h)))
    all_goals refine ret1b Tryz.func102 Tryz.results102 ?_
    all_goals rfl
  · rw [if_neg h]
    rw [decide_eq_false h] at hv
    all_goals (refine go ?_; and_intros <;> (try exact trivial) <;> repeat (first | refine fun (Bk : Nat) => ?_ | intro h))
    repeat' ((first | (apply G.cV (g := 89); rfl; rfl; exact fun w' _ => hv w')) <;> (refine go ?_; and_intros <;> (try exact trivial) <;> repeat (first | refine fun (Bk : Nat) => ?_ | intro h)))
    all_goals refine ret1b Tryz.func102 Tryz.results102 ?_
    all_goals rfl
/-- A number that is clean, as a fraction. -/
theorem clean_frac (a : Q3) : (rQ (qR a)).neg = (frac a).1 ∧ (if (rQ (qR a)).num = [] then ([], [1]) else ((rQ (qR a)).num, (rQ (qR a)).den)) = (nB (frac a).2.1, nB (frac a).2.2) := by
  rw [clean_q, frac]
  by_cases h : validQ a
  · rw [if_pos h]
    by_cases h2 : a.num = []
    · rw [if_neg (fun h3 => h3.2 h2), if_pos h2]
      rcases h with rfl | h
      · exact ⟨rfl, by rw [nB_zero, nB_one]⟩
      · exact absurd h2 h.1
    · rw [if_pos ⟨h, h2⟩, if_neg h2]
      rcases h with rfl | ⟨_, _, e1, e2, _⟩
      · exact absurd rfl h2
      · exact ⟨rfl, by rw [e1, e2]⟩
  · rw [if_neg h, if_neg (fun h3 => h h3.1)]
    exact ⟨rfl, by rw [nB_zero, nB_one]; rfl⟩
theorem sParts_holds (a : Q3) (w : World) : Calls Tryz.prog 103 #[qA a] w fun e w' => e = .returned (.tuple #[.string (bs (if a.num = [] then ([], [1]) else (a.num, a.den)).1), .string (bs (if a.num = [] then ([], [1]) else (a.num, a.den)).2)]) ∧ Below w.heap.size w w' := by
  refine enterA [(0, qA a)] Tryz.func103 Tryz.ntmps103 ?_
  by_cases h : a.num = []
  · rw [if_pos h]
    all_goals (refine go ?_; and_intros <;> (try exact trivial) <;> repeat (first | refine fun (Bk : Nat) => ?_ | intro h))
    repeat' ((first | (apply G.eqlStr; rfl; rfl; rfl; rfl; rfl; all_goals intro h; all_goals try (first | exact absurd h (by assumption) | exact absurd (by assumption) h))) <;> (refine go ?_; and_intros <;> (try exact trivial) <;> repeat (first | refine fun (Bk : Nat) => ?_ | intro h)))
    all_goals refine ret2b Tryz.func103 Tryz.results103 ?_
    all_goals rfl
  · rw [if_neg h]
    all_goals (refine go ?_; and_intros <;> (try exact trivial) <;> repeat (first | refine fun (Bk : Nat) => ?_ | intro h))
    repeat' ((first | (apply G.eqlStr; rfl; rfl; rfl; rfl; rfl; all_goals intro h; all_goals try (first | exact absurd h (by assumption) | exact absurd (by assumption) h))) <;> (refine go ?_; and_intros <;> (try exact trivial) <;> repeat (first | refine fun (Bk : Nat) => ?_ | intro h)))
    all_goals refine ret2b Tryz.func103 Tryz.results103 ?_
    all_goals rfl
theorem sLowest_holds (s : Bool) (n d : Nat) (w : World) (h1 : (nB n).length ≤ 536870000) (h2 : (nB d).length ≤ 536870000) (hd : d ≠ 0) :
    Calls Tryz.prog 105 #[.bool s, .string (bs (nB n)), .string (bs (nB d))] w fun e w' => e = .returned (qA (rQ (ofF s n d))) ∧ Below w.heap.size w w' := by
  have hc := fun w' => rClean_holds (nB n) w' (by omega)
  have hg := fun w' => rGcd_holds (nB n) (nB d) w' h1 h2
  have hg0 : Nat.gcd n d ≠ 0 := fun e => hd (Nat.eq_zero_of_gcd_eq_zero_right e)
  have hgl : (nB (Nat.gcd n d)).length ≤ 536870000 := Nat.le_trans (nB_len_le (Nat.gcd_le_right _ (by omega))) h2
  have hn := fun w' => rDivMod_holds (nB n) (nB (Nat.gcd n d)) w' h1 hgl (by rw [vB_nB]; exact hg0)
  have hdd := fun w' => rDivMod_holds (nB d) (nB (Nat.gcd n d)) w' h2 hgl (by rw [vB_nB]; exact hg0)
  simp only [vB_nB] at hc hg hn hdd
  rw [rQ_ofF hd]
  refine enterA [(0, .bool s), (1, .string (bs (nB n))), (2, .string (bs (nB d)))] Tryz.func105 Tryz.ntmps105 ?_
  by_cases c1 : n = 0
  · subst c1
    rw [if_pos rfl]
    have c2 : nB 0 = [] := nB_zero
    all_goals (refine go ?_; and_intros <;> (try exact trivial) <;> repeat (first | refine fun (Bk : Nat) => ?_ | intro h))
    repeat' ((first | (apply G.eqlStr; rfl; rfl; rfl; rfl; rfl; all_goals intro h; all_goals try (first | exact absurd h (by assumption) | exact absurd (by assumption) h)) | (apply G.cV (g := 134); rfl; rfl; exact fun w' _ => hc w')) <;> (refine go ?_; and_intros <;> (try exact trivial) <;> repeat (first | refine fun (Bk : Nat) => ?_ | intro h)))
    all_goals refine ret1b Tryz.func105 Tryz.results105 ?_
    all_goals rfl
  · rw [if_neg c1]
    have c2 : nB n ≠ [] := fun e => c1 (nB_nil.1 e)
    all_goals (refine go ?_; and_intros <;> (try exact trivial) <;> repeat (first | refine fun (Bk : Nat) => ?_ | intro h))
    repeat' ((first | (apply G.eqlStr; rfl; rfl; rfl; rfl; rfl; all_goals intro h; all_goals try (first | exact absurd h (by assumption) | exact absurd (by assumption) h)) | (apply G.cV (g := 134); rfl; rfl; exact fun w' _ => hc w') | (apply G.cV (g := 120); rfl; rfl; exact fun w' _ => hg w') | (apply G.cV (g := 135) (vs := [.string (bs (nB n)), .string (bs (nB (Nat.gcd n d)))]); rfl; rfl; exact fun w' _ => hn w') | (apply G.cV (g := 135) (vs := [.string (bs (nB d)), .string (bs (nB (Nat.gcd n d)))]); rfl; rfl; exact fun w' _ => hdd w')) <;> (refine go ?_; and_intros <;> (try exact trivial) <;> repeat (first | refine fun (Bk : Nat) => ?_ | intro h)))
    all_goals refine ret1b Tryz.func105 Tryz.results105 ?_
    all_goals rfl
end Go.Proofs.YteaccaieaigeaaaGreatDoor
/-
  Contracts of the specification of rational numbers: Neg, Add, Sub, Mul, Cmp, Make, Int.
-/
namespace Go.Proofs.YteaccaieaigeaaaGreatDoor
open Go.RowKit Go.Sl Go.Num
theorem rQ_neg (q : Rat) : rQ (-q) = if (rQ q).num = [] then rQ q else ⟨!(rQ q).neg, (rQ q).num, (rQ q).den⟩ := by
  by_cases h : q.num = 0
  · have hq : q = 0 := Rat.num_eq_zero.1 h
    subst hq
    rfl
  · have h1 : (rQ q).num ≠ [] := by
      rw [rQ, if_neg h]
      exact fun e => h (Int.natAbs_eq_zero.1 (nB_nil.1 e))
    rw [if_neg h1, rQ, rQ, if_neg h, if_neg (by rw [Rat.neg_num]; omega)]
    simp only [Rat.neg_num, Rat.neg_den, Int.natAbs_neg]
    congr 1
    by_cases h2 : q.num < 0
    · rw [decide_eq_true h2, decide_eq_false (by omega)]; rfl
    · rw [decide_eq_false h2, decide_eq_true (by omega)]; rfl
theorem sgn_rQ (q : Rat) : sgnR q = if (rQ q).num = [] then 0 else if (rQ q).neg = true then -1 else 1 := by
  rw [sgnR]
  by_cases h : q.num = 0
  · have hq : q = 0 := Rat.num_eq_zero.1 h
    subst hq
    rfl
  · have h1 : (rQ q).num ≠ [] := by
      rw [rQ, if_neg h]
      exact fun e => h (Int.natAbs_eq_zero.1 (nB_nil.1 e))
    have h3 : q ≠ 0 := fun e => h (by rw [e]; rfl)
    rw [if_neg h3, if_neg h1, rQ, if_neg h]
    have h4 : q < 0 ↔ q.num < 0 := by rw [← Rat.not_le, ← Rat.num_nonneg, Int.not_le]
    by_cases h2 : q.num < 0
    · rw [if_pos (h4.2 h2), if_pos (decide_eq_true h2)]
    · rw [if_neg (fun e => h2 (h4.1 e)), if_neg (fun e => h2 (of_decide_eq_true e))]
theorem sNeg_holds (a : Q3) (w : World) (h1 : a.num.length ≤ 536870000) (h2 : a.den.length ≤ 536870000) :
    Calls Tryz.prog 121 #[qA a] w fun e w' => e = .returned (qA (rQ (-qR a))) ∧ Below w.heap.size w w' := by
  have hc := fun w' => sClean_holds a w' h1 h2
  rw [rQ_neg]
  generalize rQ (qR a) = c at *
  obtain ⟨s, n, d⟩ := c
  dsimp only
  refine enterA [(0, qA a)] Tryz.func121 Tryz.ntmps121 ?_
  by_cases h : n = []
  · rw [if_pos h]
    all_goals (refine go ?_; and_intros <;> (try exact trivial) <;> repeat (first | refine fun (Bk : Nat) => ?_ | intro h))
    repeat' ((first | (apply G.neqStr; rfl; rfl; rfl; rfl; rfl; all_goals intro h; all_goals try (first | exact absurd h (by assumption) | exact absurd (by assumption) h)) | (apply G.cV (g := 102); rfl; rfl; exact fun w' _ => hc w')) <;> (refine go ?_; and_intros <;> (try exact trivial) <;> repeat (first | refine fun (Bk : Nat) => ?_ | intro h)))
    all_goals refine ret1b Tryz.func121 Tryz.results121 ?_
    all_goals rfl
  · rw [if_neg h]
    cases s
    all_goals skip
    all_goals (refine go ?_; and_intros <;> (try exact trivial) <;> repeat (first | refine fun (Bk : Nat) => ?_ | intro h))
    repeat' ((first | (apply G.neqStr; rfl; rfl; rfl; rfl; rfl; all_goals intro h; all_goals try (first | exact absurd h (by assumption) | exact absurd (by assumption) h)) | (apply G.cV (g := 102); rfl; rfl; exact fun w' _ => hc w')) <;> (refine go ?_; and_intros <;> (try exact trivial) <;> repeat (first | refine fun (Bk : Nat) => ?_ | intro h)))
    all_goals refine ret1b Tryz.func121 Tryz.results121 ?_
    all_goals rfl
theorem sAdd_holds (a b : Q3) (w : World) (h1 : a.num.length ≤ 134217000) (h2 : a.den.length ≤ 134217000) (h3 : b.num.length ≤ 134217000) (h4 : b.den.length ≤ 134217000) :
    Calls Tryz.prog 73 #[qA a, qA b] w fun e w' => e = .returned (qA (rQ (qR a + qR b))) ∧ Below w.heap.size w w' := by
  obtain ⟨l1, l2⟩ := frac_le h1 h2 (by decide)
  obtain ⟨l3, l4⟩ := frac_le h3 h4 (by decide)
  obtain ⟨e1, d1⟩ := frac_eq a
  obtain ⟨e2, d2⟩ := frac_eq b
  obtain ⟨e3, d3⟩ := fplus_eq (s := (frac a).1) (t := (frac b).1) (n := (frac a).2.1) (m := (frac b).2.1) d1 d2
  rw [e1, e2] at e3
  rw [← e3, fplus]
  clear e1 e2 e3 d3
  have ca := fun w' => sClean_holds a w' (by omega) (by omega)
  have cb := fun w' => sClean_holds b w' (by omega) (by omega)
  have pa := fun w' => sParts_holds (rQ (qR a)) w'
  have pb := fun w' => sParts_holds (rQ (qR b)) w'
  obtain ⟨na, fa⟩ := clean_frac a
  obtain ⟨nb, fb⟩ := clean_frac b
  rw [fa] at pa
  rw [fb] at pb
  clear fa fb
  generalize rQ (qR a) = x at *
  generalize rQ (qR b) = y at *
  generalize frac a = f at *
  generalize frac b = g at *
  obtain ⟨s, n, d⟩ := f
  obtain ⟨t, m, e⟩ := g
  obtain ⟨xs, xn, xd⟩ := x
  obtain ⟨ys, yn, yd⟩ := y
  dsimp only at *
  subst na nb
  have m1 := fun w' => rMul_holds (nB n) (nB e) w' (by omega) (by omega)
  have m2 := fun w' => rMul_holds (nB m) (nB d) w' (by omega) (by omega)
  have m3 := fun w' => rMul_holds (nB d) (nB e) w' (by omega) (by omega)
  have k1 := nB_mul l1 l4
  have k2 := nB_mul l3 l2
  have k3 := nB_mul l2 l4
  have k4 := nB_add k1 k2
  have ad := fun w' => rAdd_holds (nB (n * e)) (nB (m * d)) w' (by omega) (by omega)
  have cm := fun w' => rCmp_holds (nB (n * e)) (nB (m * d)) w' (by omega) (by omega)
  have s1 := fun (h : n * e ≤ m * d) w' => rSub_holds (nB (m * d)) (nB (n * e)) w' (by omega) (by omega) (by rw [vB_nB, vB_nB]; exact h)
  have s2 := fun (h : m * d ≤ n * e) w' => rSub_holds (nB (n * e)) (nB (m * d)) w' (by omega) (by omega) (by rw [vB_nB, vB_nB]; exact h)
  simp only [vB_nB] at m1 m2 m3 ad cm s1 s2
  have hde : d * e ≠ 0 := Nat.mul_ne_zero d1 d2
  have lo := fun (z : Bool) (v : Nat) (hv : (nB v).length ≤ 536870000) w' => sLowest_holds z v (d * e) w' hv (by omega) hde
  by_cases hst : xs = ys
  · subst hst
    rw [if_pos rfl]
    have lo := fun w' => lo xs (n * e + m * d) (by omega) w'
    clear cm s1 s2
    refine enterA [(0, qA a), (1, qA b)] Tryz.func73 Tryz.ntmps73 ?_
    cases xs
    all_goals skip
    all_goals (refine go ?_; and_intros <;> (try exact trivial) <;> repeat (first | refine fun (Bk : Nat) => ?_ | intro h))
    repeat' ((first | (apply G.cV (g := 102) (vs := [qA a]); rfl; rfl; exact fun w' _ => ca w') | (apply G.cV (g := 102) (vs := [qA b]); rfl; rfl; exact fun w' _ => cb w') | (apply G.cV (g := 103) (vs := [.agg #[.bool _, .string (bs xn), .string (bs xd)]]); rfl; rfl; exact fun w' _ => pa w') | (apply G.cV (g := 103) (vs := [.agg #[.bool _, .string (bs yn), .string (bs yd)]]); rfl; rfl; exact fun w' _ => pb w') | (apply G.cV (g := 104) (vs := [.string (bs (nB n)), .string (bs (nB e))]); rfl; rfl; exact fun w' _ => m1 w') | (apply G.cV (g := 104) (vs := [.string (bs (nB m)), .string (bs (nB d))]); rfl; rfl; exact fun w' _ => m2 w') | (apply G.cV (g := 104) (vs := [.string (bs (nB d)), .string (bs (nB e))]); rfl; rfl; exact fun w' _ => m3 w') | (apply G.cV (g := 106); rfl; rfl; exact fun w' _ => ad w') | (apply G.cV (g := 105); rfl; rfl; exact fun w' _ => lo w')) <;> (refine go ?_; and_intros <;> (try exact trivial) <;> repeat (first | refine fun (Bk : Nat) => ?_ | intro h)))
    all_goals refine ret1b Tryz.func73 Tryz.results73 ?_
    all_goals rfl
  rw [if_neg hst]
  have ht : ys = !xs := by cases xs <;> cases ys <;> simp_all
  subst ht
  by_cases hlt : n * e < m * d
  · rw [if_pos hlt]
    have s1 := s1 (by omega)
    have lo := fun w' => lo (!xs) (m * d - n * e) (Nat.le_trans (nB_len_le (Nat.sub_le _ _)) (by omega)) w'
    rw [cmpI_lt (by omega)] at cm
    clear s2 hst
    refine enterA [(0, qA a), (1, qA b)] Tryz.func73 Tryz.ntmps73 ?_
    cases xs
    all_goals skip
    all_goals (refine go ?_; and_intros <;> (try exact trivial) <;> repeat (first | refine fun (Bk : Nat) => ?_ | intro h))
    repeat' ((first | (apply G.cV (g := 102) (vs := [qA a]); rfl; rfl; exact fun w' _ => ca w') | (apply G.cV (g := 102) (vs := [qA b]); rfl; rfl; exact fun w' _ => cb w') | (apply G.cV (g := 103) (vs := [.agg #[.bool _, .string (bs xn), .string (bs xd)]]); rfl; rfl; exact fun w' _ => pa w') | (apply G.cV (g := 103) (vs := [.agg #[.bool _, .string (bs yn), .string (bs yd)]]); rfl; rfl; exact fun w' _ => pb w') | (apply G.cV (g := 104) (vs := [.string (bs (nB n)), .string (bs (nB e))]); rfl; rfl; exact fun w' _ => m1 w') | (apply G.cV (g := 104) (vs := [.string (bs (nB m)), .string (bs (nB d))]); rfl; rfl; exact fun w' _ => m2 w') | (apply G.cV (g := 104) (vs := [.string (bs (nB d)), .string (bs (nB e))]); rfl; rfl; exact fun w' _ => m3 w') | (apply G.cV (g := 107); rfl; rfl; exact fun w' _ => cm w') | (apply G.cV (g := 108); rfl; rfl; exact fun w' _ => s1 w') | (apply G.cV (g := 105); rfl; rfl; exact fun w' _ => lo w')) <;> (refine go ?_; and_intros <;> (try exact trivial) <;> repeat (first | refine fun (Bk : Nat) => ?_ | intro h)))
    all_goals refine ret1b Tryz.func73 Tryz.results73 ?_
    all_goals rfl
  · rw [if_neg hlt]
    have s2 := s2 (by omega)
    have lo := fun w' => lo xs (n * e - m * d) (Nat.le_trans (nB_len_le (Nat.sub_le _ _)) (by omega)) w'
    have hc0 : 0 ≤ cmpI ((n * e : Nat) : Int) ((m * d : Nat) : Int) := by
      rcases Nat.lt_or_ge (m * d) (n * e) with h | h
      · rw [cmpI_gt (by omega)]; decide
      · rw [show n * e = m * d by omega, cmpI_eq]; decide
    generalize cmpI ((n * e : Nat) : Int) ((m * d : Nat) : Int) = cc at *
    clear s1 hst
    refine enterA [(0, qA a), (1, qA b)] Tryz.func73 Tryz.ntmps73 ?_
    cases xs
    all_goals skip
    all_goals (refine go ?_; and_intros <;> (try exact trivial) <;> repeat (first | refine fun (Bk : Nat) => ?_ | intro h))
    repeat' ((first | (apply G.cV (g := 102) (vs := [qA a]); rfl; rfl; exact fun w' _ => ca w') | (apply G.cV (g := 102) (vs := [qA b]); rfl; rfl; exact fun w' _ => cb w') | (apply G.cV (g := 103) (vs := [.agg #[.bool _, .string (bs xn), .string (bs xd)]]); rfl; rfl; exact fun w' _ => pa w') | (apply G.cV (g := 103) (vs := [.agg #[.bool _, .string (bs yn), .string (bs yd)]]); rfl; rfl; exact fun w' _ => pb w') | (apply G.cV (g := 104) (vs := [.string (bs (nB n)), .string (bs (nB e))]); rfl; rfl; exact fun w' _ => m1 w') | (apply G.cV (g := 104) (vs := [.string (bs (nB m)), .string (bs (nB d))]); rfl; rfl; exact fun w' _ => m2 w') | (apply G.cV (g := 104) (vs := [.string (bs (nB d)), .string (bs (nB e))]); rfl; rfl; exact fun w' _ => m3 w') | (apply G.cV (g := 107); rfl; rfl; exact fun w' _ => cm w') | (apply G.cV (g := 108); rfl; rfl; exact fun w' _ => s2 w') | (apply G.cV (g := 105); rfl; rfl; exact fun w' _ => lo w')) <;> (refine go ?_; and_intros <;> (try exact trivial) <;> repeat (first | refine fun (Bk : Nat) => ?_ | intro h)))
    all_goals refine ret1b Tryz.func73 Tryz.results73 ?_
    all_goals rfl
theorem sSub_holds (a b : Q3) (w : World) (h1 : a.num.length ≤ 134217000) (h2 : a.den.length ≤ 134217000) (h3 : b.num.length ≤ 134217000) (h4 : b.den.length ≤ 134217000) (h5 : (rQ (qR b)).num.length ≤ 134217000) (h6 : (rQ (qR b)).den.length ≤ 134217000) :
    Calls Tryz.prog 90 #[qA a, qA b] w fun e w' => e = .returned (qA (rQ (qR a - qR b))) ∧ Below w.heap.size w w' := by
  have hn := fun w' => sNeg_holds b w' (by omega) (by omega)
  have ha := fun w' => sAdd_holds a (rQ (-qR b)) w' h1 h2 (by rw [rQ_neg]; split <;> exact h5) (by rw [rQ_neg]; split <;> exact h6)
  rw [qR_rQ, ← Rat.sub_eq_add_neg] at ha
  refine enterA [(0, qA a), (1, qA b)] Tryz.func90 Tryz.ntmps90 ?_
  all_goals (refine go ?_; and_intros <;> (try exact trivial) <;> repeat (first | refine fun (Bk : Nat) => ?_ | intro h))
  repeat' ((first | (apply G.cV (g := 121); rfl; rfl; exact fun w' _ => hn w') | (apply G.cV (g := 73); rfl; rfl; exact fun w' _ => ha w')) <;> (refine go ?_; and_intros <;> (try exact trivial) <;> repeat (first | refine fun (Bk : Nat) => ?_ | intro h)))
  all_goals refine ret1b Tryz.func90 Tryz.results90 ?_
  all_goals rfl
theorem sMul_holds (a b : Q3) (w : World) (h1 : a.num.length ≤ 134217000) (h2 : a.den.length ≤ 134217000) (h3 : b.num.length ≤ 134217000) (h4 : b.den.length ≤ 134217000) :
    Calls Tryz.prog 114 #[qA a, qA b] w fun e w' => e = .returned (qA (rQ (qR a * qR b))) ∧ Below w.heap.size w w' := by
  obtain ⟨l1, l2⟩ := frac_le h1 h2 (by decide)
  obtain ⟨l3, l4⟩ := frac_le h3 h4 (by decide)
  obtain ⟨e1, d1⟩ := frac_eq a
  obtain ⟨e2, d2⟩ := frac_eq b
  have e3 : ofF (ftimes (frac a) (frac b)).1 (ftimes (frac a) (frac b)).2.1 (ftimes (frac a) (frac b)).2.2 = qR a * qR b := by
    rw [← e1, ← e2, ofF_times]; rfl
  rw [← e3, ftimes]
  clear e1 e2 e3
  have ca := fun w' => sClean_holds a w' (by omega) (by omega)
  have cb := fun w' => sClean_holds b w' (by omega) (by omega)
  have pa := fun w' => sParts_holds (rQ (qR a)) w'
  have pb := fun w' => sParts_holds (rQ (qR b)) w'
  obtain ⟨na, fa⟩ := clean_frac a
  obtain ⟨nb, fb⟩ := clean_frac b
  rw [fa] at pa
  rw [fb] at pb
  clear fa fb
  generalize rQ (qR a) = x at *
  generalize rQ (qR b) = y at *
  generalize frac a = f at *
  generalize frac b = g at *
  obtain ⟨s, n, d⟩ := f
  obtain ⟨t, m, e⟩ := g
  obtain ⟨xs, xn, xd⟩ := x
  obtain ⟨ys, yn, yd⟩ := y
  dsimp only at *
  subst na nb
  have m1 := fun w' => rMul_holds (nB n) (nB m) w' (by omega) (by omega)
  have m2 := fun w' => rMul_holds (nB d) (nB e) w' (by omega) (by omega)
  have k1 := nB_mul l1 l3
  simp only [vB_nB] at m1 m2
  have hde : d * e ≠ 0 := Nat.mul_ne_zero d1 d2
  have lo := fun (z : Bool) w' => sLowest_holds z (n * m) (d * e) w' (by omega) (by have := nB_mul l2 l4; omega) hde
  refine enterA [(0, qA a), (1, qA b)] Tryz.func114 Tryz.ntmps114 ?_
  all_goals (refine go ?_; and_intros <;> (try exact trivial) <;> repeat (first | refine fun (Bk : Nat) => ?_ | intro h))
  repeat' ((first | (apply G.cV (g := 102) (vs := [qA a]); rfl; rfl; exact fun w' _ => ca w') | (apply G.cV (g := 102) (vs := [qA b]); rfl; rfl; exact fun w' _ => cb w') | (apply G.cV (g := 103) (vs := [.agg #[.bool _, .string (bs xn), .string (bs xd)]]); rfl; rfl; exact fun w' _ => pa w') | (apply G.cV (g := 103) (vs := [.agg #[.bool _, .string (bs yn), .string (bs yd)]]); rfl; rfl; exact fun w' _ => pb w') | (apply G.cV (g := 104) (vs := [.string (bs (nB n)), .string (bs (nB m))]); rfl; rfl; exact fun w' _ => m1 w') | (apply G.cV (g := 104) (vs := [.string (bs (nB d)), .string (bs (nB e))]); rfl; rfl; exact fun w' _ => m2 w') | (apply G.cV (g := 105); rfl; rfl; exact fun w' _ => lo _ w')) <;> (refine go ?_; and_intros <;> (try exact trivial) <;> repeat (first | refine fun (Bk : Nat) => ?_ | intro h)))
  all_goals refine ret1b Tryz.func114 Tryz.results114 ?_
  all_goals rfl
theorem sCmp_holds (a b : Q3) (w : World) (h1 : a.num.length ≤ 134217000) (h2 : a.den.length ≤ 134217000) (h3 : b.num.length ≤ 134217000) (h4 : b.den.length ≤ 134217000) (h5 : (rQ (qR b)).num.length ≤ 134217000) (h6 : (rQ (qR b)).den.length ≤ 134217000) :
    Calls Tryz.prog 57 #[qA a, qA b] w fun e w' => e = .returned (.int .i64 (sgnR (qR a - qR b))) ∧ Below w.heap.size w w' := by
  have hs := fun w' => sSub_holds a b w' h1 h2 h3 h4 h5 h6
  rw [sgn_rQ]
  generalize rQ (qR a - qR b) = r at *
  obtain ⟨s, n, d⟩ := r
  dsimp only
  by_cases h : n = []
  · rw [if_pos h]
    refine enterA [(0, qA a), (1, qA b)] Tryz.func57 Tryz.ntmps57 ?_
    all_goals (refine go ?_; and_intros <;> (try exact trivial) <;> repeat (first | refine fun (Bk : Nat) => ?_ | intro h))
    repeat' ((first | (apply G.eqlStr; rfl; rfl; rfl; rfl; rfl; all_goals intro h; all_goals try (first | exact absurd h (by assumption) | exact absurd (by assumption) h)) | (apply G.cV (g := 90); rfl; rfl; exact fun w' _ => hs w')) <;> (refine go ?_; and_intros <;> (try exact trivial) <;> repeat (first | refine fun (Bk : Nat) => ?_ | intro h)))
    all_goals refine ret1b Tryz.func57 Tryz.results57 ?_
    all_goals rfl
  · rw [if_neg h]
    refine enterA [(0, qA a), (1, qA b)] Tryz.func57 Tryz.ntmps57 ?_
    cases s
    all_goals skip
    all_goals (refine go ?_; and_intros <;> (try exact trivial) <;> repeat (first | refine fun (Bk : Nat) => ?_ | intro h))
    repeat' ((first | (apply G.eqlStr; rfl; rfl; rfl; rfl; rfl; all_goals intro h; all_goals try (first | exact absurd h (by assumption) | exact absurd (by assumption) h)) | (apply G.cV (g := 90); rfl; rfl; exact fun w' _ => hs w')) <;> (refine go ?_; and_intros <;> (try exact trivial) <;> repeat (first | refine fun (Bk : Nat) => ?_ | intro h)))
    all_goals refine ret1b Tryz.func57 Tryz.results57 ?_
    all_goals rfl
theorem sInside_holds (n : Int) (w : World) : Calls Tryz.prog 147 #[.int .i64 n] w fun e w' => e = .returned (.bool (insideB n)) ∧ Below w.heap.size w w' := by
  refine enterA [(0, .int .i64 n)] Tryz.func147 Tryz.ntmps147 ?_
  all_goals (refine go ?_; and_intros <;> (try exact trivial) <;> repeat (first | refine fun (Bk : Nat) => ?_ | intro h))
  all_goals refine ret1b Tryz.func147 Tryz.results147 ?_
  all_goals exact ret_bool (by rw [insideB]; first | (rw [decide_eq_true (by omega), decide_eq_true (by omega)]; rfl) | (rw [decide_eq_false (by omega)]; rfl) | (rw [decide_eq_true (by omega), decide_eq_false (by omega)]; rfl))
theorem natural_holds (n : Int) (w : World) (h1 : -999999999999999 ≤ n) (h2 : n ≤ 999999999999999) :
    Calls Tryz.prog 148 #[.int .i64 n] w fun e w' => e = .returned (.string (bs (nB n.natAbs))) ∧ Below w.heap.size w w' := by
  have hi := fun w' => rInt_holds n.natAbs w' (by omega)
  by_cases h : n < 0
  · obtain ⟨m, rfl⟩ : ∃ m : Nat, n = -(m : Int) := ⟨n.natAbs, by omega⟩
    rw [Int.natAbs_neg, Int.natAbs_natCast] at *
    refine enterA [(0, .int .i64 (-(m : Int)))] Tryz.func148 Tryz.ntmps148 ?_
    all_goals (refine go ?_; and_intros <;> (try exact trivial) <;> repeat (first | refine fun (Bk : Nat) => ?_ | intro h))
    repeat' ((first | (apply G.cV (g := 159) (v := .agg #[.string (bs (nB m)), .int .i64 0]); rfl; rfl; exact fun w' _ => by rw [Int.neg_neg]; exact hi w')) <;> (refine go ?_; and_intros <;> (try exact trivial) <;> repeat (first | refine fun (Bk : Nat) => ?_ | intro h)))
    all_goals refine ret1b Tryz.func148 Tryz.results148 ?_
    all_goals rfl
  · obtain ⟨m, rfl⟩ : ∃ m : Nat, n = (m : Int) := ⟨n.natAbs, by omega⟩
    rw [Int.natAbs_natCast] at *
    refine enterA [(0, .int .i64 m)] Tryz.func148 Tryz.ntmps148 ?_
    all_goals (refine go ?_; and_intros <;> (try exact trivial) <;> repeat (first | refine fun (Bk : Nat) => ?_ | intro h))
    repeat' ((first | (apply G.cV (g := 159); rfl; rfl; exact fun w' _ => hi w')) <;> (refine go ?_; and_intros <;> (try exact trivial) <;> repeat (first | refine fun (Bk : Nat) => ?_ | intro h)))
    all_goals refine ret1b Tryz.func148 Tryz.results148 ?_
    all_goals rfl
theorem sMake_holds (m n : Int) (w : World) (h1 : -999999999999999 ≤ m) (h2 : m ≤ 999999999999999) (h3 : -999999999999999 ≤ n) (h4 : n ≤ 999999999999999) (h0 : n ≠ 0) :
    Calls Tryz.prog 115 #[.int .i64 m, .int .i64 n] w fun e w' => e = .returned (.agg #[.bool (rQ ((m : Rat) / (n : Rat))).neg, .string (bs (rQ ((m : Rat) / (n : Rat))).num), .string (bs (rQ ((m : Rat) / (n : Rat))).den), .int .i64 0]) ∧ Below w.heap.size w w' := by
  have i1 := fun w' => natural_holds m w' h1 h2
  have i2 := fun w' => natural_holds n w' h3 h4
  have b1 := fun w' => sInside_holds m w'
  have b2 := fun w' => sInside_holds n w'
  rw [insideB_true h1 h2] at b1
  rw [insideB_true h3 h4] at b2
  have l1 := int_le h1 h2
  have l2 := int_le h3 h4
  have lo := fun w' => sLowest_holds (decide (m < 0) != decide (n < 0)) m.natAbs n.natAbs w' (by omega) (by omega) (by omega)
  have e := ofF_div m n h0
  simp only [ftimes, Nat.mul_one, Nat.one_mul] at e
  rw [e] at lo
  clear e
  generalize rQ ((m : Rat) / (n : Rat)) = r at *
  generalize nB m.natAbs = f1 at *
  generalize nB n.natAbs = f2 at *
  have hlt1 : m < 0 ∧ decide (m < 0) = true ∨ ¬ m < 0 ∧ decide (m < 0) = false := by by_cases h : m < 0 <;> simp [h]
  have hlt2 : n < 0 ∧ decide (n < 0) = true ∨ ¬ n < 0 ∧ decide (n < 0) = false := by by_cases h : n < 0 <;> simp [h]
  refine enterA [(0, .int .i64 m), (1, .int .i64 n)] Tryz.func115 Tryz.ntmps115 ?_
  rcases hlt1 with ⟨j1, j2⟩ | ⟨j1, j2⟩ <;> rcases hlt2 with ⟨j3, j4⟩ | ⟨j3, j4⟩
  all_goals rw [j2, j4] at lo
  all_goals (refine go ?_; and_intros <;> (try exact trivial) <;> repeat (first | refine fun (Bk : Nat) => ?_ | intro h))
  repeat' ((first | (apply G.cV (g := 147) (vs := [.int .i64 m]); rfl; rfl; exact fun w' _ => b1 w') | (apply G.cV (g := 147) (vs := [.int .i64 n]); rfl; rfl; exact fun w' _ => b2 w') | (apply G.cV (g := 148) (vs := [.int .i64 m]); rfl; rfl; exact fun w' _ => i1 w') | (apply G.cV (g := 148) (vs := [.int .i64 n]); rfl; rfl; exact fun w' _ => i2 w') | (apply G.cV (g := 105); rfl; rfl; exact fun w' _ => lo w')) <;> (refine go ?_; and_intros <;> (try exact trivial) <;> repeat (first | refine fun (Bk : Nat) => ?_ | intro h)))
  all_goals refine ret1b Tryz.func115 Tryz.results115 ?_
  all_goals rfl
theorem sInt_holds (n : Int) (w : World) (h1 : -999999999999999 ≤ n) (h2 : n ≤ 999999999999999) :
    Calls Tryz.prog 84 #[.int .i64 n] w fun e w' => e = .returned (qA (rQ (n : Rat))) ∧ Below w.heap.size w w' := by
  have hm := fun w' => sMake_holds n 1 w' h1 h2 (by decide) (by decide) (by decide)
  rw [show (n : Rat) / ((1 : Int) : Rat) = (n : Rat) by rw [show ((1 : Int) : Rat) = 1 from rfl]; grind] at hm
  generalize rQ (n : Rat) = r at *
  refine enterA [(0, .int .i64 n)] Tryz.func84 Tryz.ntmps84 ?_
  all_goals (refine go ?_; and_intros <;> (try exact trivial) <;> repeat (first | refine fun (Bk : Nat) => ?_ | intro h))
  repeat' ((first | (apply G.cV (g := 115); rfl; rfl; exact fun w' _ => hm w')) <;> (refine go ?_; and_intros <;> (try exact trivial) <;> repeat (first | refine fun (Bk : Nat) => ?_ | intro h)))
  all_goals refine ret1b Tryz.func84 Tryz.results84 ?_
  all_goals rfl
end Go.Proofs.YteaccaieaigeaaaGreatDoor
/-
  Sizes of numbers, lists of integers, slices in memory: what all chapters share.
-/
namespace Go.Proofs.YteaccaieaigeaaaGreatDoor
open Go.RowKit Go.Sl Go.Num
def fewQ (k : Nat) (a : Q3) : Prop := a.num.length ≤ k ∧ a.den.length ≤ k
theorem fewQ_le {a : Q3} {j k : Nat} (h : fewQ j a) (hk : j ≤ k) : fewQ k a := ⟨Nat.le_trans h.1 hk, Nat.le_trans h.2 hk⟩
theorem SlAt.all {w : World} {a : Option Addr} {sz : Nat} {A : Type} {f : A → List Value} {l : List A} (h : SlAt w a sz (l.map f)) (h0 : 0 < l.length) : ∃ b off, a = some ⟨b, off, none⟩ ∧ ∀ i (hi : i < l.length), RowAt w b (off + i * sz) (f l[i]) := by
  obtain ⟨b, off, h1, h2⟩ := h (by simpa using h0)
  exact ⟨b, off, h1, fun i hi => h2 i _ (by simp [hi])⟩
theorem fewQ_ofF {s : Bool} {n d k : Nat} (hd : d ≠ 0) (h1 : (nB n).length ≤ k) (h2 : (nB d).length ≤ k) : fewQ k (rQ (ofF s n d)) := by
  rw [rQ_ofF hd]
  split
  · exact ⟨Nat.zero_le _, Nat.zero_le _⟩
  · exact ⟨Nat.le_trans (nB_len_le (Nat.div_le_self _ _)) h1, Nat.le_trans (nB_len_le (Nat.div_le_self _ _)) h2⟩
theorem fplus_le2 {f g : Bool × Nat × Nat} {i j : Nat} (hf : fLe f i) (hg : fLe g j) : fLe (fplus f.1 f.2.1 f.2.2 g.1 g.2.1 g.2.2) (i + j + 1) := by
  obtain ⟨s, n, d⟩ := f
  obtain ⟨t, m, e⟩ := g
  obtain ⟨h1, h2⟩ := hf
  obtain ⟨h3, h4⟩ := hg
  dsimp only at h1 h2 h3 h4
  have l1 := nB_mul h1 h4
  have l2 := nB_mul h3 h2
  rw [Nat.add_comm j i] at l2
  have l3 := nB_mul h2 h4
  have l4 := nB_add l1 l2
  rw [fplus]
  split
  · exact ⟨l4, by dsimp only; omega⟩
  · split
    · exact ⟨Nat.le_trans (nB_len_le (Nat.sub_le _ _)) (Nat.le_trans l2 (by omega)), by dsimp only; omega⟩
    · exact ⟨Nat.le_trans (nB_len_le (Nat.sub_le _ _)) (Nat.le_trans l1 (by omega)), by dsimp only; omega⟩
theorem fewQ_add {x y : Rat} {i j : Nat} (hx : fewQ i (rQ x)) (hy : fewQ j (rQ y)) (hi : 1 ≤ i) (hj : 1 ≤ j) : fewQ (i + j + 1) (rQ (x + y)) := by
  obtain ⟨e1, d1⟩ := frac_eq (rQ x)
  obtain ⟨e2, d2⟩ := frac_eq (rQ y)
  obtain ⟨e3, d3⟩ := fplus_eq (s := (frac (rQ x)).1) (t := (frac (rQ y)).1) (n := (frac (rQ x)).2.1) (m := (frac (rQ y)).2.1) d1 d2
  rw [e1, e2, qR_rQ, qR_rQ] at e3
  rw [← e3]
  have := fplus_le2 (frac_le hx.1 hx.2 hi) (frac_le hy.1 hy.2 hj)
  exact fewQ_ofF d3 this.1 this.2
theorem fewQ_neg {x : Rat} {i : Nat} (hx : fewQ i (rQ x)) : fewQ i (rQ (-x)) := by
  rw [rQ_neg]; split <;> exact hx
theorem fewQ_sub {x y : Rat} {i j : Nat} (hx : fewQ i (rQ x)) (hy : fewQ j (rQ y)) (hi : 1 ≤ i) (hj : 1 ≤ j) : fewQ (i + j + 1) (rQ (x - y)) := by
  rw [Rat.sub_eq_add_neg]; exact fewQ_add hx (fewQ_neg hy) hi hj
theorem fewQ_mul {x y : Rat} {i j : Nat} (hx : fewQ i (rQ x)) (hy : fewQ j (rQ y)) (hi : 1 ≤ i) (hj : 1 ≤ j) : fewQ (i + j) (rQ (x * y)) := by
  obtain ⟨e1, d1⟩ := frac_eq (rQ x)
  obtain ⟨e2, d2⟩ := frac_eq (rQ y)
  rw [qR_rQ] at e1 e2
  have e3 : ofF (ftimes (frac (rQ x)) (frac (rQ y))).1 (ftimes (frac (rQ x)) (frac (rQ y))).2.1 (ftimes (frac (rQ x)) (frac (rQ y))).2.2 = x * y := by
    rw [← e1, ← e2, ofF_times, e1, e2]; rfl
  rw [← e3]
  have := ftimes_le (frac_le hx.1 hx.2 hi) (frac_le hy.1 hy.2 hj)
  exact fewQ_ofF (Nat.mul_ne_zero d1 d2) this.1 this.2
theorem fewQ_int {n : Int} (h1 : -999999999999999 ≤ n) (h2 : n ≤ 999999999999999) : fewQ 8 (rQ (n : Rat)) := by
  rw [← ofF_int]
  exact fewQ_ofF (by decide) (int_le h1 h2) nB1_le
theorem fewQ_zero {k : Nat} : fewQ k (rQ 0) := ⟨Nat.zero_le _, Nat.zero_le _⟩
def isV (s : Int) : List Value := [.int .i64 s]
theorem isV_len (s : Int) : (isV s).length = 1 := rfl
theorem is_set {p : List Int} {j : Nat} {v : Int} (h : j < p.length) : setL (flat isV p) (0 + j * 1) [.int .i64 v] = flat isV (p.set j v) := flat_set1 isV_len h rfl
theorem is_get : ∀ {p : List Int} {j : Nat} (h : j < p.length), (flat isV p)[0 + j * 1]? = some (.int .i64 p[j])
  | x :: p, 0, _ => rfl
  | x :: p, j + 1, h => by
    have := is_get (p := p) (j := j) (by simpa using h)
    rw [Nat.zero_add, Nat.mul_one] at this ⊢
    rw [flat_cons]
    simpa [isV] using this
theorem isLen (l : List Int) : (flat isV l).length = l.length := by rw [flat_len isV_len, Nat.mul_one]
theorem getD_eq {S : List Int} {x : Nat} (h : x < S.length) : S.getD x 0 = S[x] := by rw [List.getD_eq_getElem?_getD, List.getElem?_eq_getElem h]; rfl
theorem nil_or_snoc {A : Type} (l : List A) : l = [] ∨ ∃ o p, l = o ++ [p] := by
  rcases List.eq_nil_or_concat l with rfl | ⟨o, p, rfl⟩
  · exact .inl rfl
  · exact .inr ⟨o, p, List.concat_eq_append⟩
theorem blkSlA {w0 w : World} {M : List Row} {A : Type} {f : A → List Value} {sz b tot : Nat} {e : TypeId} {l : List A} (hw : Sat w0 M w) (hf : ∀ x, (f x).length = sz) (hm : Row.blk b e (flat f l) tot ∈ M := by (repeat (first | exact List.Mem.head _ | apply List.Mem.tail))) : SlAt w (some ⟨b, 0, none⟩) sz (l.map f) ∧ w0.heap.size ≤ b := ⟨SlAt.ofBlk hf hw hm, ((hw.old _ hm).2 _ rfl).1⟩
end Go.Proofs.YteaccaieaigeaaaGreatDoor
/-
  Lists in which two elements change places; the order that insertion brings about.
-/
namespace Go.Proofs.YteaccaieaigeaaaGreatDoor
open Go.RowKit Go.Sl Go.Num
theorem swap_perm (l : List Int) (i j : Nat) (hi : i < l.length) (hj : j < l.length) : ((l.set i l[j]).set j l[i]).Perm l := by
  have h := Array.swap_perm (xs := l.toArray) (i := i) (j := j) (by simpa using hi) (by simpa using hj)
  have h2 := h.toList
  simpa using h2
def swp (S : List Int) (x y : Nat) : List Int := (S.set x (S.getD y 0)).set y (S.getD x 0)
theorem swp_len (S : List Int) (x y : Nat) : (swp S x y).length = S.length := by rw [swp, List.length_set, List.length_set]
theorem swp_eq {S : List Int} {x y : Nat} (hx : x < S.length) (hy : y < S.length) : swp S x y = (S.set x S[y]).set y S[x] := by rw [swp, getD_eq hx, getD_eq hy]
theorem swp_fst {S : List Int} {x y : Nat} (hx : x < S.length) (hy : y < S.length) : (swp S x y).getD x 0 = S.getD y 0 := by
  rw [getD_eq (by rw [swp_len]; exact hx), getD_eq hy]
  simp only [swp_eq hx hy, List.getElem_set]
  split
  · rename_i h; subst h; rfl
  · rfl
theorem swp_snd {S : List Int} {x y : Nat} (hx : x < S.length) (hy : y < S.length) : (swp S x y).getD y 0 = S.getD x 0 := by
  rw [getD_eq (by rw [swp_len]; exact hy), getD_eq hx]
  simp only [swp_eq hx hy, List.getElem_set_self]
theorem swp_oth {S : List Int} {x y z : Nat} (hx : x < S.length) (hy : y < S.length) (h1 : z ≠ x) (h2 : z ≠ y) : (swp S x y).getD z 0 = S.getD z 0 := by
  rw [swp_eq hx hy, List.getD_eq_getElem?_getD, List.getElem?_set_ne (by omega), List.getElem?_set_ne (by omega), List.getD_eq_getElem?_getD]
theorem swp_perm {S : List Int} {x y : Nat} (hx : x < S.length) (hy : y < S.length) : (swp S x y).Perm S := by
  rw [swp_eq hx hy]; exact swap_perm S x y hx hy
end Go.Proofs.YteaccaieaigeaaaGreatDoor
/-
  Maps from integers to integers.
-/
namespace Go.Proofs.YteaccaieaigeaaaGreatDoor
open Go.RowKit Go.Sl Go.Num
instance tkI : TKey Tryz.prog 3 (Value.int .i64) := TKey.int (by kernel_rfl)
end Go.Proofs.YteaccaieaigeaaaGreatDoor
/-
  How arguments read: what all chapters share.
-/
namespace Go.Proofs.YteaccaieaigeaaaGreatDoor
open Go.RowKit Go.Sl Go.Num Go.ChangeShapes Go.WideShapes
theorem own : ownKnob Tryz.prog.godebug = none := by kernel_rfl
theorem laidOut : laidOutB Tryz.prog = true := by kernel_rfl
theorem rInt : Reads Tryz.prog 3 isV (fun _ _ => True) := (Reads.int Tryz.underlying3).mono fun _ _ _ => trivial
theorem rStr : Reads Tryz.prog 9 (fun l : List UInt8 => [.string (bs l)]) (fun _ _ => True) := (Reads.string Tryz.underlying9).turn fun _ s _ => ⟨s.data.toList, by rw [bs_of], trivial⟩
theorem rBool : Reads Tryz.prog 4 (fun b : Bool => [.bool b]) (fun _ _ => True) := Reads.bool Tryz.underlying4
theorem rRat : Reads Tryz.prog 51 (fun a : Q3 => [.bool a.neg, .string (bs a.num), .string (bs a.den)]) (fun _ _ => True) := (Reads.struct3 (n := 3) Tryz.underlying51 (by kernel_rfl) (by kernel_rfl) rBool rStr rStr).turn fun _ a _ => ⟨⟨a.1, a.2.1, a.2.2⟩, rfl, trivial⟩
theorem rInts : Reads Tryz.prog 42 (fun s : Sld Int => [s.v]) (fun w s => SlAt w s.ad 1 (s.l.map isV) ∧ s.l.length ≤ s.cap) := (Reads.slice (sz := 1) Tryz.underlying42 (by kernel_rfl) (by decide) rInt).mono fun _ _ h => ⟨h.1, h.2.1⟩
abbrev laidL : List (String × DataW Unit) := [("unicode/utf8.acceptRanges", Rows.laid_unicode_utf8_acceptRanges), ("unicode/utf8.first", Rows.laid_unicode_utf8_first)]
theorem rRats : Reads Tryz.prog 23 (fun s : Sld Q3 => [s.v]) (fun w s => SlAt w s.ad 3 (s.l.map fun a => [.bool a.neg, .string (bs a.num), .string (bs a.den)])) := (Reads.slice (sz := 3) Tryz.underlying23 (by kernel_rfl) (by decide) rRat).mono fun _ _ h => h.1
end Go.Proofs.YteaccaieaigeaaaGreatDoor
/-
  Plain laws of kernels: totals, reduced lists, products.
-/
namespace Go.Proofs.YteaccaieaigeaaaGreatDoor
open Go.Num
/-! ### totals -/
def sumL : List Int → Int
  | [] => 0
  | x :: r => x + sumL r
def badW (w : Int) : Bool := decide (w < 0) || decide (999999999999999 < w)
/-- The error of a kernel. -/
def kerErr (k : List Int) : Int := if k.length < 1 ∨ 400 < k.length then 2 else if k.any badW = true then 3 else if 999999999999999 < sumL k then 3 else if sumL k = 0 then 1 else 0
structure Ker (k : List Int) : Prop where
  len : 1 ≤ k.length ∧ k.length ≤ 400
  nn : ∀ w ∈ k, 0 ≤ w ∧ w ≤ 999999999999999
  sum : 0 < sumL k ∧ sumL k ≤ 999999999999999
theorem sumL_nn : ∀ {k : List Int}, (∀ w ∈ k, 0 ≤ w) → 0 ≤ sumL k
  | [], _ => Int.le_refl _
  | x :: r, h => by
    have := sumL_nn fun w hw => h w (List.mem_cons_of_mem x hw)
    have := h x (List.mem_cons_self ..)
    rw [sumL]; omega
theorem ker_of {k : List Int} (h : kerErr k = 0) : Ker k := by
  rw [kerErr] at h
  split at h
  · cases h
  · split at h
    · cases h
    · rename_i h1 h2
      have h3 : ∀ w ∈ k, 0 ≤ w ∧ w ≤ 999999999999999 := fun w hw => by
        rw [Bool.not_eq_true] at h2
        have := List.any_eq_false.1 h2 w hw
        rw [badW, Bool.or_eq_true, decide_eq_true_eq, decide_eq_true_eq, not_or] at this
        omega
      split at h
      · cases h
      · split at h
        · cases h
        · rename_i h4 h5
          have := sumL_nn fun w hw => (h3 w hw).1
          exact ⟨by omega, h3, by omega⟩
/-! ### the greatest common divisor, and the last weight -/
def co (l : List Int) (i : Nat) : Int := l.getD i 0
/-- A list of weights that are not negative, some of them positive. -/
def Pos (l : List Int) : Prop := (∀ w ∈ l, 0 ≤ w) ∧ ∃ w ∈ l, 0 < w
theorem sum_pos : ∀ {l : List Int}, (∀ w ∈ l, 0 ≤ w) → 0 < sumL l → ∃ w ∈ l, 0 < w
  | [], _, h => absurd h (Int.lt_irrefl _)
  | x :: r, h, h2 => by
    by_cases hx : 0 < x
    · exact ⟨x, List.mem_cons_self .., hx⟩
    · rw [sumL] at h2
      have := h x (List.mem_cons_self ..)
      obtain ⟨w, h3, h4⟩ := sum_pos (l := r) (fun w hw => h w (List.mem_cons_of_mem _ hw)) (by omega)
      exact ⟨w, List.mem_cons_of_mem _ h3, h4⟩
theorem Ker.pos {l : List Int} (h : Ker l) : Pos l := ⟨fun w hw => (h.nn w hw).1, sum_pos (fun w hw => (h.nn w hw).1) h.sum.1⟩
end Go.Proofs.YteaccaieaigeaaaGreatDoor
/-
  Plain laws of kernels: products, and parts of what passes.
-/
namespace Go.Proofs.YteaccaieaigeaaaGreatDoor
open Go.Num
/-! ### sequences -/
/-! ### products of lists, as they are reckoned in place -/
def sq (l : List Int) (i : Nat) : Rat := ((co l i : Int) : Rat)
/-! ### sums of products -/
/-! ### reduced lists -/
/-- The part of what passes that arrives after i ticks. -/
def pk (l : List Int) (i : Nat) : Rat := sq l i / ((sumL l : Int) : Rat)
theorem rat_ne {n : Int} (h : 0 < n) : ((n : Int) : Rat) ≠ 0 := fun e => by
  have := Rat.intCast_inj.1 (show ((n : Int) : Rat) = ((0 : Int) : Rat) from e)
  omega
end Go.Proofs.YteaccaieaigeaaaGreatDoor
/-
  Plain laws of rivers: the way down.
-/
namespace Go.Proofs.YteaccaieaigeaaaGreatDoor
open Go.RowKit Go.Sl Go.Num
/-- A gauge with its way down, and its kernel. -/
structure Rch where
  dn : Int
  ws : List Int
  adr : Option Addr
  cap : Nat
def rcV (r : Rch) : List Value := [.int .i64 r.dn, .slice r.adr r.ws.length r.cap]
theorem rcV_len (r : Rch) : (rcV r).length = 2 := rfl
/-- The gauge below one; -1 if there is none. -/
def dnOf (l : List Rch) (g : Int) : Int := if g < 0 then -1 else match l[g.toNat]? with
  | some r => r.dn
  | none => -1
theorem dnOf_at {l : List Rch} {g : Nat} (h : g < l.length) : dnOf l (g : Int) = l[g].dn := by
  rw [dnOf, if_neg (by omega), Int.toNat_natCast, List.getElem?_eq_getElem h]
theorem dnOf_neg {l : List Rch} {g : Int} (h : g < 0) : dnOf l g = -1 := by rw [dnOf, if_pos h]
/-- After k steps down. -/
def itr (l : List Rch) : Nat → Int → Int
  | 0, g => g
  | k + 1, g => itr l k (dnOf l g)
theorem itr_neg {l : List Rch} : ∀ {k : Nat} {g : Int}, g < 0 → itr l k g < 0
  | 0, _, h => h
  | k + 1, g, h => by rw [itr, dnOf_neg h]; exact itr_neg (by decide)
theorem itr_add (l : List Rch) : ∀ (j k : Nat) (g : Int), itr l (j + k) g = itr l k (itr l j g)
  | 0, k, g => by rw [Nat.zero_add, itr]
  | j + 1, k, g => by rw [Nat.succ_add, itr, itr, itr_add l j k]
theorem itr_succ (l : List Rch) (k : Nat) (g : Int) : itr l (k + 1) g = dnOf l (itr l k g) := by rw [itr_add l k 1 g]; rfl
def badR1 (n : Nat) (g : Nat) (r : Rch) : Int := if r.dn < -1 ∨ (n : Int) ≤ r.dn then 3 else if r.dn = g ∨ (r.dn < 0 ∧ 0 < r.ws.length) ∨ (0 ≤ r.dn ∧ kerErr r.ws ≠ 0) then 1 else 0
def badRs (n : Nat) : Nat → List Rch → Int
  | _, [] => 0
  | g, r :: t => if badR1 n g r ≠ 0 then badR1 n g r else badRs n (g + 1) t
/-- The error of a river. -/
def rivErr (l : List Rch) : Int := if 40 < l.length then 2 else if badRs l.length 0 l ≠ 0 then badRs l.length 0 l else if (List.range l.length).all (fun g : Nat => decide (itr l l.length g < 0)) = true then 0 else 4
structure Riv (l : List Rch) : Prop where
  len : l.length ≤ 40
  rng : ∀ g (hg : g < l.length), -1 ≤ l[g].dn ∧ l[g].dn < l.length
  ne : ∀ g (hg : g < l.length), l[g].dn ≠ g
  ker : ∀ g (hg : g < l.length), 0 ≤ l[g].dn → kerErr l[g].ws = 0
  nil : ∀ g (hg : g < l.length), l[g].dn < 0 → l[g].ws = []
  fin : ∀ g, g < l.length → itr l l.length (g : Int) < 0
theorem badRs_ok {n : Nat} : ∀ {l : List Rch} {g : Nat}, badRs n g l = 0 → ∀ i (hi : i < l.length), badR1 n (g + i) l[i] = 0
  | r :: t, g, h, i, hi => by
    rw [badRs] at h
    split at h
    · rename_i h1; exact absurd h h1
    · rename_i h1
      cases i with
      | zero => exact Decidable.not_not.1 h1
      | succ i =>
        have := badRs_ok h i (by simpa using hi)
        rw [show g + (i + 1) = g + 1 + i by omega]; exact this
theorem riv_of {l : List Rch} (h : rivErr l = 0) : Riv l := by
  rw [rivErr] at h
  split at h
  · cases h
  · split at h
    · rename_i h1; exact absurd h h1
    · rename_i h1 h2
      split at h
      · rename_i h3
        have h4 := badRs_ok (Decidable.not_not.1 h2)
        have h5 : ∀ g (hg : g < l.length), badR1 l.length g l[g] = 0 := fun g hg => by have := h4 g hg; rwa [Nat.zero_add] at this
        have h6 : ∀ g (hg : g < l.length), ¬ (l[g].dn < -1 ∨ (l.length : Int) ≤ l[g].dn) ∧ ¬ (l[g].dn = g ∨ (l[g].dn < 0 ∧ 0 < l[g].ws.length) ∨ (0 ≤ l[g].dn ∧ kerErr l[g].ws ≠ 0)) := fun g hg => by
          have := h5 g hg
          rw [badR1] at this
          split at this
          · cases this
          · split at this
            · cases this
            · exact ⟨by assumption, by assumption⟩
        refine ⟨by omega, fun g hg => ?_, fun g hg => ?_, fun g hg h7 => ?_, fun g hg h7 => ?_, fun g hg => ?_⟩
        · have := (h6 g hg).1; omega
        · exact fun e => (h6 g hg).2 (.inl e)
        · by_cases h8 : kerErr l[g].ws = 0
          · exact h8
          · exact absurd (.inr (.inr ⟨h7, h8⟩)) (h6 g hg).2
        · by_cases h8 : 0 < l[g].ws.length
          · exact absurd (.inr (.inl ⟨h7, h8⟩)) (h6 g hg).2
          · exact List.length_eq_zero_iff.1 (by omega)
        · exact of_decide_eq_true (List.all_eq_true.1 h3 g (List.mem_range.2 hg))
      · cases h
theorem Riv.dn {l : List Rch} (h : Riv l) {g : Int} (h0 : 0 ≤ g) (h1 : g < l.length) : -1 ≤ dnOf l g ∧ dnOf l g < l.length ∧ dnOf l g ≠ g := by
  obtain ⟨k, rfl⟩ : ∃ k : Nat, g = k := ⟨g.toNat, by omega⟩
  rw [dnOf_at (by omega)]
  have := h.rng k (by omega)
  have := h.ne k (by omega)
  omega
/-- As long as there are gauges, they are gauges of the river. -/
theorem Riv.in_ {l : List Rch} (h : Riv l) : ∀ (k : Nat) {g : Int}, g < l.length → -1 ≤ g → -1 ≤ itr l k g ∧ itr l k g < l.length
  | 0, g, h1, h2 => ⟨h2, h1⟩
  | k + 1, g, h1, h2 => by
    rw [itr]
    by_cases h0 : g < 0
    · rw [dnOf_neg h0]
      have h3 : itr l k (-1) < 0 := itr_neg (by decide)
      refine Riv.in_ h k (by omega) (by decide)
    · have := h.dn (by omega) h1
      exact h.in_ k this.2.1 this.1
/-- How many gauges there are from one on down. -/
def dpt (l : List Rch) (g : Int) : Nat := ((List.range (l.length + 1)).find? fun k => decide (itr l k g < 0)).getD 0
theorem Riv.end_ {l : List Rch} (h : Riv l) {g : Int} (h1 : g < l.length) : itr l l.length g < 0 := by
  by_cases h0 : g < 0
  · exact itr_neg h0
  · obtain ⟨k, rfl⟩ : ∃ k : Nat, g = k := ⟨g.toNat, by omega⟩
    exact h.fin k (by omega)
theorem Riv.dep {l : List Rch} (h : Riv l) {g : Int} (h1 : g < l.length) : itr l (dpt l g) g < 0 ∧ dpt l g ≤ l.length ∧ ∀ k, k < dpt l g → 0 ≤ itr l k g := by
  rw [dpt]
  cases hf : (List.range (l.length + 1)).find? fun k => decide (itr l k g < 0) with
  | none =>
    rw [List.find?_eq_none] at hf
    have := hf l.length (List.mem_range.2 (by omega))
    exact absurd (decide_eq_true (h.end_ h1)) this
  | some k =>
    have h2 := List.find?_some hf
    have h3 := List.mem_of_find?_eq_some hf
    rw [List.find?_range_eq_some] at hf
    dsimp only [Option.getD_some]
    rw [List.mem_range] at h3
    refine ⟨of_decide_eq_true h2, by omega, fun j hj => ?_⟩
    have := hf.2.2 j hj
    simp only [Bool.not_eq_true', decide_eq_false_iff_not] at this
    omega
theorem Riv.ddn {l : List Rch} (h : Riv l) {g : Int} (h0 : 0 ≤ g) (h1 : g < l.length) : dpt l g = dpt l (dnOf l g) + 1 := by
  have h2 := h.dep h1
  have h3 := h.dep (h.dn h0 h1).2.1
  have h4 : 0 < dpt l g := by
    rcases Nat.eq_zero_or_pos (dpt l g) with h5 | h5
    · have := h2.1; rw [h5, itr] at this; omega
    · exact h5
  obtain ⟨d, hd⟩ : ∃ d, dpt l g = d + 1 := ⟨dpt l g - 1, by omega⟩
  rw [hd] at h2 ⊢
  have h5 := h2.1
  rw [itr] at h5
  rcases Nat.lt_trichotomy d (dpt l (dnOf l g)) with h6 | h6 | h6
  · have := h3.2.2 d h6; omega
  · rw [h6]
  · have := h2.2.2 (dpt l (dnOf l g) + 1) (by omega)
    rw [itr] at this
    have := h3.1; omega
end Go.Proofs.YteaccaieaigeaaaGreatDoor
/-
  Plain laws of rivers: a way that is too long never ends; paths.
-/
namespace Go.Proofs.YteaccaieaigeaaaGreatDoor
open Go.RowKit Go.Sl Go.Num
theorem nodup_le : ∀ (n : Nat) (L : List Nat), L.Nodup → (∀ x ∈ L, x < n) → L.length ≤ n
  | 0, [], _, _ => Nat.le_refl _
  | 0, x :: L, _, h => absurd (h x (List.mem_cons_self ..)) (Nat.not_lt_zero _)
  | n + 1, L, h, hl => by
    by_cases hn : n ∈ L
    · have h1 := nodup_le n (L.erase n) (h.erase n) fun x hx => by
        have h2 := (List.Nodup.mem_erase_iff h).1 hx
        have := hl x h2.2
        have := h2.1
        omega
      rw [List.length_erase_of_mem hn] at h1
      omega
    · have := nodup_le n L h fun x hx => by
        have := hl x hx
        have : x ≠ n := fun e => hn (e ▸ hx)
        omega
      omega
/-- Rivers of which all ways lead to gauges. -/
def InR (l : List Rch) : Prop := ∀ g (hg : g < l.length), -1 ≤ l[g].dn ∧ l[g].dn < l.length
theorem InR.in_ {l : List Rch} (h : InR l) : ∀ (k : Nat) {g : Int}, g < l.length → -1 ≤ g → -1 ≤ itr l k g ∧ itr l k g < l.length
  | 0, g, h1, h2 => ⟨h2, h1⟩
  | k + 1, g, h1, h2 => by
    rw [itr]
    by_cases h0 : g < 0
    · rw [dnOf_neg h0]
      exact InR.in_ h k (by omega) (by decide)
    · obtain ⟨j, rfl⟩ : ∃ j : Nat, g = j := ⟨g.toNat, by omega⟩
      rw [dnOf_at (by omega)]
      have := h j (by omega)
      exact h.in_ k this.2 this.1
theorem itr_pos {l : List Rch} {j k : Nat} {g : Int} (h : 0 ≤ itr l k g) (hj : j ≤ k) : 0 ≤ itr l j g := by
  rcases Int.lt_or_le (itr l j g) 0 with h1 | h1
  · have := itr_add l j (k - j) g
    rw [show j + (k - j) = k by omega] at this
    have h2 := itr_neg (l := l) (k := k - j) h1
    omega
  · exact h1
/-- A way of more gauges than there are goes around. -/
theorem itr_round {l : List Rch} (h : InR l) {g : Int} (h1 : g < l.length) (h2 : 0 ≤ itr l l.length g) : ∀ k, 0 ≤ itr l k g := by
  have h0 : 0 ≤ g := itr_pos (j := 0) h2 (Nat.zero_le _)
  have hin : ∀ k, k ≤ l.length → 0 ≤ itr l k g ∧ itr l k g < l.length := fun k hk => ⟨itr_pos h2 hk, (h.in_ k h1 (by omega)).2⟩
  have hex : ∃ i j, i < j ∧ j ≤ l.length ∧ itr l i g = itr l j g := by
    by_cases hc : ∃ i j, i < j ∧ j ≤ l.length ∧ itr l i g = itr l j g
    · exact hc
    · have hnd : ((List.range (l.length + 1)).map fun k => (itr l k g).toNat).Nodup := by
        rw [List.Nodup, List.pairwise_map]
        refine List.Pairwise.imp_of_mem (R := fun a b => a < b) (fun {a b} ha hb hab e => ?_) List.pairwise_lt_range
        rw [List.mem_range] at ha hb
        have := hin a (by omega)
        have := hin b (by omega)
        exact hc ⟨a, b, hab, by omega, by omega⟩
      have := nodup_le l.length _ hnd fun x hx => by
        obtain ⟨k, hk, rfl⟩ := List.mem_map.1 hx
        rw [List.mem_range] at hk
        have := hin k (by omega)
        omega
      rw [List.length_map, List.length_range] at this
      omega
  obtain ⟨i, j, hij, hj, e⟩ := hex
  have hper : ∀ k, itr l (i + k) g = itr l (j + k) g := fun k => by rw [itr_add, itr_add l j, e]
  intro k
  induction k using Nat.strongRecOn with
  | _ k ih =>
    rcases Nat.lt_or_ge l.length k with hk | hk
    · have := hper (k - j)
      rw [show j + (k - j) = k by omega] at this
      rw [← this]
      exact ih _ (by omega)
    · exact (hin k hk).1
def aboveL (l : List Rch) (g : Int) : List Int := ((List.range l.length).filter fun k : Nat => decide (dnOf l k = g)).map fun k : Nat => (k : Int)
end Go.Proofs.YteaccaieaigeaaaGreatDoor
/-
  Plain laws of rivers: paths as steps, kernels along paths.
-/
namespace Go.Proofs.YteaccaieaigeaaaGreatDoor
open Go.RowKit Go.Sl Go.Num
theorem Riv.dpt_itr {l : List Rch} (h : Riv l) : ∀ (i : Nat) {g : Int}, g < l.length → -1 ≤ g → 0 ≤ itr l i g → dpt l (itr l i g) + i = dpt l g
  | 0, _, _, _, _ => rfl
  | i + 1, g, h1, h2, h3 => by
    rw [itr] at h3 ⊢
    by_cases h0 : g < 0
    · rw [dnOf_neg h0] at h3
      have : itr l i (-1) < 0 := itr_neg (by decide)
      omega
    · have h4 := h.dn (by omega) h1
      have h5 := h.dpt_itr i h4.2.1 h4.1 h3
      have h6 := h.ddn (by omega) h1
      omega
theorem Riv.inj {l : List Rch} (h : Riv l) {g : Int} (h1 : g < l.length) (h2 : -1 ≤ g) {i j : Nat} (h3 : itr l i g = itr l j g) (h4 : 0 ≤ itr l i g) : i = j := by
  have e1 := h.dpt_itr i h1 h2 h4
  have e2 := h.dpt_itr j h1 h2 (by omega)
  rw [h3] at e1
  omega
/-! ### kernels along a way -/
def ker1 (l : List Rch) (g : Int) : List Int := if g < 0 then [] else match l[g.toNat]? with
  | some r => r.ws
  | none => []
end Go.Proofs.YteaccaieaigeaaaGreatDoor
/-
  Plain laws of rivers: an order in which each gauge comes before its way down.
-/
namespace Go.Proofs.YteaccaieaigeaaaGreatDoor
open Go.RowKit Go.Sl Go.Num
structure Ordd (l : List Rch) (out : List Int) : Prop where
  nd : out.Nodup
  rng : ∀ x ∈ out, 0 ≤ x ∧ x < l.length
  up : ∀ p (hp : p < out.length), ∀ u ∈ aboveL l out[p], u ∈ out.take p
end Go.Proofs.YteaccaieaigeaaaGreatDoor
/-
  Plain laws of what arrives: weights by ticks.
-/
namespace Go.Proofs.YteaccaieaigeaaaGreatDoor
open Go.RowKit Go.Sl Go.Num
/-! ### ticks with one weight together -/
abbrev Prt := Int × Int × Int
def addP (out : List Prt) (t w : Int) : List Prt := if w = 0 then out else match out.getLast? with
  | none => [(t, t + 1, w)]
  | some p => if p.2.1 = t ∧ p.2.2 = w then out.dropLast ++ [(p.1, t + 1, w)] else out ++ [(t, t + 1, w)]
structure Prts (W : Int → Int) (t0 t : Int) (out : List Prt) : Prop where
  ord : out.Pairwise fun p q => p.2.1 ≤ q.1
  mem : ∀ p ∈ out, t0 ≤ p.1 ∧ p.1 < p.2.1 ∧ p.2.1 ≤ t ∧ ∀ s, p.1 ≤ s → s < p.2.1 → W s = p.2.2 ∧ p.2.2 ≠ 0
  at_ : ∀ s, t0 ≤ s → s < t → W s ≠ 0 → ∃ p ∈ out, p.1 ≤ s ∧ s < p.2.1
theorem Prts.nil (W : Int → Int) (t : Int) : Prts W t t [] := ⟨.nil, fun p h => by (cases h), fun s h1 h2 => by omega⟩
theorem Prts.add {W : Int → Int} {t0 t : Int} {out : List Prt} (h : Prts W t0 t out) (h0 : t0 ≤ t) : Prts W t0 (t + 1) (addP out t (W t)) := by
  rw [addP]
  by_cases hw : W t = 0
  · rw [if_pos hw]
    refine ⟨h.ord, fun p hp => ?_, fun s h1 h2 h3 => ?_⟩
    · have := h.mem p hp; exact ⟨this.1, this.2.1, by omega, this.2.2.2⟩
    · refine h.at_ s h1 ?_ h3
      by_cases e : s = t
      · subst e; exact absurd hw h3
      · omega
  rw [if_neg hw]
  have hnew : ∀ o : List Prt, Prts W t0 t o → Prts W t0 (t + 1) (o ++ [(t, t + 1, W t)]) := fun o h => by
    refine ⟨?_, fun p hp => ?_, fun s h1 h2 h3 => ?_⟩
    · rw [List.pairwise_append]
      refine ⟨h.ord, List.pairwise_singleton .., fun a ha b hb => ?_⟩
      rw [List.mem_singleton.1 hb]
      exact (h.mem a ha).2.2.1
    · rcases List.mem_append.1 hp with hp | hp
      · have := h.mem p hp; exact ⟨this.1, this.2.1, by omega, this.2.2.2⟩
      · rw [List.mem_singleton.1 hp]
        refine ⟨h0, by dsimp only; omega, Int.le_refl _, fun s h1 h2 => ?_⟩
        dsimp only at h1 h2 ⊢
        obtain rfl : s = t := by omega
        exact ⟨rfl, hw⟩
    · by_cases e : s = t
      · exact ⟨_, List.mem_append_right _ (List.mem_singleton.2 rfl), by dsimp only; omega, by dsimp only; omega⟩
      · obtain ⟨p, hp, h4⟩ := h.at_ s h1 (by omega) h3
        exact ⟨p, List.mem_append_left _ hp, h4⟩
  rcases nil_or_snoc out with rfl | ⟨o, p, rfl⟩
  · exact hnew [] h
  · rw [List.getLast?_concat]
    dsimp only
    by_cases hp : p.2.1 = t ∧ p.2.2 = W t
    · rw [if_pos hp, List.dropLast_concat]
      have hord := List.pairwise_append.1 h.ord
      have hpm := h.mem p (List.mem_append_right _ (List.mem_singleton.2 rfl))
      refine ⟨?_, fun q hq => ?_, fun s h1 h2 h3 => ?_⟩
      · rw [List.pairwise_append]
        refine ⟨hord.1, List.pairwise_singleton .., fun a ha b hb => ?_⟩
        rw [List.mem_singleton.1 hb]
        exact hord.2.2 a ha p (List.mem_singleton.2 rfl)
      · rcases List.mem_append.1 hq with hq | hq
        · have := h.mem q (List.mem_append_left _ hq); exact ⟨this.1, this.2.1, by omega, this.2.2.2⟩
        · rw [List.mem_singleton.1 hq]
          refine ⟨hpm.1, by dsimp only; omega, Int.le_refl _, fun s h1 h2 => ?_⟩
          dsimp only at h1 h2 ⊢
          by_cases e : s = t
          · subst e; exact ⟨rfl, hw⟩
          · have := hpm.2.2.2 s h1 (by omega)
            exact ⟨this.1.trans hp.2, hw⟩
      · by_cases e : s = t
        · exact ⟨_, List.mem_append_right _ (List.mem_singleton.2 rfl), by dsimp only; omega, by dsimp only; omega⟩
        · obtain ⟨q, hq, h4⟩ := h.at_ s h1 (by omega) h3
          rcases List.mem_append.1 hq with hq | hq
          · exact ⟨q, List.mem_append_left _ hq, h4⟩
          · rw [List.mem_singleton.1 hq] at h4
            exact ⟨_, List.mem_append_right _ (List.mem_singleton.2 rfl), h4.1, by dsimp only; omega⟩
    · rw [if_neg hp]; exact hnew _ h
end Go.Proofs.YteaccaieaigeaaaGreatDoor
/-
  Plain laws of routing: what arrives in an interval is the sum of the flows, each with its weight.
-/
namespace Go.Proofs.YteaccaieaigeaaaGreatDoor
open Go.RowKit Go.Sl Go.Num
def fsq (l : List Rat) (i : Nat) : Rat := l.getD i 0
end Go.Proofs.YteaccaieaigeaaaGreatDoor
/-
  Plain laws of rivers: the kernel along a way is that of both its parts.
-/
namespace Go.Proofs.YteaccaieaigeaaaGreatDoor
open Go.RowKit Go.Sl Go.Num
theorem Riv.pos {l : List Rch} (h : Riv l) {g : Int} (h1 : 0 ≤ g ∧ g < l.length) (h2 : 0 ≤ dnOf l g) : Pos (ker1 l g) ∧ kerErr (ker1 l g) = 0 := by
  obtain ⟨k, rfl⟩ : ∃ k : Nat, g = k := ⟨g.toNat, by omega⟩
  have hk : k < l.length := by omega
  rw [dnOf_at hk] at h2
  rw [ker1, if_neg (by omega), Int.toNat_natCast, List.getElem?_eq_getElem hk]
  exact ⟨(ker_of (h.ker k hk h2)).pos, h.ker k hk h2⟩
end Go.Proofs.YteaccaieaigeaaaGreatDoor
