/-
  Contracts of the natural numbers' digits: plus, minus, times, small, shift.
-/
import Derived.Test.YteaccaieaigeaaaGreatDoorNB3
set_option linter.unusedVariables false
set_option linter.unusedSimpArgs false
set_option linter.unusedSectionVars false
namespace Go.Proofs.YteaccaieaigeaaaGreatDoor
open Go.RowKit Go.Sl Go.Num
/-- A slice of digits, new. -/
def RetL (n : Nat) (w : World) (e : Ending) (w' : World) : Prop :=
  ∃ a' c', e = .returned (.slice a' (dgs B32 n).length c') ∧ SlAt w' a' 1 ((dgs B32 n).map lmV) ∧ (∀ p, a' = some p → w.heap.size ≤ p.block) ∧ Below w.heap.size w w'
theorem u32_of (s : Nat) : IntKind.u32.wrap (s : Int) = ((s % B32 : Nat) : Int) := by rw [wrap_u32]; show _ = ((s % 4294967296 : Nat) : Int); omega
theorem u64_shr (s : Nat) : (s : Int).fdiv (2 ^ (min 32 IntKind.u64.bits)) = ((s / B32 : Nat) : Int) := by
  have e : (2 : Int) ^ (min 32 IntKind.u64.bits) = 4294967296 := rfl
  rw [e, Int.fdiv_eq_ediv_of_nonneg _ (by decide)]
  show _ = ((s / 4294967296 : Nat) : Int)
  omega
theorem own_cap {w : World} {base E sz n c : Nat} {a : Option Addr} {xs : List Value} (h : w.ownsRow base E sz (.slice a n c) n xs) : n ≤ c := by
  obtain ⟨h1, h2⟩ := h
  rcases h2 with ⟨h4, h3⟩ | ⟨g, cap, cur, hv, hg, hh, h3, r⟩
  · omega
  · cases hv; exact h3
/-- The end of a function that hands back its own digits, trimmed. -/
theorem retL_own {w0 w : World} {M : List Row} {base E c n : Nat} {a : Option Addr} {l : List Nat} (hw : Sat w0 M w) (hm : Row.own base (.slice a l.length c) E 1 l.length (flat lmV l) ∈ M) (hl : ∀ d ∈ l, d < B32) (hv : vL B32 l = n) : RetL n w0 (.returned (.slice a (trimL l).length c)) w := by
  have ho : w.ownsRow base E 1 (.slice a l.length c) l.length (flat lmV l) := hw.hold _ hm
  have hs := SlAt.ofOwn (f := lmV) (sz := 1) lmV_len ho rfl
  have ht : trimL l = dgs B32 n := by rw [trimL_eq (by decide) l hl, hv]
  rw [ht]
  have hpre : ∀ i, i < (dgs B32 n).length → (dgs B32 n)[i]? = l[i]? := by
    have : trimL l <+: l := trimL_pre l
    rw [ht] at this
    obtain ⟨r, hr⟩ := this
    intro i hi
    rw [← hr, List.getElem?_append_left hi]
  refine ⟨a, c, rfl, fun h0 => ?_, fun p hp => ?_, hw.below⟩
  · have hlen : (dgs B32 n).length ≤ l.length := by rw [← ht]; exact trimL_le l
    simp only [List.length_map] at h0
    obtain ⟨b, off, h1, h2⟩ := hs (by simp only [List.length_map]; omega)
    refine ⟨b, off, h1, fun i cs hi => h2 i cs ?_⟩
    rw [List.getElem?_map] at hi ⊢
    obtain ⟨y, hy, rfl⟩ := Option.map_eq_some_iff.1 hi
    rw [← hpre i (List.getElem?_eq_some_iff.1 hy).1, hy]; rfl
  · subst hp
    exact ((hw.old _ hm).2 p.block rfl).1
theorem trimO_holds {w0 w : World} {M : List Row} {base E c : Nat} {a : Option Addr} {l : List Nat} (hw : Sat w0 M w) (hm : Row.own base (.slice a l.length c) E 1 l.length (flat lmV l) ∈ M) (hl : l.length ≤ 9223372036854775807) :
    Calls Tryz.prog 127 #[.slice a l.length c] w fun e w' => e = .returned (.slice a (trimL l).length c) ∧ Below w.heap.size w w' :=
  have ho : w.ownsRow base E 1 (.slice a l.length c) l.length (flat lmV l) := hw.hold _ hm
  trim_holds a l c w (own_cap ho) hl (SlAt.ofOwn lmV_len ho rfl)
theorem plus_holds (a : Option Addr) (m c : Nat) (b : Option Addr) (n d : Nat) (w : World) (hl : (dgs B32 m).length ≤ 1073741824) (hm : (dgs B32 n).length ≤ 1073741824) (hA : SlAt w a 1 ((dgs B32 m).map lmV)) (hB : SlAt w b 1 ((dgs B32 n).map lmV)) :
    Calls Tryz.prog 123 #[.slice a (dgs B32 m).length c, .slice b (dgs B32 n).length d] w (RetL (m + n) w) := by
  have hx := dgs_lt (b := B32) (by decide) m
  have hy := dgs_lt (b := B32) (by decide) n
  rw [show m + n = vL B32 (dgs B32 m) + vL B32 (dgs B32 n) by rw [vL_dgs (by decide), vL_dgs (by decide)]]
  generalize dgs B32 m = x at *
  generalize dgs B32 n = y at *
  refine enterA [(0, .slice a x.length c), (1, .slice b y.length d)] Tryz.func123 Tryz.ntmps123 ?_
  all_goals (refine go ?_; and_intros <;> (try exact trivial) <;> repeat (first | refine fun (Bk : Nat) => ?_ | intro h))
  apply J.nilOwn (E := 144) (size := 1)
  have hend : ∀ (o : List Nat) (v : Nat), o.length = max x.length y.length + 1 → vL B32 o + B32 ^ (max x.length y.length + 1) * v = vL B32 (x.take (max x.length y.length + 1)) + vL B32 (y.take (max x.length y.length + 1)) → vL B32 o = vL B32 x + vL B32 y := fun o v _ h => plus_end (by decide) hx hy h
  have hstep : ∀ (o : List Nat) (k v : Nat), o.length = k → v ≤ 1 → (∀ d ∈ o, d < B32) → vL B32 o + B32 ^ k * v = vL B32 (x.take k) + vL B32 (y.take k) → ∃ s v', x.getD k 0 + y.getD k 0 + v = s ∧ s < 18446744073709551615 ∧ v' = s / B32 ∧ v' ≤ 1 ∧ (∀ d ∈ o ++ [s % B32], d < B32) ∧ vL B32 (o ++ [s % B32]) + B32 ^ (k + 1) * v' = vL B32 (x.take (k + 1)) + vL B32 (y.take (k + 1)) := by
    intro o k v h1 h2 h3 h4
    have g1 := getD_lt (by decide) hx k
    have g2 := getD_lt (by decide) hy k
    have g3 : B32 = 4294967296 := rfl
    exact ⟨_, _, rfl, by omega, rfl, plus_carry (by decide) hx hy h2, lt_snoc h3 (Nat.mod_lt _ (by decide)), plus_step (by decide) h1 h4⟩
  refine J.loop (c := _) ((0, 0, .slice none 0 0, []) : Nat × Nat × Value × List Nat) (fun s => max x.length y.length + 1 - s.1) (fun s => [(0, .slice a x.length c), (1, .slice b y.length d), (5, s.2.2.1), (6, .int .u64 (s.2.1 : Int)), (14, .int .i64 (max (x.length : Int) y.length + 1)), (15, .int .i64 s.1)]) (fun s => [.own 0 s.2.2.1 144 1 s.1 (flat lmV s.2.2.2)]) (fun s => s.1 ≤ max x.length y.length + 1 ∧ s.2.1 ≤ 1 ∧ s.2.2.2.length = s.1 ∧ (∀ d ∈ s.2.2.2, d < B32) ∧ vL B32 s.2.2.2 + B32 ^ s.1 * s.2.1 = vL B32 (x.take s.1) + vL B32 (y.take s.1)) ?_ sbT sbL ?_
  · exact ⟨Nat.zero_le _, Nat.zero_le _, rfl, by simp, by simp [vL]⟩
  intro ⟨k, v, u, o⟩ ⟨h1, h2, h3, h4, h5⟩ ih
  dsimp only at h1 h2 h3 h4 h5 ⊢
  by_cases hk : k < max x.length y.length + 1
  · obtain ⟨t, v', e1, e2, e3, e4, e5, e6⟩ := hstep o k v h3 h2 h4 h5
    have c1 : IntKind.u32.wrap (((x.getD k 0 : Nat) : Int) + (y.getD k 0 : Nat) + (v : Nat)) = ((t % B32 : Nat) : Int) := by rw [← u32_of, ← e1]; congr 1
    have c2 : (((x.getD k 0 : Nat) : Int) + (y.getD k 0 : Nat) + (v : Nat)).fdiv (2 ^ (min 32 IntKind.u64.bits)) = (v' : Int) := by rw [e3, ← u64_shr, ← e1]; congr 1
    repeat' (first | (apply G.cV (g := 149) (vs := [.slice a x.length c, .int .i64 k]); rfl; rfl; exact fun w hw => at_holds a x c k w (by omega) hx (hA.below hw.below)) | (apply G.cV (g := 149) (vs := [.slice b y.length d, .int .i64 k]); rfl; rfl; exact fun w hw => at_holds b y d k w (by omega) hy (hB.below hw.below)) | (apply G.convK; rfl; exact c1; rfl; rfl; rfl) | (apply G.shrK (n := 32); rfl; rfl; rfl; exact c2; rfl; rfl; rfl) | (apply G.sliceL; rfl; rfl; rfl; rfl; rfl; rfl; rfl; rfl; intro Bs) | (apply G.ap; rfl; rfl; rfl; (repeat (first | exact RAt.head | apply RAt.tail)); exact SrcV.blk (by exact mm) rfl rfl; exact flat1 lmV o (t % B32); omega; omega; intro v2) | (apply G.pu; rfl; rfl; first | exact trivial | omega) | (apply J.ct; rfl) | (apply G.nil; rfl) | (apply G.cm; rfl; rfl; all_goals intro h; all_goals try (exfalso; omega)) | (apply G.fa; rfl; rfl) | (apply G.ld; rfl; (first | (apply LdV.one; (first | exact CellV.row0 (by assumption) rfl | exact CellV.rowS (by assumption) rfl | exact CellV.rowSS (by assumption) rfl | (apply CellV.blk; exact mm; rfl))) | (apply LdV.aggBlk; exact mm; rfl) | (apply LdV.part; exact mm; rfl; rfl) | (apply LdV.aggRow; assumption; rfl) | (apply LdV.partRow; assumption; rfl; rfl)); rfl) | (apply G.sk; rfl) | (apply G.ls; rfl; rfl) | (apply G.ix; rfl; rfl; rfl; omega; rfl) | (apply G.ix; rfl; rfl; (first | exact sub_one _ | exact add_one' _); omega; rfl) | (apply G.lt; rfl; rfl) | (apply G.bu; rfl; rfl; rfl) | (apply G.fd; rfl; rfl; rfl) | (apply G.cv; rfl; rfl; rfl; omega) | (apply G.beq; rfl; rfl; rfl) | (apply G.bne; rfl; rfl; rfl) | (apply G.mm; rfl; rfl) | (apply G.mf; rfl; rfl) | (apply G.mx; rfl; rfl; rfl) | (apply G.mn; rfl; rfl; rfl) | (apply G.bx; rfl; rfl; rfl; intro Bk) | (apply G.al; rfl; intro Bk) | (apply G.so; rfl; rfl; (repeat (first | exact RAt.head | apply RAt.tail)); rfl; rfl) | (apply G.ss; rfl; rfl; (repeat (first | exact RAt.head | apply RAt.tail)); rfl; rfl) | (apply J.regQ; exact Tryz.mixed; decide +kernel) | (apply J.regL; exact Tryz.mixed; decide +kernel) | apply J.reg)
    exact J.fin (ih (k + 1, v', v2, o ++ [t % B32]) ⟨by dsimp only; omega, e4, by simp [h3], e5, e6⟩ (by dsimp only; omega))
  · have h6 : o.length = max x.length y.length + 1 := by omega
    subst h3
    rw [h6] at h5
    apply J.ownForm (i := 0) rfl
    intro a2 c2 hu
    subst hu
    all_goals (refine go ?_; and_intros <;> (try exact trivial) <;> repeat (first | refine fun (Bk : Nat) => ?_ | intro h))
    repeat' ((first | (apply G.cV (g := 127); rfl; rfl; exact fun w hw => trimO_holds hw (by exact mm) (by omega))) <;> (refine go ?_; and_intros <;> (try exact trivial) <;> repeat (first | refine fun (Bk : Nat) => ?_ | intro h)))
    (refine ret1 Tryz.func123 Tryz.results123 ?_; intro w' hw)
    exact retL_own hw (by exact mm) h4 (hend o v h6 h5)
/-- A digit of a slice. -/
theorem lm_at {w : World} {a : Option Addr} {x : List Nat} {k : Nat} (hA : SlAt w a 1 (x.map lmV)) (hk : k < x.length) : ∃ b off, a = some ⟨b, off, none⟩ ∧ RowAt w b (off + k * 1) [.int .u32 ((x.getD k 0 : Nat) : Int)] := by
  obtain ⟨b, off, h1, h2⟩ := hA.at k hk
  refine ⟨b, off, h1, ?_⟩
  rw [List.getD_eq_getElem?_getD, List.getElem?_eq_getElem hk]
  exact h2
theorem minus_num {x y c d c' : Nat} (hx : x < B32) (hy : y < B32) (hc : c ≤ 1) (he : (x : Int) - y - c = (d : Int) - (B32 * c' : Nat)) (hd : d < B32) (hc' : c' ≤ 1) :
    ∃ u1 u2 : Nat, IntKind.u64.wrap ((x : Int) - y) = u1 ∧ IntKind.u64.wrap ((u1 : Int) - c) = u2 ∧ IntKind.u32.wrap (u2 : Int) = d ∧ (u2 : Int).fdiv (2 ^ (min 63 IntKind.u64.bits)) = c' := by
  have e0 : (2 : Int) ^ (min 63 IntKind.u64.bits) = 9223372036854775808 := rfl
  have e1 : B32 = 4294967296 := rfl
  rw [e0]
  simp only [wrap_u64, wrap_u32]
  refine ⟨(((x : Int) - y) % 18446744073709551616).toNat, (((x : Int) - y - c) % 18446744073709551616).toNat, by omega, by omega, ?_, ?_⟩
  · have : c' = 0 ∨ c' = 1 := by omega
    rcases this with rfl | rfl <;> omega
  · rw [Int.fdiv_eq_ediv_of_nonneg _ (by decide)]
    have : c' = 0 ∨ c' = 1 := by omega
    rcases this with rfl | rfl <;> omega
theorem minus_holds (a : Option Addr) (m c : Nat) (b : Option Addr) (n d : Nat) (w : World) (hl : (dgs B32 m).length ≤ 1073741824) (hm : (dgs B32 n).length ≤ 1073741824) (hA : SlAt w a 1 ((dgs B32 m).map lmV)) (hB : SlAt w b 1 ((dgs B32 n).map lmV)) (hle : n ≤ m) :
    Calls Tryz.prog 125 #[.slice a (dgs B32 m).length c, .slice b (dgs B32 n).length d] w (RetL (m - n) w) := by
  have hx := dgs_lt (b := B32) (by decide) m
  have hy := dgs_lt (b := B32) (by decide) n
  rw [show m - n = vL B32 (dgs B32 m) - vL B32 (dgs B32 n) by rw [vL_dgs (by decide), vL_dgs (by decide)]]
  have hle2 : vL B32 (dgs B32 n) ≤ vL B32 (dgs B32 m) := by rw [vL_dgs (by decide), vL_dgs (by decide)]; exact hle
  clear hle
  generalize dgs B32 m = x at *
  generalize dgs B32 n = y at *
  refine enterA [(0, .slice a x.length c), (1, .slice b y.length d)] Tryz.func125 Tryz.ntmps125 ?_
  all_goals (refine go ?_; and_intros <;> (try exact trivial) <;> repeat (first | refine fun (Bk : Nat) => ?_ | intro h))
  apply J.nilOwn (E := 144) (size := 1)
  have hstep : ∀ (o : List Nat) (k v : Nat), o.length = k → v ≤ 1 → (∀ d ∈ o, d < B32) → vL B32 o + vL B32 (y.take k) = vL B32 (x.take k) + B32 ^ k * v → ∃ dg v' u1 u2 : Nat, IntKind.u64.wrap (((x.getD k 0 : Nat) : Int) - (y.getD k 0 : Nat)) = u1 ∧ IntKind.u64.wrap ((u1 : Int) - v) = u2 ∧ IntKind.u32.wrap (u2 : Int) = dg ∧ (u2 : Int).fdiv (2 ^ (min 63 IntKind.u64.bits)) = v' ∧ v' ≤ 1 ∧ (∀ d ∈ o ++ [dg], d < B32) ∧ vL B32 (o ++ [dg]) + vL B32 (y.take (k + 1)) = vL B32 (x.take (k + 1)) + B32 ^ (k + 1) * v' := by
    intro o k v h1 h2 h3 h4
    have g1 := getD_lt (by decide) hx k
    have g2 := getD_lt (by decide) hy k
    obtain ⟨dg, v', f1, f2, f3, f4⟩ := minus_step (b := B32) (by decide) h1 hy h2 (by rw [h4, Nat.add_assoc, ← Nat.mul_add]; congr 2; omega) g1
    obtain ⟨u1, u2, p1, p2, p3, p4⟩ := minus_num g1 g2 h2 f1 f2 f3
    exact ⟨dg, v', u1, u2, p1, p2, p3, p4, f3, lt_snoc h3 f2, f4⟩
  refine J.loop (c := _) ((0, 0, .slice none 0 0, []) : Nat × Nat × Value × List Nat) (fun s => x.length - s.1) (fun s => [(0, .slice a x.length c), (1, .slice b y.length d), (5, s.2.2.1), (6, .int .u64 (s.2.1 : Int)), (10, .int .i64 x.length), (11, .int .i64 s.1)]) (fun s => [.own 0 s.2.2.1 144 1 s.1 (flat lmV s.2.2.2)]) (fun s => s.1 ≤ x.length ∧ s.2.1 ≤ 1 ∧ s.2.2.2.length = s.1 ∧ (∀ d ∈ s.2.2.2, d < B32) ∧ vL B32 s.2.2.2 + vL B32 (y.take s.1) = vL B32 (x.take s.1) + B32 ^ s.1 * s.2.1) ?_ sbT sbL ?_
  · exact ⟨Nat.zero_le _, Nat.zero_le _, rfl, by simp, by simp [vL]⟩
  intro ⟨k, v, u, o⟩ ⟨h1, h2, h3, h4, h5⟩ ih
  dsimp only at h1 h2 h3 h4 h5 ⊢
  by_cases hk : k < x.length
  · obtain ⟨t, v', u1, u2, e1, e2, e3, e4, e5, e6, e7⟩ := hstep o k v h3 h2 h4 h5
    obtain ⟨ba, oa, rfl, hrow⟩ := lm_at hA hk
    have g1 : x.getD k 0 < 4294967296 := getD_lt (by decide) hx k
    have g2 : y.getD k 0 < 4294967296 := getD_lt (by decide) hy k
    repeat' (first | (apply G.cV (g := 149) (vs := [.slice b y.length d, .int .i64 k]); rfl; rfl; exact fun w hw => at_holds b y d k w (by omega) hy (hB.below hw.below)) | (apply G.subK; rfl; rfl; exact e1; rfl; rfl; rfl) | (apply G.subK; rfl; rfl; exact e2; rfl; rfl; rfl) | (apply G.convK; rfl; exact e3; rfl; rfl; rfl) | (apply G.shrK (n := 63); rfl; rfl; rfl; exact e4; rfl; rfl; rfl) | (apply G.sliceL; rfl; rfl; rfl; rfl; rfl; rfl; rfl; rfl; intro Bs) | (apply G.ap; rfl; rfl; rfl; (repeat (first | exact RAt.head | apply RAt.tail)); exact SrcV.blk (by exact mm) rfl rfl; exact flat1 lmV o t; omega; omega; intro v2) | (apply G.pu; rfl; rfl; first | exact trivial | omega) | (apply J.ct; rfl) | (apply G.nil; rfl) | (apply G.cm; rfl; rfl; all_goals intro h; all_goals try (exfalso; omega)) | (apply G.fa; rfl; rfl) | (apply G.ld; rfl; (first | (apply LdV.one; (first | exact CellV.row0 (by assumption) rfl | exact CellV.rowS (by assumption) rfl | exact CellV.rowSS (by assumption) rfl | (apply CellV.blk; exact mm; rfl))) | (apply LdV.aggBlk; exact mm; rfl) | (apply LdV.part; exact mm; rfl; rfl) | (apply LdV.aggRow; assumption; rfl) | (apply LdV.partRow; assumption; rfl; rfl)); rfl) | (apply G.sk; rfl) | (apply G.ls; rfl; rfl) | (apply G.ix; rfl; rfl; rfl; omega; rfl) | (apply G.ix; rfl; rfl; (first | exact sub_one _ | exact add_one' _); omega; rfl) | (apply G.lt; rfl; rfl) | (apply G.bu; rfl; rfl; rfl) | (apply G.fd; rfl; rfl; rfl) | (apply G.cv; rfl; rfl; rfl; omega) | (apply G.beq; rfl; rfl; rfl) | (apply G.bne; rfl; rfl; rfl) | (apply G.mm; rfl; rfl) | (apply G.mf; rfl; rfl) | (apply G.mx; rfl; rfl; rfl) | (apply G.mn; rfl; rfl; rfl) | (apply G.bx; rfl; rfl; rfl; intro Bk) | (apply G.al; rfl; intro Bk) | (apply G.so; rfl; rfl; (repeat (first | exact RAt.head | apply RAt.tail)); rfl; rfl) | (apply G.ss; rfl; rfl; (repeat (first | exact RAt.head | apply RAt.tail)); rfl; rfl) | (apply J.regQ; exact Tryz.mixed; decide +kernel) | (apply J.regL; exact Tryz.mixed; decide +kernel) | apply J.reg)
    exact J.fin (ih (k + 1, v', v2, o ++ [t]) ⟨by dsimp only; omega, e5, by simp [h3], e6, e7⟩ (by dsimp only; omega))
  · have h6 : o.length = x.length := by omega
    subst h3
    rw [h6, List.take_length] at h5
    apply J.ownForm (i := 0) rfl
    intro a2 c2 hu
    subst hu
    all_goals (refine go ?_; and_intros <;> (try exact trivial) <;> repeat (first | refine fun (Bk : Nat) => ?_ | intro h))
    repeat' ((first | (apply G.cV (g := 127); rfl; rfl; exact fun w hw => trimO_holds hw (by exact mm) (by omega))) <;> (refine go ?_; and_intros <;> (try exact trivial) <;> repeat (first | refine fun (Bk : Nat) => ?_ | intro h)))
    (refine ret1 Tryz.func125 Tryz.results125 ?_; intro w' hw)
    exact retL_own hw (by exact mm) h4 (minus_end (by decide) hx h4 h6 hle2 h5)
theorem zero_lm (n : Nat) : flat (fun x : List Value => x) (List.replicate n [.int .u32 0]) = flat lmV (List.replicate n 0) := by
  simp only [flat, List.map_replicate]; rfl
theorem vL_zero (b : Nat) : ∀ n, vL b (List.replicate n 0) = 0
  | 0 => rfl
  | n + 1 => by rw [List.replicate_succ, vL, vL_zero b n]; simp
/-- The end of a function that hands back the digits of a block, trimmed. -/
theorem retL_blk {w0 w : World} {M : List Row} {E g tot n : Nat} {l : List Nat} (hw : Sat w0 M w) (hm : Row.blk g E (flat lmV l) tot ∈ M) (hl : ∀ d ∈ l, d < B32) (hv : vL B32 l = n) :
    trimL l = dgs B32 n ∧ SlAt w (some ⟨g, 0, none⟩) 1 ((dgs B32 n).map lmV) ∧ (∀ p, some (⟨g, 0, none⟩ : Addr) = some p → w0.heap.size ≤ p.block) := by
  have hs := SlAt.ofBlk (f := lmV) (sz := 1) lmV_len hw hm
  have ht : trimL l = dgs B32 n := by rw [trimL_eq (by decide) l hl, hv]
  have hpre : ∀ i, i < (dgs B32 n).length → (dgs B32 n)[i]? = l[i]? := by
    have : trimL l <+: l := trimL_pre l
    rw [ht] at this
    obtain ⟨r, hr⟩ := this
    intro i hi
    rw [← hr, List.getElem?_append_left hi]
  refine ⟨ht, fun h0 => ?_, fun p hp => ?_⟩
  · have hlen : (dgs B32 n).length ≤ l.length := by rw [← ht]; exact trimL_le l
    simp only [List.length_map] at h0
    obtain ⟨b, off, h1, h2⟩ := hs (by simp only [List.length_map]; omega)
    refine ⟨b, off, h1, fun i cs hi => h2 i cs ?_⟩
    rw [List.getElem?_map] at hi ⊢
    obtain ⟨y, hy, rfl⟩ := Option.map_eq_some_iff.1 hi
    rw [← hpre i (List.getElem?_eq_some_iff.1 hy).1, hy]; rfl
  · cases hp
    exact ((hw.old _ hm).2 g rfl).1
theorem trimB_holds {w0 w : World} {M : List Row} {E g c tot n : Nat} {l : List Nat} (hw : Sat w0 M w) (hm : Row.blk g E (flat lmV l) tot ∈ M) (hn : l.length = n) (hc : n ≤ c) (hl : n ≤ 9223372036854775807) :
    Calls Tryz.prog 127 #[.slice (some ⟨g, 0, none⟩) n c] w fun e w' => e = .returned (.slice (some ⟨g, 0, none⟩) (trimL l).length c) ∧ Below w.heap.size w w' := by
  subst hn
  exact trim_holds _ l c w hc hl (SlAt.ofBlk lmV_len hw hm)
theorem lm_get {p : List Nat} {j : Nat} (h : j < p.length) : (flat lmV p)[0 + j * 1]? = some (.int .u32 ((p.getD j 0 : Nat) : Int)) := by
  refine flat_get1 lmV_len h ?_
  rw [List.getD_eq_getElem?_getD, List.getElem?_eq_getElem h]; rfl
theorem lm_set {p : List Nat} {j d : Nat} (h : j < p.length) : setL (flat lmV p) (0 + j * 1) [.int .u32 (d : Int)] = flat lmV (p.set j d) := flat_set1 lmV_len h rfl
theorem set_lt {b : Nat} {p : List Nat} {j d : Nat} (h : ∀ x ∈ p, x < b) (hd : d < b) : ∀ x ∈ p.set j d, x < b := fun x hx => by
  rcases List.mem_or_eq_of_mem_set hx with h1 | h1
  · exact h x h1
  · rw [h1]; exact hd
theorem times_val {b : Nat} {o y : List Nat} {a i c z : Nat} (hb : 2 ≤ b) (hl : vL b o + b ^ (i + (y.length + 1)) * c = z + a * b ^ i * vL b y) (hz : z < b ^ (i + y.length)) (ha : a < b) (hy : ∀ d ∈ y, d < b) : c = 0 := by
  have h1 := vL_lt (b := b) (by omega) y hy
  have h2 : a * b ^ i * vL b y ≤ (b - 1) * (b ^ i * b ^ y.length) := by
    rw [Nat.mul_assoc]; exact Nat.mul_le_mul (by omega) (Nat.mul_le_mul_left _ (by omega))
  rw [← Nat.pow_add] at h2
  have h3 : b ^ (i + (y.length + 1)) = b * b ^ (i + y.length) := by rw [← Nat.add_assoc, Nat.pow_succ, Nat.mul_comm]
  rw [h3] at hl
  clear h3
  obtain ⟨m, rfl⟩ : ∃ m, b = m + 1 := ⟨b - 1, by omega⟩
  rw [Nat.add_sub_cancel] at h2
  rcases Nat.eq_zero_or_pos c with h | h
  · exact h
  · have h4 : (m + 1) * (m + 1) ^ (i + y.length) * 1 ≤ (m + 1) * (m + 1) ^ (i + y.length) * c := Nat.mul_le_mul_left _ h
    have h5 : (m + 1) * (m + 1) ^ (i + y.length) = m * (m + 1) ^ (i + y.length) + (m + 1) ^ (i + y.length) := by rw [Nat.add_mul, Nat.one_mul]
    omega
theorem times_holds (a : Option Addr) (m c : Nat) (b : Option Addr) (n d : Nat) (w : World) (hl : (dgs B32 m).length ≤ 1073741824) (hm : (dgs B32 n).length ≤ 1073741824) (hA : SlAt w a 1 ((dgs B32 m).map lmV)) (hB : SlAt w b 1 ((dgs B32 n).map lmV)) :
    Calls Tryz.prog 122 #[.slice a (dgs B32 m).length c, .slice b (dgs B32 n).length d] w (RetL (m * n) w) := by
  have hx := dgs_lt (b := B32) (by decide) m
  have hy := dgs_lt (b := B32) (by decide) n
  rw [show m * n = vL B32 (dgs B32 m) * vL B32 (dgs B32 n) by rw [vL_dgs (by decide), vL_dgs (by decide)]]
  generalize dgs B32 m = x at *
  generalize dgs B32 n = y at *
  refine enterA [(0, .slice a x.length c), (1, .slice b y.length d)] Tryz.func122 Tryz.ntmps122 ?_
  all_goals (refine go ?_; and_intros <;> (try exact trivial) <;> repeat (first | refine fun (Bk : Nat) => ?_ | intro h))
  repeat' ((first | (apply G.make (n := x.length + y.length + 1) [.int .u32 0]; rfl; rfl; rfl; rfl; rfl; omega; omega; rfl; omega; omega; intro Bk; rw [zero_lm])) <;> (refine go ?_; and_intros <;> (try exact trivial) <;> repeat (first | refine fun (Bk : Nat) => ?_ | intro h)))
  have hX : SlAt w a 1 (x.map lmV) := hA
  refine J.loop (c := _) ((0, List.replicate (x.length + y.length + 1) 0) : Nat × List Nat) (fun s => x.length - s.1) (fun s => [(1, .slice b y.length d), (5, .slice (some ⟨Bk, 0, none⟩) (x.length + y.length + 1) (x.length + y.length + 1)), (18, .slice a x.length c), (19, .int .i64 x.length), (20, .int .i64 s.1)]) (fun s => [.blk Bk 144 (flat lmV s.2) ((x.length + y.length + 1) * 1)]) (fun s => s.1 ≤ x.length ∧ s.2.length = x.length + y.length + 1 ∧ (∀ d ∈ s.2, d < B32) ∧ vL B32 s.2 = vL B32 (x.take s.1) * vL B32 y) ?_ sbT sbL ?_
  · exact ⟨Nat.zero_le _, by simp, fun d hd => by rw [List.eq_of_mem_replicate hd]; decide, by rw [vL_zero]; simp [vL]⟩
  intro ⟨i, o⟩ ⟨h1, h2, h3, h4⟩ ih
  dsimp only at h1 h2 h3 h4 ⊢
  by_cases hi : i < x.length
  · obtain ⟨ba, oa, rfl, hrow⟩ := lm_at hA hi
    all_goals (refine go ?_; and_intros <;> (try exact trivial) <;> repeat (first | refine fun (Bk : Nat) => ?_ | intro h))
    generalize hav : x.getD i 0 = av
    have hav2 : av < B32 := by rw [← hav]; exact getD_lt (by decide) hx i
    have hz : vL B32 o < B32 ^ (i + y.length) := by
      rw [h4, Nat.pow_add]
      have e1 := vL_lt (b := B32) (by decide) (x.take i) fun d hd => hx d (List.mem_of_mem_take hd)
      have e2 := vL_lt (b := B32) (by decide) y hy
      rw [List.length_take, Nat.min_eq_left (by omega)] at e1
      exact Nat.mul_lt_mul'' e1 e2
    have hstep : ∀ (p : List Nat) (k v : Nat), p.length = x.length + y.length + 1 → (∀ d ∈ p, d < B32) → v < B32 → k ≤ y.length → vL B32 p + B32 ^ (i + k) * v = vL B32 o + av * B32 ^ i * vL B32 (y.take k) →
        ∃ pr t v' : Nat, pr = av * y.getD k 0 ∧ pr + p.getD (i + k) 0 + v = t ∧ t < 18446744073709551616 ∧ v' = t / B32 ∧ v' < B32 ∧ pr < 18446744073709551616 ∧ y.getD k 0 < 4294967296 ∧ p.getD (i + k) 0 < 4294967296 ∧ vL B32 (p.set (i + k) (t % B32)) + B32 ^ (i + (k + 1)) * v' = vL B32 o + av * B32 ^ i * vL B32 (y.take (k + 1)) := by
      intro p k v p1 p2 p3 p4 p5
      have g1 := getD_lt (by decide) hy k
      have g2 := getD_lt (by decide) p2 (i + k)
      have g3 := times_small hav2 g1 g2 p3
      have g4 : av * y.getD k 0 ≤ (B32 - 1) * (B32 - 1) := Nat.mul_le_mul (by omega) (by omega)
      have g5 : B32 = 4294967296 := rfl
      have g6 : (B32 - 1) * (B32 - 1) = 18446744065119617025 := rfl
      exact ⟨_, _, _, rfl, rfl, by omega, rfl, g3, by omega, by omega, by omega, times_step (by omega) p5⟩
    refine J.loop (c := _) ((0, 0, o) : Nat × Nat × List Nat) (fun s => y.length + 1 - s.1) (fun s => [(1, .slice b y.length d), (5, .slice (some ⟨Bk, 0, none⟩) (x.length + y.length + 1) (x.length + y.length + 1)), (6, .int .i64 i), (7, .int .u32 av), (8, .int .u64 (s.2.1 : Int)), (9, .int .i64 s.1), (18, .slice (some ⟨ba, oa, none⟩) x.length c), (19, .int .i64 x.length), (20, .int .i64 i)]) (fun s => [.blk Bk 144 (flat lmV s.2.2) ((x.length + y.length + 1) * 1)]) (fun s => s.1 ≤ y.length + 1 ∧ s.2.1 < B32 ∧ s.2.2.length = x.length + y.length + 1 ∧ (∀ d ∈ s.2.2, d < B32) ∧ vL B32 s.2.2 + B32 ^ (i + s.1) * s.2.1 = vL B32 o + av * B32 ^ i * vL B32 (y.take s.1)) ?_ sbT sbL ?_
    · exact ⟨Nat.zero_le _, (by decide : 0 < B32), h2, h3, by simp [vL]⟩
    intro ⟨k, v, p⟩ ⟨j1, j2, j3, j4, j5⟩ ih2
    dsimp only at j1 j2 j3 j4 j5 ⊢
    have hfin : y.length ≤ k → v = 0 → vL B32 p = vL B32 (x.take (i + 1)) * vL B32 y := by
      intro q1 q2
      rw [q2, List.take_of_length_le q1, h4] at j5
      rw [vL_take_succ, hav, Nat.add_mul, Nat.mul_comm (B32 ^ i) av]
      omega
    have hz2 : k = y.length + 1 → v = 0 := by
      intro q1
      subst q1
      rw [List.take_of_length_le (by omega)] at j5
      exact times_val (by decide) j5 hz hav2 hy
    by_cases hgo : k ≤ y.length ∧ (k < y.length ∨ 0 < v)
    · obtain ⟨hk, hgo⟩ := hgo
      obtain ⟨pr, t, v', e1, e2, e3, e4, e5, e6, e7, e8, e9⟩ := hstep p k v j3 j4 j2 hk j5
      have m1 : IntKind.u64.wrap ((av : Int) * (y.getD k 0 : Nat)) = (pr : Int) := by
        rw [wrap_u64, ← Int.natCast_mul, ← e1]; omega
      have c1 : IntKind.u32.wrap ((pr : Int) + (p.getD (i + k) 0 : Nat) + (v : Nat)) = ((t % B32 : Nat) : Int) := by rw [← u32_of, ← e2]; congr 1
      have c2 : ((pr : Int) + (p.getD (i + k) 0 : Nat) + (v : Nat)).fdiv (2 ^ (min 32 IntKind.u64.bits)) = (v' : Int) := by rw [e4, ← u64_shr, ← e2]; congr 1
      have q1 := lm_get (p := p) (j := i + k) (by omega)
      have q2 := lm_set (p := p) (j := i + k) (d := t % B32) (by omega)
      have hav3 : av < 4294967296 := hav2
      have l9 : (flat lmV p).length = p.length := by rw [flat_len lmV_len, Nat.mul_one]
      repeat' (first | (apply G.cV (g := 149) (vs := [.slice b y.length d, .int .i64 k]); rfl; rfl; exact fun w hw => at_holds b y d k w (by omega) hy (hB.below hw.below)) | (apply G.mulK; rfl; rfl; exact m1; rfl; rfl; rfl) | (apply G.convK; rfl; exact c1; rfl; rfl; rfl) | (apply G.shrK (n := 32); rfl; rfl; rfl; exact c2; rfl; rfl; rfl) | (apply G.ix (i := i + k); rfl; rfl; omega; omega; rfl) | (apply G.ld; rfl; (apply LdV.one; exact CellV.blk (by exact mm) q1); rfl) | (apply G.s1; rfl; rfl; rfl; (repeat (first | exact RAt.head | apply RAt.tail)); exact ⟨rfl, rfl⟩; omega; exact q2) | (apply G.pu; rfl; rfl; first | exact trivial | omega) | (apply J.ct; rfl) | (apply G.nil; rfl) | (apply G.cm; rfl; rfl; all_goals intro h; all_goals try (exfalso; omega)) | (apply G.fa; rfl; rfl) | (apply G.ld; rfl; (first | (apply LdV.one; (first | exact CellV.row0 (by assumption) rfl | exact CellV.rowS (by assumption) rfl | exact CellV.rowSS (by assumption) rfl | (apply CellV.blk; exact mm; rfl))) | (apply LdV.aggBlk; exact mm; rfl) | (apply LdV.part; exact mm; rfl; rfl) | (apply LdV.aggRow; assumption; rfl) | (apply LdV.partRow; assumption; rfl; rfl)); rfl) | (apply G.sk; rfl) | (apply G.ls; rfl; rfl) | (apply G.ix; rfl; rfl; rfl; omega; rfl) | (apply G.ix; rfl; rfl; (first | exact sub_one _ | exact add_one' _); omega; rfl) | (apply G.lt; rfl; rfl) | (apply G.bu; rfl; rfl; rfl) | (apply G.fd; rfl; rfl; rfl) | (apply G.cv; rfl; rfl; rfl; omega) | (apply G.beq; rfl; rfl; rfl) | (apply G.bne; rfl; rfl; rfl) | (apply G.mm; rfl; rfl) | (apply G.mf; rfl; rfl) | (apply G.mx; rfl; rfl; rfl) | (apply G.mn; rfl; rfl; rfl) | (apply G.bx; rfl; rfl; rfl; intro Bk) | (apply G.al; rfl; intro Bk) | (apply G.so; rfl; rfl; (repeat (first | exact RAt.head | apply RAt.tail)); rfl; rfl) | (apply G.ss; rfl; rfl; (repeat (first | exact RAt.head | apply RAt.tail)); rfl; rfl) | (apply J.regQ; exact Tryz.mixed; decide +kernel) | (apply J.regL; exact Tryz.mixed; decide +kernel) | apply J.reg)
      all_goals (refine J.fin (ih2 (k + 1, v', p.set (i + k) (t % B32)) ⟨by dsimp only; omega, e5, by simp [j3], set_lt j4 (Nat.mod_lt _ (by decide)), e9⟩ (by dsimp only; omega)))
    · have hv : v = 0 := by omega
      subst hv
      all_goals (refine go ?_; and_intros <;> (try exact trivial) <;> repeat (first | refine fun (Bk : Nat) => ?_ | intro h))
      exact J.fin (ih (i + 1, p) ⟨by dsimp only; omega, j3, j4, hfin (by omega) rfl⟩ (by dsimp only; omega))
  · have h6 : i = x.length := by omega
    subst h6
    rw [List.take_length] at h4
    all_goals (refine go ?_; and_intros <;> (try exact trivial) <;> repeat (first | refine fun (Bk : Nat) => ?_ | intro h))
    repeat' ((first | (apply G.cV (g := 127); rfl; rfl; exact fun w hw => trimB_holds hw (by exact mm) (by assumption) (by omega) (by omega))) <;> (refine go ?_; and_intros <;> (try exact trivial) <;> repeat (first | refine fun (Bk : Nat) => ?_ | intro h)))
    (refine ret1 Tryz.func122 Tryz.results122 ?_; intro w' hw)
    obtain ⟨q1, q2, q3⟩ := retL_blk hw (by exact mm) h3 h4
    rw [q1]
    exact ⟨_, _, rfl, q2, q3, hw.below⟩
theorem drop_set_succ {A : Type} {l : List A} {i : Nat} {d : A} (h : i < l.length) : (l.set i d).drop i = d :: l.drop (i + 1) := by
  rw [List.drop_eq_getElem_cons (by simpa using h), List.getElem_set_self, List.drop_set_of_lt (by omega)]
theorem small_holds (a : Option Addr) (m c dv : Nat) (w : World) (hl : (dgs B32 m).length ≤ 1073741824) (hA : SlAt w a 1 ((dgs B32 m).map lmV)) (hd0 : 0 < dv) (hd1 : dv < 4294967296) :
    Calls Tryz.prog 126 #[.slice a (dgs B32 m).length c, .int .u32 dv] w fun e w' => ∃ a' c', e = .returned (.tuple #[.slice a' (dgs B32 (m / dv)).length c', .int .u32 ((m % dv : Nat) : Int)]) ∧ SlAt w' a' 1 ((dgs B32 (m / dv)).map lmV) ∧ (∀ p, a' = some p → w.heap.size ≤ p.block) ∧ Below w.heap.size w w' := by
  have hx := dgs_lt (b := B32) (by decide) m
  have hv : vL B32 (dgs B32 m) = m := vL_dgs (by decide) m
  generalize dgs B32 m = x at *
  refine enterA [(0, .slice a x.length c), (1, .int .u32 dv)] Tryz.func126 Tryz.ntmps126 ?_
  all_goals (refine go ?_; and_intros <;> (try exact trivial) <;> repeat (first | refine fun (Bk : Nat) => ?_ | intro h))
  repeat' ((first | (apply G.make (n := x.length) [.int .u32 0]; rfl; rfl; rfl; rfl; rfl; omega; omega; rfl; omega; omega; intro Bk; rw [zero_lm])) <;> (refine go ?_; and_intros <;> (try exact trivial) <;> repeat (first | refine fun (Bk : Nat) => ?_ | intro h)))
  refine J.loop (c := _) ((x.length, (x.length : Int) - 1, 0, List.replicate x.length 0) : Nat × Int × Nat × List Nat) (fun s => s.1) (fun s => [(0, .slice a x.length c), (1, .int .u32 dv), (6, .slice (some ⟨Bk, 0, none⟩) x.length x.length), (7, .int .u64 (s.2.2.1 : Int)), (8, .int .i64 s.2.1)]) (fun s => [.blk Bk 144 (flat lmV s.2.2.2) (x.length * 1)]) (fun s => s.1 ≤ x.length ∧ s.2.1 = (s.1 : Int) - 1 ∧ s.2.2.1 < dv ∧ s.2.2.2.length = x.length ∧ (∀ d ∈ s.2.2.2, d < B32) ∧ dv * vL B32 (s.2.2.2.drop s.1) + s.2.2.1 = vL B32 (x.drop s.1)) ?_ sbT sbL ?_
  · exact ⟨Nat.le_refl _, rfl, hd0, by simp, fun d hd => by rw [List.eq_of_mem_replicate hd]; decide, by simp [vL]⟩
  intro ⟨n, z, r, o⟩ ⟨h1, h2, h3, h4, h5, h6⟩ ih
  dsimp only at h1 h2 h3 h4 h5 h6 ⊢
  rcases Nat.eq_zero_or_pos n with rfl | h0
  · rw [List.drop_zero, List.drop_zero, hv] at h6
    have hq : vL B32 o = m / dv := by
      rw [← h6, Nat.add_comm, Nat.add_mul_div_left _ _ hd0, Nat.div_eq_of_lt h3, Nat.zero_add]
    have hr : m % dv = r := by rw [← h6, Nat.add_comm, Nat.add_mul_mod_self_left, Nat.mod_eq_of_lt h3]
    all_goals (refine go ?_; and_intros <;> (try exact trivial) <;> repeat (first | refine fun (Bk : Nat) => ?_ | intro h))
    repeat' ((first | (apply G.cV (g := 127); rfl; rfl; exact fun w hw => trimB_holds hw (by exact mm) (by assumption) (by omega) (by omega))) <;> (refine go ?_; and_intros <;> (try exact trivial) <;> repeat (first | refine fun (Bk : Nat) => ?_ | intro h)))
    (refine ret2 Tryz.func126 Tryz.results126 ?_; intro w' hw)
    obtain ⟨q1, q2, q3⟩ := retL_blk hw (by exact mm) h5 hq
    rw [q1, hr]
    exact ⟨_, _, rfl, q2, q3, hw.below⟩
  · obtain ⟨i, rfl⟩ : ∃ i, n = i + 1 := ⟨n - 1, by omega⟩
    have hzi : z = (i : Int) := by omega
    subst hzi
    obtain ⟨ba, oa, rfl, hrow⟩ := lm_at hA (k := i) (by omega)
    have hxi : x.getD i 0 < 4294967296 := getD_lt (by decide) hx i
    have hst := small_step (b := B32) h3 hxi h6 (vL_drop_succ (b := B32) (x := x) (k := i) (by omega))
    have hor := or32 (a := r) (b := x.getD i 0) hxi (by omega)
    have hsh : IntKind.u64.wrap ((r : Int) * 2 ^ (min 32 IntKind.u64.bits)) = ((r * 4294967296 : Nat) : Int) := by
      have e0 : (2 : Int) ^ (min 32 IntKind.u64.bits) = 4294967296 := rfl
      rw [e0, wrap_u64]; omega
    obtain ⟨A, hA2⟩ : ∃ A, A = r * 4294967296 + x.getD i 0 := ⟨_, rfl⟩
    rw [← hA2] at hor
    rw [show r * B32 + x.getD i 0 = A from hA2.symm] at hst
    obtain ⟨q, hq⟩ : ∃ q, q = A / dv := ⟨_, rfl⟩
    obtain ⟨r', hr'⟩ : ∃ r', r' = A % dv := ⟨_, rfl⟩
    rw [← hq, ← hr'] at hst
    obtain ⟨f1, f2, f3⟩ := hst
    have f0 : q < 4294967296 := f1
    have d1 : IntKind.u64.wrap ((A : Int).tdiv dv) = (q : Int) := by
      rw [Int.tdiv_eq_ediv_of_nonneg (by omega), ← Int.natCast_ediv, ← hq, wrap_u64]; omega
    have d2 : (A : Int).tmod dv = (r' : Int) := by
      rw [Int.tmod_eq_emod_of_nonneg (by omega), ← Int.natCast_emod, ← hr']
    have q2 := lm_set (p := o) (j := i) (d := q) (by omega)
    have l9 : (flat lmV o).length = o.length := by rw [flat_len lmV_len, Nat.mul_one]
    have hb0 : (dv : Int) ≠ 0 := by omega
    repeat' (first | (apply J.regW 0 (.q 0 <| .q 1 <| .q 2 <| .q 3 <| .q 4 <| .q 5 <| .q 6 <| .q 7 <| .q 8 <| .q 9 <| .q 10 <| .q 11 <| .e 12 <| .q 13 <| .nil); exact Tryz.mixed; decide +kernel) | (apply G.shlK (n := 32); rfl; rfl; rfl; exact hsh; rfl; rfl; rfl) | (apply G.orK; rfl; rfl; exact hor; rfl; rfl; rfl) | (apply G.quoK; rfl; rfl; exact hb0; exact d1; rfl; rfl; rfl) | (apply G.remK; rfl; rfl; exact hb0; exact d2; rfl; rfl; rfl) | (apply G.s1w; rfl; rfl; rfl; exact ⟨rfl, rfl⟩; omega; exact q2) | (apply G.pu; rfl; rfl; first | exact trivial | omega) | (apply J.ct; rfl) | (apply G.nil; rfl) | (apply G.cm; rfl; rfl; all_goals intro h; all_goals try (exfalso; omega)) | (apply G.fa; rfl; rfl) | (apply G.ld; rfl; (first | (apply LdV.one; (first | exact CellV.row0 (by assumption) rfl | exact CellV.rowS (by assumption) rfl | exact CellV.rowSS (by assumption) rfl | (apply CellV.blk; exact mm; rfl))) | (apply LdV.aggBlk; exact mm; rfl) | (apply LdV.part; exact mm; rfl; rfl) | (apply LdV.aggRow; assumption; rfl) | (apply LdV.partRow; assumption; rfl; rfl)); rfl) | (apply G.sk; rfl) | (apply G.ls; rfl; rfl) | (apply G.ix; rfl; rfl; rfl; omega; rfl) | (apply G.ix; rfl; rfl; (first | exact sub_one _ | exact add_one' _); omega; rfl) | (apply G.lt; rfl; rfl) | (apply G.bu; rfl; rfl; rfl) | (apply G.fd; rfl; rfl; rfl) | (apply G.cv; rfl; rfl; rfl; omega) | (apply G.beq; rfl; rfl; rfl) | (apply G.bne; rfl; rfl; rfl) | (apply G.mm; rfl; rfl) | (apply G.mf; rfl; rfl) | (apply G.mx; rfl; rfl; rfl) | (apply G.mn; rfl; rfl; rfl) | (apply G.bx; rfl; rfl; rfl; intro Bk) | (apply G.al; rfl; intro Bk) | (apply G.so; rfl; rfl; (repeat (first | exact RAt.head | apply RAt.tail)); rfl; rfl) | (apply G.ss; rfl; rfl; (repeat (first | exact RAt.head | apply RAt.tail)); rfl; rfl) | (apply J.regQ; exact Tryz.mixed; decide +kernel) | (apply J.regL; exact Tryz.mixed; decide +kernel) | apply J.reg)
    exact J.fin (ih (i, (i : Int) - 1, r', o.set i q) ⟨by dsimp only; omega, rfl, f2, by simp [h4], set_lt h5 f1, by dsimp only; rw [drop_set_succ (by omega), vL]; exact f3⟩ (by dsimp only; omega))
theorem dgs_one {d : Nat} (h0 : 0 < d) (h1 : d < B32) : dgs B32 d = [d] := by
  rw [dgs_pos (by decide) (by omega), Nat.mod_eq_of_lt h1, Nat.div_eq_of_lt h1, dgs_zero]
theorem shl_holds (a : Option Addr) (m c k : Nat) (w : World) (hl : (dgs B32 m).length ≤ 1073741824) (hA : SlAt w a 1 ((dgs B32 m).map lmV)) (hk : k ≤ 31) :
    Calls Tryz.prog 128 #[.slice a (dgs B32 m).length c, .int .i64 k] w (RetL (m * 2 ^ k) w) := by
  have hp0 : 0 < 2 ^ k := Nat.two_pow_pos k
  have hp1 : 2 ^ k < B32 := Nat.lt_of_le_of_lt (Nat.pow_le_pow_right (by omega) hk) (by decide)
  have hsh : IntKind.u32.wrap ((1 : Int) * 2 ^ (min k IntKind.u32.bits)) = ((2 ^ k : Nat) : Int) := by
    have e0 : min k IntKind.u32.bits = k := Nat.min_eq_left (show k ≤ 32 by omega)
    have e1 : (2 : Int) ^ k = ((2 ^ k : Nat) : Int) := by simp
    have e2 : 2 ^ k < 4294967296 := hp1
    rw [e0, Int.one_mul, e1, wrap_u32]; omega
  have hd := dgs_one hp0 hp1
  generalize 2 ^ k = p at *
  have hlen : (dgs B32 p).length = 1 := by rw [hd]; rfl
  have htm := fun (g : Nat) (w' : World) (hw : Below w.heap.size w w') (hB : SlAt w' (some ⟨g, 0, none⟩) 1 ((dgs B32 p).map lmV)) => times_holds a m c (some ⟨g, 0, none⟩) p 1 w' hl (by omega) (hA.below hw) hB
  rw [hlen, hd] at htm
  generalize dgs B32 m = x at *
  refine enterA [(0, .slice a x.length c), (1, .int .i64 k)] Tryz.func128 Tryz.ntmps128 ?_
  repeat' (first | (apply G.shlK (n := k); rfl; rfl; rfl; exact hsh; rfl; rfl; rfl) | (apply G.sliceL; rfl; rfl; rfl; rfl; rfl; rfl; rfl; rfl; intro Bs) | (apply G.cN (g := 122) (fun a' c' => .slice a' (dgs B32 (m * p)).length c') ((dgs B32 (m * p)).map lmV); rfl; rfl; exact fun w' hw => htm _ w' hw.below (SlAt.ofBlk (l := [p]) lmV_len hw (by exact mm)); intro a2 c2 hp2 hp3) | (apply G.pu; rfl; rfl; first | exact trivial | omega) | (apply J.ct; rfl) | (apply G.nil; rfl) | (apply G.cm; rfl; rfl; all_goals intro h; all_goals try (exfalso; omega)) | (apply G.fa; rfl; rfl) | (apply G.ld; rfl; (first | (apply LdV.one; (first | exact CellV.row0 (by assumption) rfl | exact CellV.rowS (by assumption) rfl | exact CellV.rowSS (by assumption) rfl | (apply CellV.blk; exact mm; rfl))) | (apply LdV.aggBlk; exact mm; rfl) | (apply LdV.part; exact mm; rfl; rfl) | (apply LdV.aggRow; assumption; rfl) | (apply LdV.partRow; assumption; rfl; rfl)); rfl) | (apply G.sk; rfl) | (apply G.ls; rfl; rfl) | (apply G.ix; rfl; rfl; rfl; omega; rfl) | (apply G.ix; rfl; rfl; (first | exact sub_one _ | exact add_one' _); omega; rfl) | (apply G.lt; rfl; rfl) | (apply G.bu; rfl; rfl; rfl) | (apply G.fd; rfl; rfl; rfl) | (apply G.cv; rfl; rfl; rfl; omega) | (apply G.beq; rfl; rfl; rfl) | (apply G.bne; rfl; rfl; rfl) | (apply G.mm; rfl; rfl) | (apply G.mf; rfl; rfl) | (apply G.mx; rfl; rfl; rfl) | (apply G.mn; rfl; rfl; rfl) | (apply G.bx; rfl; rfl; rfl; intro Bk) | (apply G.al; rfl; intro Bk) | (apply G.so; rfl; rfl; (repeat (first | exact RAt.head | apply RAt.tail)); rfl; rfl) | (apply G.ss; rfl; rfl; (repeat (first | exact RAt.head | apply RAt.tail)); rfl; rfl) | (apply J.regQ; exact Tryz.mixed; decide +kernel) | (apply J.regL; exact Tryz.mixed; decide +kernel) | apply J.reg)
  (refine ret1 Tryz.func128 Tryz.results128 ?_; intro w' hw)
  exact ⟨a2, c2, rfl, hw.sl (by exact mm), hp3, hw.below⟩
theorem shr_holds (a : Option Addr) (m c k : Nat) (w : World) (hl : (dgs B32 m).length ≤ 1073741824) (hA : SlAt w a 1 ((dgs B32 m).map lmV)) (h0 : 0 < k) (hk : k ≤ 31) :
    Calls Tryz.prog 128 #[.slice a (dgs B32 m).length c, .int .i64 (-(k : Int))] w (RetL (m / 2 ^ k) w) := by
  have hp0 : 0 < 2 ^ k := Nat.two_pow_pos k
  have hp1 : 2 ^ k < 4294967296 := Nat.lt_of_le_of_lt (Nat.pow_le_pow_right (by omega) hk) (by decide)
  have hsh : IntKind.u32.wrap ((1 : Int) * 2 ^ (min k IntKind.u32.bits)) = ((2 ^ k : Nat) : Int) := by
    have e0 : min k IntKind.u32.bits = k := Nat.min_eq_left (show k ≤ 32 by omega)
    have e1 : (2 : Int) ^ k = ((2 ^ k : Nat) : Int) := by simp
    rw [e0, Int.one_mul, e1, wrap_u32]; omega
  generalize 2 ^ k = p at *
  have hsm := fun (w' : World) (hw : Below w.heap.size w w') => small_holds a m c p w' hl (hA.below hw) hp0 hp1
  generalize dgs B32 m = x at *
  refine enterA [(0, .slice a x.length c), (1, .int .i64 (-(k : Int)))] Tryz.func128 Tryz.ntmps128 ?_
  repeat' (first | (apply G.shlK (n := k); rfl; rfl; omega; exact hsh; rfl; rfl; rfl) | (apply G.cN (g := 126) (fun a' c' => .tuple #[.slice a' (dgs B32 (m / p)).length c', .int .u32 ((m % p : Nat) : Int)]) ((dgs B32 (m / p)).map lmV); rfl; rfl; exact fun w' hw => hsm w' hw.below; intro a2 c2 hp2 hp3) | (apply G.pu; rfl; rfl; first | exact trivial | omega) | (apply J.ct; rfl) | (apply G.nil; rfl) | (apply G.cm; rfl; rfl; all_goals intro h; all_goals try (exfalso; omega)) | (apply G.fa; rfl; rfl) | (apply G.ld; rfl; (first | (apply LdV.one; (first | exact CellV.row0 (by assumption) rfl | exact CellV.rowS (by assumption) rfl | exact CellV.rowSS (by assumption) rfl | (apply CellV.blk; exact mm; rfl))) | (apply LdV.aggBlk; exact mm; rfl) | (apply LdV.part; exact mm; rfl; rfl) | (apply LdV.aggRow; assumption; rfl) | (apply LdV.partRow; assumption; rfl; rfl)); rfl) | (apply G.sk; rfl) | (apply G.ls; rfl; rfl) | (apply G.ix; rfl; rfl; rfl; omega; rfl) | (apply G.ix; rfl; rfl; (first | exact sub_one _ | exact add_one' _); omega; rfl) | (apply G.lt; rfl; rfl) | (apply G.bu; rfl; rfl; rfl) | (apply G.fd; rfl; rfl; rfl) | (apply G.cv; rfl; rfl; rfl; omega) | (apply G.beq; rfl; rfl; rfl) | (apply G.bne; rfl; rfl; rfl) | (apply G.mm; rfl; rfl) | (apply G.mf; rfl; rfl) | (apply G.mx; rfl; rfl; rfl) | (apply G.mn; rfl; rfl; rfl) | (apply G.bx; rfl; rfl; rfl; intro Bk) | (apply G.al; rfl; intro Bk) | (apply G.so; rfl; rfl; (repeat (first | exact RAt.head | apply RAt.tail)); rfl; rfl) | (apply G.ss; rfl; rfl; (repeat (first | exact RAt.head | apply RAt.tail)); rfl; rfl) | (apply J.regQ; exact Tryz.mixed; decide +kernel) | (apply J.regL; exact Tryz.mixed; decide +kernel) | apply J.reg)
  (refine ret1 Tryz.func128 Tryz.results128 ?_; intro w' hw)
  exact ⟨a2, c2, rfl, hw.sl (by exact mm), hp3, hw.below⟩
end Go.Proofs.YteaccaieaigeaaaGreatDoor
