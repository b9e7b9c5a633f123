/-
  Contract of the law's mixed histories.
-/
import Derived.Test.YthkdfpbjkpgckaaGreatDoorN8
set_option linter.unusedVariables false
set_option linter.unusedSimpArgs false
set_option linter.unusedSectionVars false
namespace Go.Proofs.YthkdfpbjkpgckaaGreatDoor
open Go.RowKit Go.Sl Go.Num
def u8V (n : Nat) : List Value := [.int .u8 n]
theorem isAll (l : List Int) : (flat isV l).all (·.oneCell') = true := by
  refine List.all_eq_true.2 fun v hv => ?_
  obtain ⟨cs, hcs, hv⟩ := List.mem_flatten.1 hv
  obtain ⟨x, _, rfl⟩ := List.mem_map.1 hcs
  rw [List.mem_singleton.1 hv]; rfl
theorem isLen (l : List Int) : (flat isV l).length = l.length := by rw [flat_len isV_len, Nat.mul_one]
theorem rn_pos {rs : List Rn} (hE : runsErr rs = 0) : ∀ k (hk : k < rs.length), ∃ b n : Nat, rs[k].from_ = firstF rs + b ∧ rs[k].to_ = firstF rs + b + n ∧ 0 < n ∧ b + n ≤ (firstS rs).length := fun k hk => by
  have ⟨_, k5, _⟩ := runsErr_ok hE
  have hch : Chn (firstF rs) rs := chn_of (p := none) (runsErr_rn hE)
  have h1 := chn_in (by omega) hch k5 k hk
  have h2 := firstS_end rs (firstF rs) (by omega) hch k5 (runsErr_one hE)
  exact ⟨(rs[k].from_ - firstF rs).toNat, (rs[k].to_ - rs[k].from_).toNat, by omega, by omega, by omega, by omega⟩
theorem first_ne {rs : List Rn} (h : 0 < (firstS rs).length) : 0 < rs.length := by
  cases rs with
  | nil => exact absurd h (Nat.lt_irrefl _)
  | cons r t => exact Nat.zero_lt_succ _
theorem first_agrA {rs : List Rn} (hE : runsErr rs = 0) : AgrA (firstF rs) (firstS rs) rs := by
  have ⟨_, k5, _⟩ := runsErr_ok hE
  have hch : Chn (firstF rs) rs := chn_of (p := none) (runsErr_rn hE)
  exact first_agr (d := 0) (by rw [Int.natCast_zero, Int.add_zero]; exact hch) k5 (runsErr_one hE) List.drop_zero
set_option maxHeartbeats 4000000 in
theorem mixed_holds (a t : Option Addr) (rs : List Rn) (ts : List Nat) (c d : Nat) (w : World) (hA : RunsAt w a rs) (hT : SlAt w t 1 (ts.map u8V)) (hu : ∀ x ∈ ts, x ≤ 255) (hfr : ∀ r ∈ rs, r.tab.length ≤ 64) (hE : runsErr rs = 0) (hn : rs.length ≤ 400) :
    Calls Tryz.prog 36 #[.slice a rs.length c, .slice t ts.length d] w fun e w' => ∃ S : List Int, (AgrA (firstF rs) S rs ∧ S.length = (firstS rs).length) ∧ RetO Tryz.prog w 3 1 S.length (flat isV S) (fun u => .tuple #[.agg #[.int .i64 (firstF rs), u], .bool true]) e w' := by
  have hfi := fun w' (hb : Below w.heap.size w w') => vFirst_holds a rs c w' (hA.below hb) hfr hE hn
  have hag := first_agrA hE
  rcases Nat.eq_zero_or_pos (firstS rs).length with h0 | h0
  · have e0 := List.length_eq_zero_iff.1 h0
    simp only [e0, List.length_nil] at hfi hag ⊢
    generalize firstF rs = F0 at *
    refine enterA [(0, .slice a rs.length c), (1, .slice t ts.length d)] Tryz.func36 Tryz.ntmps36 ?_
    all_goals (refine go ?_; and_intros <;> (try exact trivial) <;> intros)
    repeat' ((first | (apply G.cO (g := 74) (fun u => .tuple #[.agg #[.int .i64 F0, u], .int .i64 0]); rfl; rfl; exact fun w' hw => hfi w' hw.below; intro u; refine G.ownForm' RAt.au ?_; intro a1 c1 hv; subst hv)) <;> (refine go ?_; and_intros <;> (try exact trivial) <;> intros))
    (refine ret2 Tryz.func36 Tryz.results36 ?_; intro w' hw)
    exact ⟨[], ⟨hag, rfl⟩, hw.retO (i := 1) rfl (fun u => .tuple #[.agg #[.int .i64 F0, u], .bool true])⟩
  have hpos := rn_pos hE
  have hR := first_ne h0
  have hf0 := firstF_at hR
  have ⟨_, k5, _⟩ := runsErr_ok hE
  have k6 := runsErr_one hE
  have hch : Chn (firstF rs) rs := chn_of (p := none) (runsErr_rn hE)
  clear hE
  generalize firstF rs = F0 at *
  generalize hS : firstS rs = S0 at *
  clear hS
  obtain ⟨ba, oa, rfl, hra⟩ := SlAt.all hA.1 (by omega)
  have hr0 := hra 0 hR
  dsimp only [rnV] at hr0
  rw [← hf0] at hr0
  refine enterA [(0, .slice (some ⟨ba, oa, none⟩) rs.length c), (1, .slice t ts.length d)] Tryz.func36 Tryz.ntmps36 ?_
  all_goals (refine go ?_; and_intros <;> (try exact trivial) <;> intros)
  repeat' ((first | (apply G.cO (g := 74) (fun u => .tuple #[.agg #[.int .i64 F0, u], .int .i64 0]); rfl; rfl; exact fun w' hw => hfi w' hw.below; intro u; refine G.ownForm' RAt.au ?_; intro a1 c1 hv; subst hv) | (apply G.ix (i := 0); rfl; rfl; exact rfl; omega; rfl)) <;> (refine go ?_; and_intros <;> (try exact trivial) <;> intros))
  refine J.ownOpen RAt.au (by omega) ?_
  intro g p hg hp hv
  cases hv
  clear hr0 hfi
  refine J.loop (c := _) ((0, S0) : Nat × List Int) (fun s => rs.length - s.1) (fun s => [(1, .slice t ts.length d), (4, .pointer (some ⟨_, 0, none⟩)), (6, .pointer (some ⟨_, 0, none⟩)), (8, .int .i64 F0), (38, .slice (some ⟨ba, oa, none⟩) rs.length c), (39, .int .i64 rs.length), (40, .int .i64 s.1)]) (fun s => [.blk _ 24 [.int .i64 F0, .slice (some ⟨g, 0, none⟩) S0.length c1] 2, .blk g 3 (flat isV s.2) (c1 * 1), .blk _ 24 [.int .i64 0, .slice none 0 0] 2]) (fun s => s.1 ≤ rs.length ∧ s.2.length = S0.length ∧ AgrA F0 s.2 rs) ?_ sbT sbL ?_
  · exact ⟨Nat.zero_le _, rfl, hag⟩
  clear hag
  intro ⟨k, S⟩ ⟨h1, h2, h3⟩ ih
  dsimp only at h1 h2 h3 ⊢
  by_cases hk : k < rs.length
  · rcases Nat.eq_zero_or_pos ts.length with ht | ht
    · rw [← h2] at hg ⊢
      clear ih
      have hrk := hra k hk
      generalize rs[k] = r at *
      obtain ⟨fr, to, tab, adr, cap, lo, hi⟩ := r
      dsimp only [rnV] at hrk
      all_goals (refine go ?_; and_intros <;> (try exact trivial) <;> intros)
      refine J.blkCut (g := g) (l' := S) S.length isV_len RAt.au (by omega) hp (Nat.le_refl _) List.take_length ?_
      all_goals (refine go ?_; and_intros <;> (try exact trivial) <;> intros)
      (refine ret2 Tryz.func36 Tryz.results36 ?_; intro w' hw)
      first | exact ⟨S, ⟨h3, rfl⟩, hw.retO (i := 1) rfl (fun u => .tuple #[.agg #[.int .i64 F0, u], .bool true])⟩ | exact ⟨S, ⟨h3, rfl⟩, hw.retO (i := 2) rfl (fun u => .tuple #[.agg #[.int .i64 F0, u], .bool true])⟩
    have hrk := hra k hk
    obtain ⟨b, n, r1, r2, r3, r4⟩ := hpos k hk
    have hone := k6 _ (List.getElem_mem hk)
    have hput := fun (S : List Int) (hS : S.length = S0.length) (h : AgrA F0 S rs) i v (hi : i < n) h0 hv => AgrA.put (b := b) (n := n) (i := i) (v := v) hch k5 hk r1 (by omega) (by omega) h hi h0 hv
    have hswp := fun (S : List Int) (hS : S.length = S0.length) (h : AgrA F0 S rs) i j (hi : i < n) (hj : j < n) h0 => AgrA.swap (b := b) (n := n) (i := i) (j := j) hch k5 hk r1 (by omega) (by omega) h hi hj h0
    have hin := k5 _ (List.getElem_mem hk)
    have hin0 := k5 _ (List.getElem_mem hR)
    rw [inT, decide_eq_true_eq] at hin hin0
    rw [← hf0] at hin0
    have hgp := fun (e : rs[k].tab.length = 0) => oneE_gap hone e
    have ih' := fun (S : List Int) h1 h2 => ih (k + 1, S) ⟨hk, h1, h2⟩ (by dsimp only; omega)
    clear hra hpos hone k6 k5 hch ih hf0
    generalize rs[k] = r at *
    obtain ⟨fr, to, tab, adr, cap, lo, hi_⟩ := r
    dsimp only [rnV] at *
    subst r1 r2
    all_goals (refine go ?_; and_intros <;> (try exact trivial) <;> intros)
    rw [show (F0 + b + n - (F0 + b) : Int) = n by omega]
    all_goals (refine go ?_; and_intros <;> (try exact trivial) <;> intros)
    repeat' ((first | (apply G.slE; rfl; intro B) | (apply G.slp (l := b) (h := b + n) (off := b) (len := n); rfl; rfl; rfl; omega; omega; omega; omega; omega; (show 0 + b * 1 = b); omega; omega; rfl) | (apply G.apV; rfl; rfl; rfl; (repeat (first | exact RAt.head | apply RAt.tail)); exact SrcV.mid (n := n) (by exact mm) (by rw [isLen]; omega) (isAll S); rfl; omega; omega; intro a2 c2)) <;> (refine go ?_; and_intros <;> (try exact trivial) <;> intros))
    simp only [Nat.zero_add]
    refine J.loop (c := _) ((0, S) : Nat × List Int) (fun s => n - s.1) (fun s => [(1, .slice t ts.length d), (4, .pointer (some ⟨_, 0, none⟩)), (6, .pointer (some ⟨_, 0, none⟩)), (8, .int .i64 F0), (9, .int .i64 k), (10, .pointer (some ⟨_, 0, none⟩)), (11, .int .i64 n), (38, .slice (some ⟨ba, oa, none⟩) rs.length c), (39, .int .i64 rs.length), (40, .int .i64 k), (67, .int .i64 n), (68, .int .i64 s.1)]) (fun s => [.blk _ 28 [.int .i64 (F0 + b), .int .i64 (F0 + b + n), .slice adr tab.length cap, .int .i64 lo, .int .i64 hi_] 5, .blk _ 24 [.int .i64 F0, .slice (some ⟨g, 0, none⟩) S0.length c1] 2, .blk g 3 (flat isV s.2) (c1 * 1), .blk _ 24 [.int .i64 0, .slice none 0 0] 2]) (fun s => s.1 ≤ n ∧ s.2.length = S0.length ∧ AgrA F0 s.2 rs) ?_ sbT sbL ?_
    · exact ⟨Nat.zero_le _, h2, h3⟩
    intro ⟨i, S⟩ ⟨h1, h2, h3⟩ ih
    dsimp only at h1 h2 h3 ⊢
    by_cases hi : i < n
    · obtain ⟨bt, ot, rfl, hrt⟩ := SlAt.all hT (by omega)
      have hmt := Nat.mod_lt (k + i) ht
      have hrz := hrt _ hmt
      have hmz := hu _ (List.getElem_mem hmt)
      have hmod : ((k : Int) + i) % (ts.length : Int) = (((k + i) % ts.length : Nat) : Int) := by rw [Int.natCast_emod]; rfl
      have lS : (flat isV S).length = S0.length := by rw [isLen, h2]
      have hx : b + i < S.length := by omega
      have ih2 := fun (S : List Int) h1 h2 => ih (i + 1, S) ⟨hi, h1, h2⟩ (by dsimp only; omega)
      clear hrt hu ih ih'
      generalize ts[(k + i) % ts.length] = z at *
      dsimp only [u8V] at hrz
      generalize (k + i) % ts.length = m at *
      by_cases htab : tab.length = 0
      · obtain ⟨gp1, gp2, gp3⟩ := hgp htab
        have hz2 : (z % 2 = 0 ∧ ((z : Int) % 2) = 0) ∨ (z % 2 = 1 ∧ ((z : Int) % 2) = 1) := by omega
        have hp1 := hput S h2 h3 i lo hi htab (.inl rfl)
        have hp2 := hput S h2 h3 i hi_ hi htab (.inr rfl)
        have q1 := is_set (v := lo) hx
        have q2 := is_set (v := hi_) hx
        clear hput hswp hgp
        rcases hz2 with ⟨_, hz2⟩ | ⟨_, hz2⟩
        · skip
          all_goals (refine goR ?_; and_intros <;> (try exact trivial) <;> intros)
          repeat' ((first | (apply J.regA (.q 0 <| .q 1 <| .q 2 <| .q 3 <| .q 4 <| .q 5 <| .q 6 <| .q 7 <| .q 8 <| .q 9 <| .q 10 <| .q 11 <| .q 13 <| .q 14 <| .e 12 <| .q 15 <| .q 16 <| .q 17 <| .r 18 <| .nil); exact Tryz.mixed; decide +kernel) | (apply G.sliceL; rfl; rfl; rfl; rfl; rfl; rfl; rfl; rfl; intro Bs) | (apply G.ix (i := m); rfl; rfl; exact hmod; omega; rfl) | (apply G.ix (i := 0); rfl; rfl; exact hz2; omega; rfl) | (apply G.ix (i := b + i); rfl; rfl; omega; omega; rfl) | (apply G.s1; rfl; rfl; rfl; (repeat (first | exact RAt.head | apply RAt.tail)); exact ⟨rfl, rfl⟩; (rw [lS]; omega); exact q1) | (apply J.regQ; exact Tryz.mixed; decide +kernel) | (apply J.regL'; exact Tryz.mixed; decide +kernel)) <;> (refine goR ?_; and_intros <;> (try exact trivial) <;> intros))
          exact J.fin (ih2 (S.set (b + i) lo) (by rw [List.length_set]; exact h2) hp1)
        · skip
          all_goals (refine goR ?_; and_intros <;> (try exact trivial) <;> intros)
          repeat' ((first | (apply J.regA (.q 0 <| .q 1 <| .q 2 <| .q 3 <| .q 4 <| .q 5 <| .q 6 <| .q 7 <| .q 8 <| .q 9 <| .q 10 <| .q 11 <| .q 13 <| .q 14 <| .e 12 <| .q 15 <| .q 16 <| .q 17 <| .r 18 <| .nil); exact Tryz.mixed; decide +kernel) | (apply G.sliceL; rfl; rfl; rfl; rfl; rfl; rfl; rfl; rfl; intro Bs) | (apply G.ix (i := m); rfl; rfl; exact hmod; omega; rfl) | (apply G.ix (i := 1); rfl; rfl; exact hz2; omega; rfl) | (apply G.ix (i := b + i); rfl; rfl; omega; omega; rfl) | (apply G.s1; rfl; rfl; rfl; (repeat (first | exact RAt.head | apply RAt.tail)); exact ⟨rfl, rfl⟩; (rw [lS]; omega); exact q2) | (apply J.regQ; exact Tryz.mixed; decide +kernel) | (apply J.regL'; exact Tryz.mixed; decide +kernel)) <;> (refine goR ?_; and_intros <;> (try exact trivial) <;> intros))
          exact J.fin (ih2 (S.set (b + i) hi_) (by rw [List.length_set]; exact h2) hp2)
      · have hjn := Nat.mod_lt z r3
        have hjm : ((z : Int) % (n : Int)) = ((z % n : Nat) : Int) := by rw [Int.natCast_emod]
        have hsw := hswp S h2 h3 i (z % n) hi hjn htab
        clear hput hswp hgp
        generalize z % n = jj at *
        have hy : b + jj < S.length := by omega
        have q1 := is_get hx
        have q2 := is_get hy
        have q3 := is_set (v := S[b + jj]) hx
        have q4 := is_set (v := S[b + i]) (p := S.set (b + i) S[b + jj]) (j := b + jj) (by rw [List.length_set]; exact hy)
        have ih3 := ih2 _ (by rw [List.length_set, List.length_set]; exact h2) hsw
        have lS2 : (flat isV (S.set (b + i) S[b + jj])).length = S0.length := by rw [isLen, List.length_set, h2]
        clear hsw ih2
        generalize S[b + i] = u at *
        generalize S[b + jj] = v at *
        all_goals (refine goR ?_; and_intros <;> (try exact trivial) <;> intros)
        repeat' ((first | (apply J.regX 2 [3, 4] (.q 0 <| .q 1 <| .q 2 <| .q 3 <| .q 4 <| .q 5 <| .q 6 <| .q 7 <| .q 8 <| .q 9 <| .q 10 <| .q 11 <| .q 12 <| .q 13 <| .q 14 <| .q 15 <| .q 16 <| .e 17 <| .q 18 <| .e 19 <| .nil); exact Tryz.mixed; decide +kernel) | (apply G.ix (i := m); rfl; rfl; exact hmod; omega; rfl) | (apply G.ix (i := b + i); rfl; rfl; omega; omega; rfl) | (apply G.ix (i := b + jj); rfl; rfl; omega; omega; rfl) | (apply G.ld; rfl; (apply LdV.one; exact CellV.blk (by exact mm) q1); rfl) | (apply G.ld; rfl; (apply LdV.one; exact CellV.blk (by exact mm) q2); rfl) | (apply G.s1n (n := 2); rfl; rfl; rfl; exact rfl; exact ⟨rfl, rfl⟩; (rw [lS]; omega); exact q3) | (apply G.s1n (n := 2); rfl; rfl; rfl; exact rfl; exact ⟨rfl, rfl⟩; (rw [lS2]; omega); exact q4) | (apply J.regQ; exact Tryz.mixed; decide +kernel) | (apply J.regL'; exact Tryz.mixed; decide +kernel)) <;> (refine goR ?_; and_intros <;> (try exact trivial) <;> intros))
        exact J.fin ih3
    · obtain rfl : i = n := by omega
      clear ih
      all_goals (refine go ?_; and_intros <;> (try exact trivial) <;> intros)
      exact J.fin (ih' S h2 h3)
  · rw [← h2] at hg ⊢
    clear ih
    all_goals (refine go ?_; and_intros <;> (try exact trivial) <;> intros)
    refine J.blkCut (g := g) (l' := S) S.length isV_len RAt.au (by omega) hp (Nat.le_refl _) List.take_length ?_
    all_goals (refine go ?_; and_intros <;> (try exact trivial) <;> intros)
    (refine ret2 Tryz.func36 Tryz.results36 ?_; intro w' hw)
    first | exact ⟨S, ⟨h3, rfl⟩, hw.retO (i := 1) rfl (fun u => .tuple #[.agg #[.int .i64 F0, u], .bool true])⟩ | exact ⟨S, ⟨h3, rfl⟩, hw.retO (i := 2) rfl (fun u => .tuple #[.agg #[.int .i64 F0, u], .bool true])⟩
end Go.Proofs.YthkdfpbjkpgckaaGreatDoor
namespace Go.Proofs.YthkdfpbjkpgckaaGreatDoor
open Go.RowKit Go.Sl Go.Num
/-- The stages in a stretch stand in another order. -/
def PermIn (b n : Nat) (S S' : List Int) : Prop := S'.length = S.length ∧ (segL S' b n).Perm (segL S b n) ∧ ∀ x, (x < b ∨ b + n ≤ x) → S'[x]? = S[x]?
theorem PermIn.rfl {b n : Nat} {S : List Int} : PermIn b n S S := ⟨_root_.rfl, .refl _, fun _ _ => _root_.rfl⟩
theorem PermIn.trans {b n : Nat} {S S' T : List Int} (h : PermIn b n S S') (k : PermIn b n S' T) : PermIn b n S T := ⟨k.1.trans h.1, k.2.1.trans h.2.1, fun x hx => (k.2.2 x hx).trans (h.2.2 x hx)⟩
def swp (S : List Int) (x y : Nat) : List Int := (S.set x (S.getD y 0)).set y (S.getD x 0)
theorem swp_len (S : List Int) (x y : Nat) : (swp S x y).length = S.length := by rw [swp, List.length_set, List.length_set]
theorem getD_eq {S : List Int} {x : Nat} (h : x < S.length) : S.getD x 0 = S[x] := by rw [List.getD_eq_getElem?_getD, List.getElem?_eq_getElem h]; rfl
theorem swp_eq {S : List Int} {x y : Nat} (hx : x < S.length) (hy : y < S.length) : swp S x y = (S.set x S[y]).set y S[x] := by rw [swp, getD_eq hx, getD_eq hy]
theorem PermIn.swp {b n i j : Nat} {S : List Int} (hS : b + n ≤ S.length) (hi : i < n) (hj : j < n) : PermIn b n S (swp S (b + i) (b + j)) := by
  rw [swp_eq (by omega) (by omega)]
  refine ⟨by rw [List.length_set, List.length_set], ?_, fun x hx => ?_⟩
  · rw [segL_in (by omega), segL_in (by omega), show b + i - b = i by omega, show b + j - b = j by omega, ← segL_get hS hi, ← segL_get hS hj]
    exact swap_perm _ i j (by rw [segL_len hS]; exact hi) (by rw [segL_len hS]; exact hj)
  · rw [List.getElem?_set_ne (by omega), List.getElem?_set_ne (by omega)]
theorem swp_fst {S : List Int} {x y : Nat} (hx : x < S.length) (hy : y < S.length) : (swp S x y).getD x 0 = S.getD y 0 := by
  rw [getD_eq (by rw [swp_len]; exact hx), getD_eq hy]
  simp only [swp_eq hx hy, List.getElem_set]
  split
  · rename_i h; subst h; rfl
  · rfl
theorem swp_oth {S : List Int} {x y z : Nat} (hx : x < S.length) (hy : y < S.length) (h1 : z ≠ x) (h2 : z ≠ y) : (swp S x y).getD z 0 = S.getD z 0 := by
  rw [swp_eq hx hy, List.getD_eq_getElem?_getD, List.getElem?_set_ne (by omega), List.getElem?_set_ne (by omega), List.getD_eq_getElem?_getD]
theorem AgrA.permIn {f : Int} {S S' : List Int} {rs : List Rn} (hc : Chn f rs) (hT : ∀ r ∈ rs, inT r = true) {b n k : Nat} (hk : k < rs.length) (hb : rs[k].from_ = f + b) (hn : rs[k].to_ = f + b + n) (h : AgrA f S rs) (h0 : rs[k].tab.length ≠ 0) (hp : PermIn b n S S') : AgrA f S' rs := fun z hz => by
  have hseg : ∀ p m : Nat, (p + m ≤ b ∨ b + n ≤ p) → segL S' p m = segL S p m := fun p m hpm => by
    apply List.ext_getElem?
    intro i
    rw [segL, segL, List.getElem?_take, List.getElem?_take]
    split
    · rw [List.getElem?_drop, List.getElem?_drop]; exact hp.2.2 _ (by omega)
    · rfl
  rcases Nat.lt_trichotomy z k with hlt | rfl | hlt
  · have := chn_lt hc hT z k hlt hk
    have hin := hT _ (List.getElem_mem hz)
    rw [inT, decide_eq_true_eq] at hin
    rw [hseg _ _ (by omega)]; exact h z hz
  · have h1 := h z hz
    rw [AgrP, if_neg h0] at h1 ⊢
    rw [show (rs[z].from_ - f).toNat = b by omega, show (rs[z].to_ - rs[z].from_).toNat = n by omega] at h1 ⊢
    exact hp.2.1.trans h1
  · have := chn_lt hc hT k z hlt hz
    have hin := hT _ (List.getElem_mem hk)
    rw [inT, decide_eq_true_eq] at hin
    rw [hseg _ _ (by omega)]; exact h z hz
theorem segL_getD {S : List Int} {p n i : Nat} (h : p + n ≤ S.length) (hi : i < n) : S.getD (p + i) 0 = (segL S p n)[i]'(by rw [segL_len h]; exact hi) := by
  rw [getD_eq (by omega), segL_get h hi]
/-- What the exchange brings about. -/
def Brt (b n i j : Nat) (s t : Int) (S : List Int) (bb : Bool) (S' : List Int) : Prop :=
  PermIn b n S S' ∧ (bb = true → S'.getD (b + i) 0 = s ∧ S'.getD (b + j) 0 = t) ∧ (s ∈ segL S b n → t ∈ segL S b n → s ≠ t → bb = true)
theorem get_sw {S : List Int} {b i : Nat} (h : b + i < S.length) : (flat isV S)[b + i * 1]? = some (.int .i64 (S.getD (b + i) 0)) := by rw [getD_eq h, show b + i * 1 = 0 + (b + i) * 1 by omega]; exact is_get h
theorem set_sw {S : List Int} {b i : Nat} {v : Int} (h : b + i < S.length) : setL (flat isV S) (b + i * 1) [.int .i64 v] = flat isV (S.set (b + i) v) := by rw [show b + i * 1 = 0 + (b + i) * 1 by omega]; exact is_set h
set_option maxHeartbeats 4000000 in
theorem brought_holds (w0 : World) (M : List Row) (w : World) (g b n cp tot i j : Nat) (s t : Int) (S : List Int) (hw : Sat w0 (.blk g 3 (flat isV S) tot :: M) w) (hS : b + n ≤ S.length) (hl : S.length ≤ 1000000) (hi : i < n) (hj : j < n) (hij : i ≠ j) :
    Calls Tryz.prog 75 #[.slice (some ⟨g, b, none⟩) n cp, .int .i64 i, .int .i64 j, .int .i64 s, .int .i64 t] w fun e w' => ∃ (bb : Bool) (S' : List Int), e = .returned (.bool bb) ∧ Brt b n i j s t S bb S' ∧ Sat w0 (.blk g 3 (flat isV S') tot :: M) w' := by
  have hix : ∀ w', Sat w0 (.blk g 3 (flat isV S) tot :: M) w' → Calls Tryz.prog 111 #[.slice (some ⟨g, b, none⟩) n cp, .int .i64 s] w' fun e w'' => e = .returned (.int .i64 (idxI (segL S b n) fun y => decide (s = y))) ∧ Below w'.heap.size w' w'' := fun w' hw' => by
    have := index_holds (some ⟨g, b, none⟩) (segL S b n) cp s w' (SlAt.part isV_len hw' (List.mem_cons_self ..) hS) (by rw [segL_len hS]; omega)
    rwa [segL_len hS] at this
  have hsl := segL_len hS
  have hI : (idxI (segL S b n) (fun y => decide (s = y)) = -1 ∧ s ∉ segL S b n) ∨ ∃ a : Nat, a < n ∧ idxI (segL S b n) (fun y => decide (s = y)) = a ∧ S.getD (b + a) 0 = s := by
    rw [idxI]
    by_cases h : (segL S b n).findIdx (fun y => decide (s = y)) < (segL S b n).length
    · rw [if_pos h]
      refine .inr ⟨_, by omega, rfl, ?_⟩
      have := List.findIdx_getElem (w := h)
      rw [segL_getD hS (by omega)]
      exact (of_decide_eq_true this).symm
    · rw [if_neg h]
      refine .inl ⟨rfl, fun hm => h (List.findIdx_lt_length.2 ⟨s, hm, decide_eq_true rfl⟩)⟩
  generalize idxI (segL S b n) (fun y => decide (s = y)) = I at *
  rcases hI with ⟨rfl, hI⟩ | ⟨a, ha, rfl, hI⟩
  · refine enterR [(0, .slice (some ⟨g, b, none⟩) n cp), (1, .int .i64 i), (2, .int .i64 j), (3, .int .i64 s), (4, .int .i64 t)] hw Tryz.func75 Tryz.ntmps75 ?_
    all_goals (refine go ?_; and_intros <;> (try exact trivial) <;> intros)
    repeat' ((first | (apply G.cV (g := 111); rfl; rfl; exact hix)) <;> (refine go ?_; and_intros <;> (try exact trivial) <;> intros))
    (refine ret1 Tryz.func75 Tryz.results75 ?_; intro w' hw)
    exact ⟨false, S, rfl, ⟨.rfl, fun h => by (cases h), fun h => absurd h hI⟩, hw⟩
  have e1 : b + i < S.length := by omega
  have e2 : b + a < S.length := by omega
  have lS : (flat isV S).length = S.length := isLen S
  have lS2 : (flat isV (S.set (b + i) (S.getD (b + a) 0))).length = S.length := by rw [isLen, List.length_set]
  have q1 := get_sw e1
  have q2 := get_sw e2
  have q3 := set_sw (v := S.getD (b + a) 0) e1
  have q4 := set_sw (v := S.getD (b + i) 0) (S := S.set (b + i) (S.getD (b + a) 0)) (b := b) (i := a) (by rw [List.length_set]; exact e2)
  have k1 := PermIn.swp hS hi ha
  have k2 := (swp_fst e1 e2).trans hI
  have k3 := swp_len S (b + i) (b + a)
  rw [show (S.set (b + i) (S.getD (b + a) 0)).set (b + a) (S.getD (b + i) 0) = swp S (b + i) (b + a) from rfl] at q4
  generalize hS1 : swp S (b + i) (b + a) = S1 at *
  generalize S.getD (b + a) 0 = va at *
  generalize S.getD (b + i) 0 = vi at *
  refine enterR [(0, .slice (some ⟨g, b, none⟩) n cp), (1, .int .i64 i), (2, .int .i64 j), (3, .int .i64 s), (4, .int .i64 t)] hw Tryz.func75 Tryz.ntmps75 ?_
  all_goals (refine goR ?_; and_intros <;> (try exact trivial) <;> intros)
  repeat' ((first | (apply G.cV (g := 111); rfl; rfl; exact hix) | (apply J.regA (.q 0 <| .q 1 <| .q 2 <| .q 3 <| .q 4 <| .q 5 <| .q 6 <| .q 7 <| .q 8 <| .q 9 <| .q 10 <| .q 11 <| .q 12 <| .r 13 <| .q 14 <| .r 15 <| .nil); exact Tryz.mixed; decide +kernel) | (apply G.ix (i := i); rfl; rfl; exact rfl; omega; rfl) | (apply G.ix (i := a); rfl; rfl; exact rfl; omega; rfl) | (apply G.ld; rfl; (apply LdV.one; exact CellV.blk (by exact mm) q1); rfl) | (apply G.ld; rfl; (apply LdV.one; exact CellV.blk (by exact mm) q2); rfl) | (apply G.s1; rfl; rfl; rfl; (repeat (first | exact RAt.head | apply RAt.tail)); exact ⟨rfl, rfl⟩; (rw [lS]; omega); exact q3) | (apply G.s1; rfl; rfl; rfl; (repeat (first | exact RAt.head | apply RAt.tail)); exact ⟨rfl, rfl⟩; (rw [lS2]; omega); exact q4) | (apply J.regQ; exact Tryz.mixed; decide +kernel) | (apply J.regL'; exact Tryz.mixed; decide +kernel)) <;> (refine goR ?_; and_intros <;> (try exact trivial) <;> intros))
  have lS1 : (flat isV S1).length = S.length := by rw [isLen, k3]
  clear q1 q2 q3 q4 hix lS lS2
  refine J.loop (c := _) (0 : Nat) (fun s_ => n - s_) (fun s_ => [(0, .slice (some ⟨g, b, none⟩) n cp), (1, .int .i64 i), (2, .int .i64 j), (4, .int .i64 t), (33, .int .i64 n), (34, .int .i64 s_)]) (fun s_ => .blk g 3 (flat isV S1) tot :: M) (fun s_ => s_ ≤ n ∧ ∀ k, k < s_ → k ≠ i → S1.getD (b + k) 0 ≠ t) ?_ sbT sbL ?_
  · exact ⟨Nat.zero_le _, fun k h => absurd h (Nat.not_lt_zero _)⟩
  intro k ⟨h1, h2⟩ ih
  by_cases hk : k < n
  · have e3 : b + k < S1.length := by omega
    have e4 : b + j < S1.length := by omega
    have q1 := get_sw e3
    have q2 := get_sw e4
    by_cases hki : k = i
    · subst hki
      have ih' := ih (k + 1) ⟨hk, fun x hx hxi => h2 x (by omega) hxi⟩ (by omega)
      clear ih q1 q2
      all_goals (refine go ?_; and_intros <;> (try exact trivial) <;> intros)
      exact J.fin ih'
    by_cases hkt : S1.getD (b + k) 0 = t
    · have k4 := PermIn.swp (S := S1) (b := b) (n := n) (i := j) (j := k) (by omega) hj hk
      have k5 := (swp_fst e4 e3).trans hkt
      have k6 := (swp_oth (z := b + i) e4 e3 (by omega) (by omega)).trans k2
      have q3 := set_sw (v := S1.getD (b + k) 0) e4
      have q4 := set_sw (v := S1.getD (b + j) 0) (S := S1.set (b + j) (S1.getD (b + k) 0)) (b := b) (i := k) (by rw [List.length_set]; exact e3)
      rw [show (S1.set (b + j) (S1.getD (b + k) 0)).set (b + k) (S1.getD (b + j) 0) = swp S1 (b + j) (b + k) from rfl] at q4
      have lS2 : (flat isV (S1.set (b + j) (S1.getD (b + k) 0))).length = S.length := by rw [isLen, List.length_set, k3]
      have lS := lS1
      generalize swp S1 (b + j) (b + k) = S2 at *
      generalize S1.getD (b + k) 0 = vk at *
      generalize S1.getD (b + j) 0 = vj at *
      clear ih h2
      all_goals (refine goR ?_; and_intros <;> (try exact trivial) <;> intros)
      repeat' ((first | (apply G.ld; rfl; (apply LdV.one; exact CellV.blk (by exact mm) q1); rfl) | (apply G.ld; rfl; (apply LdV.one; exact CellV.blk (by exact mm) q2); rfl) | (apply J.regA (.q 0 <| .q 1 <| .q 2 <| .q 3 <| .q 4 <| .q 5 <| .q 6 <| .q 7 <| .q 8 <| .q 9 <| .q 10 <| .q 11 <| .q 12 <| .r 13 <| .q 14 <| .r 15 <| .nil); exact Tryz.mixed; decide +kernel) | (apply G.ix (i := k); rfl; rfl; exact rfl; omega; rfl) | (apply G.ix (i := j); rfl; rfl; exact rfl; omega; rfl) | (apply G.s1; rfl; rfl; rfl; (repeat (first | exact RAt.head | apply RAt.tail)); exact ⟨rfl, rfl⟩; (rw [lS]; omega); exact q3) | (apply G.s1; rfl; rfl; rfl; (repeat (first | exact RAt.head | apply RAt.tail)); exact ⟨rfl, rfl⟩; (rw [lS2]; omega); exact q4) | (apply J.regQ; exact Tryz.mixed; decide +kernel) | (apply J.regL'; exact Tryz.mixed; decide +kernel)) <;> (refine goR ?_; and_intros <;> (try exact trivial) <;> intros))
      (refine ret1 Tryz.func75 Tryz.results75 ?_; intro w' hw)
      exact ⟨true, S2, rfl, ⟨k1.trans k4, fun _ => ⟨k6, k5⟩, fun _ _ _ => rfl⟩, hw.forget (by (repeat' (first | exact List.Sublist.refl _ | apply List.Sublist.cons_cons | apply List.Sublist.cons)))⟩
    · have ih' := ih (k + 1) ⟨hk, fun x hx hxi => by
        rcases Nat.lt_or_ge x k with h | h
        · exact h2 x h hxi
        · obtain rfl : x = k := by omega
          exact hkt⟩ (by omega)
      clear ih h2
      generalize S1.getD (b + k) 0 = vk at *
      all_goals (refine go ?_; and_intros <;> (try exact trivial) <;> intros)
      repeat' ((first | (apply G.ld; rfl; (apply LdV.one; exact CellV.blk (by exact mm) q1); rfl) | (apply G.ld; rfl; (apply LdV.one; exact CellV.blk (by exact mm) q2); rfl)) <;> (refine go ?_; and_intros <;> (try exact trivial) <;> intros))
      exact J.fin ih'
  · obtain rfl : k = n := by omega
    clear ih
    all_goals (refine go ?_; and_intros <;> (try exact trivial) <;> intros)
    (refine ret1 Tryz.func75 Tryz.results75 ?_; intro w' hw)
    refine ⟨false, S1, rfl, ⟨k1, fun h => by (cases h), fun h3 h4 h5 => ?_⟩, hw.forget (by (repeat' (first | exact List.Sublist.refl _ | apply List.Sublist.cons_cons | apply List.Sublist.cons)))⟩
    obtain ⟨x, hx, hxt⟩ := List.getElem_of_mem (k1.2.1.mem_iff.2 h4)
    rw [segL_len (by omega)] at hx
    rw [← segL_getD (by omega) hx] at hxt
    by_cases hxi : x = i
    · subst hxi; exact absurd (k2.symm.trans hxt) h5
    · exact absurd hxt (h2 x hx hxi)
end Go.Proofs.YthkdfpbjkpgckaaGreatDoor
namespace Go.Proofs.YthkdfpbjkpgckaaGreatDoor
open Go.RowKit Go.Sl Go.Num
theorem agr_S {rs : List Rn} {S : List Int} (hE : runsErr rs = 0) (hS : S.length = (firstS rs).length) (ha : AgrA (firstF rs) S rs) : AgrS (firstF rs) S rs := by
  have ⟨_, k5, _⟩ := runsErr_ok hE
  have hch : Chn (firstF rs) rs := chn_of (p := none) (runsErr_rn hE)
  have := AgrA.step (f0 := firstF rs) (S0 := S) (rs := rs) (d := 0) (by rw [Int.natCast_zero, Int.add_zero]; exact hch) k5 (runsErr_one hE) (by rw [Nat.zero_add]; exact hS) ha
  rwa [List.drop_zero, Int.natCast_zero, Int.add_zero] at this
theorem agr_volE {rs : List Rn} {l : List Spn} {S : List Int} (hE : runsErr rs = 0) (hs : spansErr l = 0) (ho : l.any (outX rs) = false) (hk : 0 < rs.length) (hS : S.length = (firstS rs).length) (ha : AgrA (firstF rs) S rs) : volE (firstF rs) S l = (rQ (volSum l (firstF rs) S), 0) := by
  have ⟨_, k5, k7⟩ := runsErr_ok hE
  have hch : Chn (firstF rs) rs := chn_of (p := none) (runsErr_rn hE)
  have hb := AgrS.bd (runsErr_one hE) (agr_S hE hS ha)
  have he := firstS_end rs (firstF rs) hk hch k5 (runsErr_one hE)
  have hf := firstF_at hk
  have i0 := k5 _ (List.getElem_mem hk)
  have i1 := k5 _ (List.getElem_mem (show rs.length - 1 < rs.length by omega))
  rw [inT, decide_eq_true_eq] at i0 i1
  rw [lenT, List.getElem?_eq_getElem hk, List.getElem?_eq_getElem (show rs.length - 1 < rs.length by omega)] at k7
  dsimp only at k7
  have h2 : rightH (firstF rs) S = true := by
    rw [rightH, decide_eq_true (by omega), Bool.true_and]
    have h3 : S.any badSt = false := List.any_eq_false.2 fun y hy => by rw [badSt, decide_eq_true (hb y hy)]; decide
    rw [h3]; rfl
  rw [volE, hs, if_neg (by decide), h2, if_neg (by decide), if_neg]
  intro hx
  obtain ⟨s, hs1, hs2⟩ := List.any_eq_true.1 hx
  have h1 := List.any_eq_false.1 ho s hs1
  rw [outX, List.getElem?_eq_getElem hk, List.getElem?_eq_getElem (show rs.length - 1 < rs.length by omega)] at h1
  dsimp only at h1
  rw [Bool.or_eq_true, decide_eq_true_eq, decide_eq_true_eq, not_or] at h1
  rw [outH, Bool.or_eq_true, decide_eq_true_eq, decide_eq_true_eq] at hs2
  omega
theorem first_seg {f0 : Int} {S0 : List Int} : ∀ {rs : List Rn} {d : Nat}, Chn (f0 + d) rs → (∀ r ∈ rs, inT r = true) → (∀ r ∈ rs, oneE r = 0) → S0.drop d = firstS rs → ∀ k (hk : k < rs.length), segL S0 (rs[k].from_ - f0).toNat (rs[k].to_ - rs[k].from_).toNat = stagesR rs[k]
  | [], d, _, _, _, _ => fun k hk => absurd hk (Nat.not_lt_zero _)
  | r :: t, d, hc, hT, hO, hS => by
    have h1 := hT r (List.mem_cons_self ..)
    have h2 := stagesR_len h1 (hO r (List.mem_cons_self ..))
    rw [inT, decide_eq_true_eq] at h1
    have h3 := hc.1
    have h5 : r.to_ = f0 + ((d + (stagesR r).length : Nat) : Int) := by omega
    have h6 := hc.2
    rw [h5] at h6
    rw [firstS] at hS
    have ih := first_seg (rs := t) (d := d + (stagesR r).length) h6 (fun x hx => hT x (List.mem_cons_of_mem _ hx)) (fun x hx => hO x (List.mem_cons_of_mem _ hx)) (by rw [← List.drop_drop, hS, List.drop_left])
    intro k hk
    cases k with
    | zero =>
      show segL S0 (r.from_ - f0).toNat (r.to_ - r.from_).toNat = stagesR r
      rw [segL, show (r.from_ - f0).toNat = d by omega, hS, show (r.to_ - r.from_).toNat = (stagesR r).length by omega, List.take_left]
    | succ k => exact ih k (by simpa using hk)
/-- An exchange of two stages at two ticks of a run makes no difference. -/
def NoD (l : List Spn) (f : Int) (i j : Nat) (s t : Int) : Prop := worthOf l (f + i) s + worthOf l (f + j) t = worthOf l (f + i) t + worthOf l (f + j) s
theorem vol_swp {l : List Spn} {F : Int} {S : List Int} {b i j : Nat} (hi : b + i < S.length) (hj : b + j < S.length) (hij : i ≠ j) : volSum l F (swp S (b + i) (b + j)) = volSum l F S ↔ NoD l (F + b) i j (S.getD (b + i) 0) (S.getD (b + j) 0) := by
  rw [swp_eq hi hj, volSum_swap l S F (b + i) (b + j) hi hj (by omega), NoD, getD_eq hi, getD_eq hj, show F + ((b + i : Nat) : Int) = F + b + i by omega, show F + ((b + j : Nat) : Int) = F + b + j by omega]
  constructor <;> intro h <;> grind
theorem G.brt {C : Ctx} {st : List (Nat × Value)} {M M1 : List Row} {k : List Item} {q q' : Md} {all rest : List Oper} {d : Nat} {ty : TypeId} {pos : String} {after : Array Edge} {gd : Option (Nat × Bool)} {args : List Operand} {at_ : Array TypeId} (hP : C.P = Tryz.prog)
    {g b n cp tot i j : Nat} {s t : Int} {S : List Int} (hs : sideB all st gd d C.N q.res = some q') (ha : evL st args = some [.slice (some ⟨g, b, none⟩) n cp, .int .i64 i, .int .i64 j, .int .i64 s, .int .i64 t])
    (p1 : Pick (.blk g 3 (flat isV S) tot) M M1) (hq : b + n ≤ S.length ∧ S.length ≤ 1000000 ∧ i < n ∧ j < n ∧ i ≠ j)
    (h : ∀ bb S', Brt b n i j s t S bb S' → G q' C all ((d, .bool bb) :: st) (.blk g 3 (flat isV S') tot :: M1) rest k) :
    G q C all st M ({ dst := some d, op := .call { callee := .value (.func 75), args := args.toArray, argTypes := at_ }, type := ty, pos, after, guard := gd } :: rest) k := by
  obtain ⟨P, b0, PHI, N0, w0, D⟩ := C
  dsimp only at hP; subst hP
  obtain ⟨h1, h2, h3, h4, h5⟩ := hq
  refine G.cM (X := { x : Bool × List Int // Brt b n i j s t S x.1 x.2 }) (fun x => .bool x.1.1) (fun x => .blk g 3 (flat isV x.1.2) tot :: M1) hs ha (fun w hw => ?_) fun x => h _ _ x.2
  refine (brought_holds w0 M1 w g b n cp tot i j s t S (hw.perm p1.perm) h1 h2 h3 h4 h5).mono fun e w' ⟨bb, S', e1, e2, e3⟩ => ⟨⟨(bb, S'), e2⟩, e1, e3⟩
set_option maxHeartbeats 4000000 in
theorem exch_holds (a bb : Option Addr) (rs : List Rn) (l : List Spn) (c d k : Nat) (w : World) (hA : RunsAt w a rs) (hB : SpansAt w bb l) (hf : ∀ s ∈ l, fewS s) (hfr : ∀ r ∈ rs, r.tab.length ≤ 64) (hn : rs.length ≤ 400) (hE : runsErr rs = 0) (hs : spansErr l = 0) (ho : l.any (outX rs) = false) (hL : (firstS rs).length ≤ 1000) (hk : k < rs.length) :
    Calls Tryz.prog 37 #[.slice a rs.length c, .int .i64 k, .slice bb l.length d] w fun e w' => ∃ x : Bool, e = .returned (.bool x) ∧ (badR l rs[k] → x = true) ∧ Below w.heap.size w w' := by
  have hfi := fun w' (hb : Below w.heap.size w w') => vFirst_holds a rs c w' (hA.below hb) hfr hE hn
  have hag := first_agrA hE
  have hR : 0 < rs.length := by omega
  have hval : ∀ {M : List Row} {g c1 tot : Nat} (S : List Int) w' (L : Nat), Sat w M w' → Row.blk g 3 (flat isV S) tot ∈ M → AgrA (firstF rs) S rs → (S.length = (firstS rs).length ∧ L = S.length ∧ L ≤ c1) → Calls Tryz.prog 11 #[.agg #[.int .i64 (firstF rs), .slice (some ⟨g, 0, none⟩) L c1], .slice bb l.length d] w' fun e w'' => e = .returned (.tuple #[qA (rQ (volSum l (firstF rs) S)), .int .i64 0]) ∧ Below w'.heap.size w' w'' := fun {M g c1 tot} S w' L hw hm h1 ⟨h2, h3, h4⟩ => by
    subst h3
    have := val_holds (firstF rs) (some ⟨g, 0, none⟩) bb S l c1 d w' (SlAt.ofBlk isV_len hw hm) (hB.below hw.below) hf (by omega) h4
    rw [agr_volE hE hs ho hR h2 h1] at this; exact this
  have hpos := rn_pos hE k hk
  have hf0 := firstF_at hR
  have ⟨_, k5, _⟩ := runsErr_ok hE
  have k6 := runsErr_one hE
  have hch : Chn (firstF rs) rs := chn_of (p := none) (runsErr_rn hE)
  have hin := k5 _ (List.getElem_mem hk)
  have hin0 := k5 _ (List.getElem_mem hR)
  rw [inT, decide_eq_true_eq] at hin hin0
  have hone := k6 _ (List.getElem_mem hk)
  obtain ⟨b, n, r1, r2, r3, r4⟩ := hpos
  have hput := fun (S : List Int) (hS : S.length = (firstS rs).length) (h : AgrA (firstF rs) S rs) i v (hi : i < n) h0 hv => AgrA.put (b := b) (n := n) (i := i) (v := v) hch k5 hk r1 (by omega) (by omega) h hi h0 hv
  have hprm := fun (S S' : List Int) (h : AgrA (firstF rs) S rs) h0 (hp : PermIn b n S S') => AgrA.permIn (b := b) (n := n) hch k5 hk r1 r2 h h0 hp
  have hseg0 := first_seg (f0 := firstF rs) (S0 := firstS rs) (d := 0) (by rw [Int.natCast_zero, Int.add_zero]; exact hch) k5 k6 List.drop_zero k hk
  rw [stagesR, show (rs[k].from_ - firstF rs).toNat = b by omega, show (rs[k].to_ - rs[k].from_).toNat = n by omega] at hseg0
  have hlen := hfr _ (List.getElem_mem hk)
  have htab := hA.2 _ (List.getElem_mem hk)
  obtain ⟨V, hV⟩ : ∃ V : List Int → Q3, ∀ S, V S = rQ (volSum l (firstF rs) S) := ⟨_, fun _ => rfl⟩
  simp only [← hV] at hval
  rw [← hf0] at hin0
  obtain ⟨ba, oa, rfl, hra⟩ := SlAt.all hA.1 (by omega)
  have hr0 := hra 0 hR
  have hrk := hra k hk
  dsimp only [rnV] at hr0
  rw [← hf0] at hr0
  clear hra hfr hE hs ho hB hf hf0
  generalize firstF rs = F0 at *
  generalize firstS rs = S0 at *
  generalize rs[k] = r at *
  obtain ⟨fr, to, tab, adr, cap, lo, hi_⟩ := r
  dsimp only [rnV, TabAt] at *
  subst r1 r2
  refine enterA [(0, .slice (some ⟨ba, oa, none⟩) rs.length c), (1, .int .i64 k), (2, .slice bb l.length d)] Tryz.func37 Tryz.ntmps37 ?_
  by_cases h0 : tab.length = 0
  · rw [if_pos h0] at hseg0
    have hgd : ∀ i, i < n → S0.getD (b + i) 0 = lo := fun i hi => by
      rw [segL_getD (n := n) r4 hi]
      simp only [hseg0, List.getElem_replicate]
    all_goals (refine go ?_; and_intros <;> (try exact trivial) <;> intros)
    repeat' ((first | (apply G.cO (g := 74) (fun u => .tuple #[.agg #[.int .i64 F0, u], .int .i64 0]); rfl; rfl; exact fun w' hw => hfi w' hw.below; intro u; refine G.ownOpen RAt.au (by omega) ?_; intro g c1 hg hp hv; subst hv) | (apply G.ix (i := k); rfl; rfl; exact rfl; omega; rfl) | (apply G.ix (i := 0); rfl; rfl; exact rfl; omega; rfl)) <;> (refine go ?_; and_intros <;> (try exact trivial) <;> intros))
    have hl0 : S0.length = S0.length ∧ S0.length = S0.length ∧ S0.length ≤ c1 := ⟨rfl, rfl, hg⟩
    all_goals (refine goR ?_; and_intros <;> (try exact trivial) <;> intros)
    repeat' ((first | (apply G.cV (g := 11); rfl; rfl; exact fun w' hw' => hval _ w' _ hw' (by exact mm) (by assumption) (by assumption)) | (apply J.regQ; exact Tryz.mixed; decide +kernel) | (apply J.regL'; exact Tryz.mixed; decide +kernel)) <;> (refine goR ?_; and_intros <;> (try exact trivial) <;> intros))
    refine J.loop (c := _) (0 : Nat) (fun s => n - s) (fun s => [(2, .slice bb l.length d), (7, .pointer (some ⟨_, 0, none⟩)), (8, .pointer (some ⟨_, 0, none⟩)), (10, .int .i64 (F0 + b - F0)), (11, .pointer (some ⟨_, 0, none⟩)), (12, .int .i64 0), (57, .int .i64 (F0 + b + n - (F0 + b))), (58, .int .i64 s)]) (fun s => [.blk _ 32 (qV (V S0)) 3, .blk _ 24 [.int .i64 F0, .slice (some ⟨g, 0, none⟩) S0.length c1] 2, .blk g 3 (flat isV S0) (c1 * 1), .blk _ 28 [.int .i64 (F0 + b), .int .i64 (F0 + b + n), .slice adr tab.length cap, .int .i64 lo, .int .i64 hi_] 5]) (fun s => s ≤ n ∧ ∀ x, x < s → V S0 = V (S0.set (b + x) hi_)) ?_ sbT sbL ?_
    · exact ⟨Nat.zero_le _, fun x h => absurd h (Nat.not_lt_zero _)⟩
    intro i ⟨e1, e2⟩ ih
    by_cases hi : i < n
    · have hx : b + i < S0.length := by omega
      have q3 := is_set (v := hi_) hx
      have q4 := is_set (v := lo) (p := S0.set (b + i) hi_) (j := b + i) (by rw [List.length_set]; exact hx)
      rw [List.set_set, show S0.set (b + i) lo = S0 by rw [← hgd i hi, getD_eq hx, List.set_getElem_self]] at q4
      have hag1 := hput S0 rfl hag i hi_ hi h0 (.inr rfl)
      have hl1 : (S0.set (b + i) hi_).length = S0.length ∧ S0.length = (S0.set (b + i) hi_).length ∧ S0.length ≤ c1 := ⟨List.length_set, List.length_set.symm, hg⟩
      have lS : (flat isV S0).length = S0.length := isLen S0
      have lS1 : (flat isV (S0.set (b + i) hi_)).length = S0.length := by rw [isLen, List.length_set]
      have hih := fun h => ih (i + 1) ⟨hi, fun x hx => by
        rcases Nat.lt_or_ge x i with h' | h'
        · exact e2 x h'
        · obtain rfl : x = i := by omega
          exact h⟩ (by omega)
      clear ih e2 hag hl0 hput hprm
      generalize S0.set (b + i) hi_ = S1 at *
      all_goals (refine go ?_; and_intros <;> (try exact trivial) <;> intros)
      repeat' ((first | (apply G.cV (g := 11); rfl; rfl; exact fun w' hw' => hval _ w' _ hw' (by exact mm) (by assumption) (by assumption)) | (apply G.ix (i := b + i); rfl; rfl; omega; omega; rfl) | (apply G.s1; rfl; rfl; rfl; (repeat (first | exact RAt.head | apply RAt.tail)); exact ⟨rfl, rfl⟩; (rw [lS]; omega); exact q3) | (apply G.s1; rfl; rfl; rfl; (repeat (first | exact RAt.head | apply RAt.tail)); exact ⟨rfl, rfl⟩; (rw [lS1]; omega); exact q4) | (apply G.neR (V S0) (V S1); rfl; rfl; rfl; all_goals intro h)) <;> (refine go ?_; and_intros <;> (try exact trivial) <;> intros))
      · exact J.finS (hih h)
      · skip
        (refine ret1 Tryz.func37 Tryz.results37 ?_; intro w' hw)
        exact ⟨true, rfl, fun _ => rfl, hw.below⟩
    · clear ih
      all_goals (refine go ?_; and_intros <;> (try exact trivial) <;> intros)
      (refine ret1 Tryz.func37 Tryz.results37 ?_; intro w' hw)
      refine ⟨false, rfl, fun hb => ?_, hw.below⟩
      rcases hb with ⟨_, hb⟩ | ⟨hb, _⟩
      · obtain ⟨x, hx, hx2⟩ := List.any_eq_true.1 hb
        rw [List.mem_range] at hx
        dsimp only at hx hx2
        have hx1 : x < n := by omega
        have h := e2 x (by omega)
        rw [hV, hV] at h
        have h := rQ_inj h
        rw [volSum_set l hi_ S0 F0 (b + x) (by omega), ← getD_eq (by omega), hgd x hx1, show F0 + ((b + x : Nat) : Int) = F0 + b + x by omega] at h
        exact absurd (by grind) (of_decide_eq_true hx2)
      · exact absurd h0 hb
  · rw [if_neg h0] at hseg0
    obtain ⟨htt, _⟩ := oneE_tab hone h0
    have hmem : ∀ {S : List Int}, PermIn b n S0 S → ∀ x (hx : x < tab.length), tab[x].1 ∈ segL S b n := fun {S} hp x hx => by
      rw [hp.2.1.mem_iff, hseg0]
      exact List.mem_flatMap.2 ⟨tab[x], List.getElem_mem hx, List.mem_replicate.2 ⟨by have := (htt _ (List.getElem_mem hx)).2.1; omega, rfl⟩⟩
    have hcmp : ∀ (S : List Int) i j, b + i < S.length → b + j < S.length → i ≠ j → V S = V (swp S (b + i) (b + j)) → NoD l (F0 + b) i j (S.getD (b + i) 0) (S.getD (b + j) 0) := fun S i j h1 h2 h3 h4 => by
      rw [hV, hV] at h4
      exact (vol_swp h1 h2 h3).1 (rQ_inj h4).symm
    have hbad : (∀ i, i < n → ∀ j, j < i → ∀ x (hx : x < tab.length) y (hy : y < tab.length), NoD l (F0 + b) i j tab[x].1 tab[y].1) → ¬ badR l ⟨F0 + b, F0 + b + n, tab, adr, cap, lo, hi_⟩ := fun h hb => by
      rcases hb with ⟨h1, _⟩ | ⟨_, y, hp, hy, hy0, j, hj0, hj, hne⟩
      · exact h0 h1
      · dsimp only at hy hj hne
        have := h j (by omega) 0 hj0 y hy 0 (by omega)
        rw [NoD, Int.natCast_zero, Int.add_zero] at this
        exact hne (by rw [Rat.add_comm, this, Rat.add_comm])
    have hag1 : ∀ S, PermIn b n S0 S → AgrA F0 S rs := fun S hp => hprm S0 S hag h0 hp
    clear hprm hput hV hag hone
    all_goals (refine go ?_; and_intros <;> (try exact trivial) <;> intros)
    repeat' ((first | (apply G.cO (g := 74) (fun u => .tuple #[.agg #[.int .i64 F0, u], .int .i64 0]); rfl; rfl; exact fun w' hw => hfi w' hw.below; intro u; refine G.ownOpen RAt.au (by omega) ?_; intro g c1 hg hp hv; subst hv) | (apply G.ix (i := k); rfl; rfl; exact rfl; omega; rfl) | (apply G.ix (i := 0); rfl; rfl; exact rfl; omega; rfl) | (apply G.slp (l := b) (h := b + n) (off := b) (len := n); rfl; rfl; rfl; omega; omega; omega; omega; omega; (show 0 + b * 1 = b); omega; omega; rfl)) <;> (refine go ?_; and_intros <;> (try exact trivial) <;> intros))
    have hls : ∀ S : List Int, PermIn b n S0 S → S.length = S0.length ∧ S0.length = S.length ∧ S0.length ≤ c1 := fun S hp => ⟨hp.1, hp.1.symm, hg⟩
    refine J.loop (c := _) ((0, S0) : Nat × List Int) (fun s => n - s.1) (fun s => [(2, .slice bb l.length d), (7, .pointer (some ⟨_, 0, none⟩)), (8, .pointer (some ⟨_, 0, none⟩)), (16, .slice (some ⟨g, b, none⟩) n (c1 - b)), (107, .int .i64 n), (108, .int .i64 s.1)]) (fun s => [.blk _ 24 [.int .i64 F0, .slice (some ⟨g, 0, none⟩) S0.length c1] 2, .blk g 3 (flat isV s.2) (c1 * 1), .blk _ 28 [.int .i64 (F0 + b), .int .i64 (F0 + b + n), .slice adr tab.length cap, .int .i64 lo, .int .i64 hi_] 5]) (fun s => s.1 ≤ n ∧ PermIn b n S0 s.2 ∧ ∀ i, i < s.1 → ∀ j, j < i → ∀ x (hx : x < tab.length) y (hy : y < tab.length), NoD l (F0 + b) i j tab[x].1 tab[y].1) ?_ sbT sbL ?_
    · exact ⟨Nat.zero_le _, .rfl, fun i h => absurd h (Nat.not_lt_zero _)⟩
    intro ⟨i, S⟩ ⟨e1, e2, e3⟩ ih
    dsimp only at e1 e2 e3 ⊢
    by_cases hi : i < n
    · have ih1 := fun S h1 (h2 : ∀ j, j < i → ∀ x (hx : x < tab.length) y (hy : y < tab.length), NoD l (F0 + b) i j tab[x].1 tab[y].1) => ih (i + 1, S) ⟨hi, h1, fun i' hi' => by
        rcases Nat.lt_or_ge i' i with h' | h'
        · exact e3 i' h'
        · obtain rfl : i' = i := by omega
          exact h2⟩ (by dsimp only; omega)
      clear ih e3
      all_goals (refine go ?_; and_intros <;> (try exact trivial) <;> intros)
      refine J.loop (c := _) ((0, S) : Nat × List Int) (fun s => i - s.1) (fun s => [(2, .slice bb l.length d), (7, .pointer (some ⟨_, 0, none⟩)), (8, .pointer (some ⟨_, 0, none⟩)), (16, .slice (some ⟨g, b, none⟩) n (c1 - b)), (17, .int .i64 i), (107, .int .i64 n), (108, .int .i64 i), (111, .int .i64 i), (112, .int .i64 s.1)]) (fun s => [.blk _ 24 [.int .i64 F0, .slice (some ⟨g, 0, none⟩) S0.length c1] 2, .blk g 3 (flat isV s.2) (c1 * 1), .blk _ 28 [.int .i64 (F0 + b), .int .i64 (F0 + b + n), .slice adr tab.length cap, .int .i64 lo, .int .i64 hi_] 5]) (fun s => s.1 ≤ i ∧ PermIn b n S0 s.2 ∧ ∀ j, j < s.1 → ∀ x (hx : x < tab.length) y (hy : y < tab.length), NoD l (F0 + b) i j tab[x].1 tab[y].1) ?_ sbT sbL ?_
      · exact ⟨Nat.zero_le _, e2, fun j h => absurd h (Nat.not_lt_zero _)⟩
      intro ⟨j, S⟩ ⟨f1, f2, f3⟩ ih
      dsimp only at f1 f2 f3 ⊢
      by_cases hj : j < i
      · have ih2 := fun S h1 (h2 : ∀ x (hx : x < tab.length) y (hy : y < tab.length), NoD l (F0 + b) i j tab[x].1 tab[y].1) => ih (j + 1, S) ⟨hj, h1, fun j' hj' => by
          rcases Nat.lt_or_ge j' j with h' | h'
          · exact f3 j' h'
          · obtain rfl : j' = j := by omega
            exact h2⟩ (by dsimp only; omega)
        clear ih f3 ih1
        all_goals (refine go ?_; and_intros <;> (try exact trivial) <;> intros)
        refine J.loop (c := _) ((0, S) : Nat × List Int) (fun s => tab.length - s.1) (fun s => [(2, .slice bb l.length d), (7, .pointer (some ⟨_, 0, none⟩)), (8, .pointer (some ⟨_, 0, none⟩)), (16, .slice (some ⟨g, b, none⟩) n (c1 - b)), (17, .int .i64 i), (18, .int .i64 j), (107, .int .i64 n), (108, .int .i64 i), (111, .int .i64 i), (112, .int .i64 j), (116, .slice adr tab.length cap), (117, .int .i64 tab.length), (118, .int .i64 s.1)]) (fun s => [.blk _ 24 [.int .i64 F0, .slice (some ⟨g, 0, none⟩) S0.length c1] 2, .blk g 3 (flat isV s.2) (c1 * 1), .blk _ 28 [.int .i64 (F0 + b), .int .i64 (F0 + b + n), .slice adr tab.length cap, .int .i64 lo, .int .i64 hi_] 5]) (fun s => s.1 ≤ tab.length ∧ PermIn b n S0 s.2 ∧ ∀ x (hx : x < tab.length), x < s.1 → ∀ y (hy : y < tab.length), NoD l (F0 + b) i j tab[x].1 tab[y].1) ?_ sbT sbL ?_
        · exact ⟨Nat.zero_le _, f2, fun x _ h => absurd h (Nat.not_lt_zero _)⟩
        intro ⟨x, S⟩ ⟨g1, g2, g3⟩ ih
        dsimp only at g1 g2 g3 ⊢
        by_cases hx : x < tab.length
        · have ih3 := fun S h1 (h2 : ∀ y (hy : y < tab.length), NoD l (F0 + b) i j tab[x].1 tab[y].1) => ih (x + 1, S) ⟨hx, h1, fun x' hx' hlt => by
            rcases Nat.lt_or_ge x' x with h' | h'
            · exact g3 x' hx' h'
            · obtain rfl : x' = x := by omega
              exact h2⟩ (by dsimp only; omega)
          obtain ⟨bt, ot, rfl, hrt⟩ := SlAt.all htab (by omega)
          have hrx := hrt x hx
          have hmx := fun {S} hp => hmem (S := S) hp x hx
          clear ih g3 ih2
          dsimp only [hoV] at hrx
          all_goals (refine go ?_; and_intros <;> (try exact trivial) <;> intros)
          repeat' ((first | (apply G.ix (i := x); rfl; rfl; exact rfl; omega; rfl)) <;> (refine go ?_; and_intros <;> (try exact trivial) <;> intros))
          refine J.loop (c := _) ((0, S) : Nat × List Int) (fun s => tab.length - s.1) (fun s => [(2, .slice bb l.length d), (7, .pointer (some ⟨_, 0, none⟩)), (8, .pointer (some ⟨_, 0, none⟩)), (16, .slice (some ⟨g, b, none⟩) n (c1 - b)), (17, .int .i64 i), (18, .int .i64 j), (20, .pointer (some ⟨_, 0, none⟩)), (107, .int .i64 n), (108, .int .i64 i), (111, .int .i64 i), (112, .int .i64 j), (116, .slice (some ⟨bt, ot, none⟩) tab.length cap), (117, .int .i64 tab.length), (118, .int .i64 x), (123, .slice (some ⟨bt, ot, none⟩) tab.length cap), (124, .int .i64 tab.length), (125, .int .i64 s.1)]) (fun s => [.blk _ 88 [.int .i64 tab[x].1, .int .i64 tab[x].2] 2, .blk _ 24 [.int .i64 F0, .slice (some ⟨g, 0, none⟩) S0.length c1] 2, .blk g 3 (flat isV s.2) (c1 * 1), .blk _ 28 [.int .i64 (F0 + b), .int .i64 (F0 + b + n), .slice (some ⟨bt, ot, none⟩) tab.length cap, .int .i64 lo, .int .i64 hi_] 5]) (fun s => s.1 ≤ tab.length ∧ PermIn b n S0 s.2 ∧ ∀ y (hy : y < tab.length), y < s.1 → NoD l (F0 + b) i j tab[x].1 tab[y].1) ?_ sbT sbL ?_
          · exact ⟨Nat.zero_le _, g2, fun y _ h => absurd h (Nat.not_lt_zero _)⟩
          intro ⟨y, S⟩ ⟨h1, h2, h3⟩ ih
          dsimp only at h1 h2 h3 ⊢
          by_cases hy : y < tab.length
          · have ih4 := fun S h1 (h2 : NoD l (F0 + b) i j tab[x].1 tab[y].1) => ih (y + 1, S) ⟨hy, h1, fun y' hy' hlt => by
              rcases Nat.lt_or_ge y' y with h' | h'
              · exact h3 y' hy' h'
              · obtain rfl : y' = y := by omega
                exact h2⟩ (by dsimp only; omega)
            have hry := hrt y hy
            have mx := hmx h2
            have my := hmem h2 y hy
            dsimp only [hoV] at hry
            clear ih h3 ih3 hrt hmx hmem hbad
            generalize tab[x] = hx1 at *
            generalize tab[y] = hy1 at *
            obtain ⟨s, sm⟩ := hx1
            obtain ⟨t, tm⟩ := hy1
            dsimp only at *
            have hSl := h2.1
            all_goals (refine go ?_; and_intros <;> (try exact trivial) <;> intros)
            repeat' ((first | (apply G.ix (i := y); rfl; rfl; exact rfl; omega; rfl) | (apply G.brt rfl; rfl; rfl; (repeat (first | exact Pick.head | apply Pick.tail)); exact ⟨by omega, by omega, by omega, by omega, by omega⟩; intro q S1 hB; cases q)) <;> (refine go ?_; and_intros <;> (try exact trivial) <;> intros))
            · refine J.finS (ih4 S1 (h2.trans hB.1) ?_)
              by_cases hst : s = t
              · subst hst; rfl
              · exact absurd (hB.2.2 mx my hst) (by decide)
            · have k5 := h2.trans hB.1
              obtain ⟨b1, b2⟩ := hB.2.1 rfl
              have l1 := hls _ k5
              have z1 : b + i < S1.length := by omega
              have z2 : b + j < S1.length := by omega
              have k6 := k5.trans (PermIn.swp (S := S1) (b := b) (n := n) (i := i) (j := j) (by omega) hi (by omega))
              have hno := hcmp S1 i j z1 z2 (by omega)
              have a1 := hag1 _ k5
              have a2 := hag1 _ k6
              have l2 := hls _ k6
              have q1 := get_sw z1
              have q2 := get_sw z2
              have q3 := set_sw (v := S1.getD (b + j) 0) z1
              have q4 := set_sw (v := S1.getD (b + i) 0) (S := S1.set (b + i) (S1.getD (b + j) 0)) (b := b) (i := j) (by rw [List.length_set]; exact z2)
              rw [show (S1.set (b + i) (S1.getD (b + j) 0)).set (b + j) (S1.getD (b + i) 0) = swp S1 (b + i) (b + j) from rfl] at q4
              have lS : (flat isV S1).length = S0.length := by rw [isLen, l1.1]
              have lS2 : (flat isV (S1.set (b + i) (S1.getD (b + j) 0))).length = S0.length := by rw [isLen, List.length_set, l1.1]
              rw [b1, b2] at hno
              rw [b2] at q3
              rw [b1, b2] at q4
              rw [b1] at q1
              rw [b2] at q2
              rw [b2] at lS2
              have ih5 := ih4 _ k6
              clear ih4 hcmp hag1 hls hB
              generalize swp S1 (b + i) (b + j) = S2 at *
              all_goals (refine goR ?_; and_intros <;> (try exact trivial) <;> intros)
              repeat' ((first | (apply G.cV (g := 11); rfl; rfl; exact fun w' hw' => hval _ w' _ hw' (by exact mm) (by assumption) (by assumption)) | (apply J.regA (.q 0 <| .q 1 <| .q 2 <| .q 3 <| .q 4 <| .q 5 <| .q 6 <| .q 7 <| .q 8 <| .q 9 <| .q 10 <| .q 11 <| .q 12 <| .r 13 <| .q 14 <| .r 15 <| .nil); exact Tryz.mixed; decide +kernel) | (apply G.ix (i := i); rfl; rfl; exact rfl; omega; rfl) | (apply G.ix (i := j); rfl; rfl; exact rfl; omega; rfl) | (apply G.ld; rfl; (apply LdV.one; exact CellV.blk (by exact mm) q1); rfl) | (apply G.ld; rfl; (apply LdV.one; exact CellV.blk (by exact mm) q2); rfl) | (apply G.s1; rfl; rfl; rfl; (repeat (first | exact RAt.head | apply RAt.tail)); exact ⟨rfl, rfl⟩; (rw [lS]; omega); exact q3) | (apply G.s1; rfl; rfl; rfl; (repeat (first | exact RAt.head | apply RAt.tail)); exact ⟨rfl, rfl⟩; (rw [lS2]; omega); exact q4) | (apply G.neR (V S1) (V S2); rfl; rfl; rfl; all_goals intro h) | (apply J.regQ; exact Tryz.mixed; decide +kernel) | (apply J.regL'; exact Tryz.mixed; decide +kernel)) <;> (refine goR ?_; and_intros <;> (try exact trivial) <;> intros))
              · exact J.finS (ih5 (hno h))
              · skip
                (refine ret1 Tryz.func37 Tryz.results37 ?_; intro w' hw)
                exact ⟨true, rfl, fun _ => rfl, hw.below⟩
          · obtain rfl : y = tab.length := by omega
            clear ih
            all_goals (refine go ?_; and_intros <;> (try exact trivial) <;> intros)
            exact J.finS (ih3 S h2 fun y hy => h3 y hy hy)
        · obtain rfl : x = tab.length := by omega
          clear ih
          all_goals (refine go ?_; and_intros <;> (try exact trivial) <;> intros)
          exact J.finS (ih2 S g2 fun x hx => g3 x hx hx)
      · obtain rfl : j = i := by omega
        clear ih
        all_goals (refine go ?_; and_intros <;> (try exact trivial) <;> intros)
        exact J.finS (ih1 S f2 f3)
    · obtain rfl : i = n := by omega
      clear ih
      all_goals (refine go ?_; and_intros <;> (try exact trivial) <;> intros)
      (refine ret1 Tryz.func37 Tryz.results37 ?_; intro w' hw)
      exact ⟨false, rfl, fun hb => absurd hb (hbad e3), hw.below⟩
end Go.Proofs.YthkdfpbjkpgckaaGreatDoor
namespace Go.Proofs.YthkdfpbjkpgckaaGreatDoor
open Go.RowKit Go.Sl Go.Num
theorem exE_bad {rs : List Rn} {l : List Spn} (h : (exE rs l).2 = 0 ∨ (exE rs l).2 = 29) : runsErr rs = 0 ∧ spansErr l = 0 ∧ l.any (outX rs) = false := by
  have r0 : ∀ l : List Rn, runsErr l ≠ 29 := fun l => by
    have hone : ∀ r, oneE r ≠ 29 := fun r => by rw [oneE]; repeat' (first | split | decide)
    have hrn : ∀ (l : List Rn) p, rnErr p l ≠ 29 := fun l => by
      induction l with
      | nil => intro p; rw [rnErr]; decide
      | cons r l ih =>
        intro p
        have h2 := ih (some r)
        have h3 := hone r
        cases p with
        | none =>
          show (if inT r = false then (3 : Int) else if false = true then 1 else if oneE r ≠ 0 then oneE r else rnErr (some r) l) ≠ 29
          split
          · decide
          · rw [if_neg (by decide)]
            split
            · exact h3
            · exact h2
        | some q =>
          show (if inT r = false then (3 : Int) else if decide (r.from_ ≠ q.to_) = true then 1 else if oneE r ≠ 0 then oneE r else rnErr (some r) l) ≠ 29
          split
          · decide
          · split
            · decide
            · split
              · exact h3
              · exact h2
    rw [runsErr]
    split
    · decide
    · split
      · exact hrn l none
      · split <;> decide
  have s0 : ∀ l : List Spn, spansErr l ≠ 29 := fun l => by
    have hsp : ∀ (l : List Spn) x, spErr x l ≠ 29 := fun l => by
      induction l with
      | nil => intro p; rw [spErr]; decide
      | cons r l ih =>
        intro p
        rw [spErr]
        split
        · decide
        · exact ih _
    rw [spansErr]
    split
    · decide
    · exact hsp l 0
  rw [exE] at h
  by_cases h1 : runsErr rs = 0
  · rw [h1, if_neg (by decide)] at h
    by_cases h2 : spansErr l = 0
    · rw [h2, if_neg (by decide)] at h
      refine ⟨h1, h2, ?_⟩
      cases h3 : l.any (outX rs) with
      | false => rfl
      | true => rw [h3, if_pos rfl] at h; rcases h with h | h <;> exact absurd h (by decide)
    · rw [if_pos h2] at h
      rcases h with h | h
      · exact absurd h h2
      · exact absurd h (s0 l)
  · rw [if_pos h1] at h
    rcases h with h | h
    · exact absurd h h1
    · exact absurd h (r0 rs)
theorem exE_take {rs : List Rn} {l : List Spn} (h1 : runsErr rs = 0) (h2 : spansErr l = 0) (h3 : l.any (outX rs) = false) : ((exE rs l).2 = 0 ↔ ∀ r ∈ rs, takeB l r) ∧ ((exE rs l).2 = 0 → exE rs l = (rQ (takeS l rs), 0)) := by
  rw [exE, h1, if_neg (by decide), h2, if_neg (by decide), h3, if_neg (by decide)]
  by_cases h : ∀ r ∈ rs, takeB l r
  · rw [if_pos h]; exact ⟨⟨fun _ => h, fun _ => rfl⟩, fun _ => rfl⟩
  · rw [if_neg h]; exact ⟨⟨fun e => absurd e (by decide), fun e => absurd e h⟩, fun e => absurd e (by decide)⟩
theorem agr_agree {rs : List Rn} {S : List Int} (hE : runsErr rs = 0) (hS : S.length = (firstS rs).length) (ha : AgrA (firstF rs) S rs) : agreeB rs (firstF rs) S = true := by
  have ⟨_, k5, k7⟩ := runsErr_ok hE
  have hch : Chn (firstF rs) rs := chn_of (p := none) (runsErr_rn hE)
  have hb := AgrS.bd (runsErr_one hE) (agr_S hE hS ha)
  rcases Nat.eq_zero_or_pos rs.length with h0 | hk
  · obtain rfl := List.length_eq_zero_iff.1 h0
    obtain rfl : S = [] := List.length_eq_zero_iff.1 hS
    rfl
  have he := firstS_end rs (firstF rs) hk hch k5 (runsErr_one hE)
  have hf := firstF_at hk
  have i0 := k5 _ (List.getElem_mem hk)
  have i1 := k5 _ (List.getElem_mem (show rs.length - 1 < rs.length by omega))
  rw [inT, decide_eq_true_eq] at i0 i1
  rw [lenT, List.getElem?_eq_getElem hk, List.getElem?_eq_getElem (show rs.length - 1 < rs.length by omega)] at k7
  dsimp only at k7
  have h2 : rightH (firstF rs) S = true := by
    rw [rightH, decide_eq_true (by omega), Bool.true_and]
    have h3 : S.any badSt = false := List.any_eq_false.2 fun y hy => by rw [badSt, decide_eq_true (hb y hy)]; decide
    rw [h3]; rfl
  rw [agreeB, if_neg (by rw [hE, h2]; simp), List.getElem?_eq_getElem hk, List.getElem?_eq_getElem (show rs.length - 1 < rs.length by omega)]
  dsimp only
  rw [if_neg (by omega)]
  exact AgrS.agrL (f0 := firstF rs) (S0 := S) (d := 0) (runsErr_one hE) (by rw [List.drop_zero, Int.natCast_zero, Int.add_zero]; exact agr_S hE hS ha)
theorem dec_vol {rs : List Rn} {l : List Spn} {S : List Int} (h : (exE rs l).2 = 0) (hS : S.length = (firstS rs).length) (ha : AgrA (firstF rs) S rs) : volE (firstF rs) S l = exE rs l := by
  obtain ⟨h1, h2, h3⟩ := exE_bad (.inl h)
  have ⟨h4, h5⟩ := exE_take h1 h2 h3
  have hB := h4.1 h
  have ⟨_, k5, _⟩ := runsErr_ok h1
  have k6 := runsErr_one h1
  have hch : Chn (firstF rs) rs := chn_of (p := none) (runsErr_rn h1)
  have ⟨_, hR⟩ := spansErr_ok h2
  have hl : InOrd 0 l := inOrd_of (by rw [spansErr] at h2; split at h2 <;> first | cases h2 | exact h2)
  have hv := AgrS.vol hl hR k5 k6 hB (agr_S h1 hS ha)
  rw [h5 h, takeS_eq hl hR rs (firstF rs) hch k5 k6 hB, ← hv]
  rcases Nat.eq_zero_or_pos rs.length with h0 | hk
  · obtain rfl := List.length_eq_zero_iff.1 h0
    obtain rfl : S = [] := List.length_eq_zero_iff.1 hS
    cases l with
    | nil => rfl
    | cons s l => rw [List.any_cons] at h3; exact absurd h3 (by simp [outX])
  · exact agr_volE h1 h2 h3 hk hS ha
set_option maxHeartbeats 4000000 in
theorem law7_holds (a b t : Option Addr) (rs : List Rn) (l : List Spn) (ts : List Nat) (c d e0 : Nat) (w : World) (hA : RunsAt w a rs) (hB : SpansAt w b l) (hT : SlAt w t 1 (ts.map u8V)) (hu : ∀ x ∈ ts, x ≤ 255) :
    Calls Tryz.prog 7 #[.slice a rs.length c, .slice b l.length d, .slice t ts.length e0] w fun e w' => e = .returned (.bool true) ∧ Below w.heap.size w w' := by
  have hsn := fun w' (_ : Below w.heap.size w w') => sanity_holds w'
  have hfw := fun w' (hb : Below w.heap.size w w') => few_holds b l d 6 w' (hB.below hb)
  by_cases a1 : ¬ fewL 6 l
  · rw [decide_eq_false a1] at hfw
    refine enterA [(0, .slice a rs.length c), (1, .slice b l.length d), (2, .slice t ts.length e0)] Tryz.func7 Tryz.ntmps7 ?_
    all_goals (refine go ?_; and_intros <;> (try exact trivial) <;> intros)
    repeat' ((first | (refine G.cvb hsn ?_) | (refine G.cvb hfw ?_)) <;> (refine go ?_; and_intros <;> (try exact trivial) <;> intros))
    all_goals refine ret1b Tryz.func7 Tryz.results7 ?_
    all_goals rfl
  rw [Decidable.not_not] at a1
  rw [decide_eq_true a1] at hfw
  by_cases a2 : 6 < l.length
  · skip
    refine enterA [(0, .slice a rs.length c), (1, .slice b l.length d), (2, .slice t ts.length e0)] Tryz.func7 Tryz.ntmps7 ?_
    all_goals (refine go ?_; and_intros <;> (try exact trivial) <;> intros)
    repeat' ((first | (refine G.cvb hsn ?_) | (refine G.cvb hfw ?_)) <;> (refine go ?_; and_intros <;> (try exact trivial) <;> intros))
    all_goals refine ret1b Tryz.func7 Tryz.results7 ?_
    all_goals rfl
  have hfr := fun w' (hb : Below w.heap.size w w') => rFew_holds a rs c 6 14 w' (hA.below hb) (by decide)
  by_cases a3 : ¬ fewR 6 14 rs
  · rw [decide_eq_false a3] at hfr
    refine enterA [(0, .slice a rs.length c), (1, .slice b l.length d), (2, .slice t ts.length e0)] Tryz.func7 Tryz.ntmps7 ?_
    all_goals (refine go ?_; and_intros <;> (try exact trivial) <;> intros)
    repeat' ((first | (refine G.cvb hsn ?_) | (refine G.cvb hfw ?_) | (refine G.cvb hfr ?_)) <;> (refine go ?_; and_intros <;> (try exact trivial) <;> intros))
    all_goals refine ret1b Tryz.func7 Tryz.results7 ?_
    all_goals rfl
  rw [Decidable.not_not] at a3
  rw [decide_eq_true a3] at hfr
  by_cases a4 : 20 < ts.length
  · skip
    refine enterA [(0, .slice a rs.length c), (1, .slice b l.length d), (2, .slice t ts.length e0)] Tryz.func7 Tryz.ntmps7 ?_
    all_goals (refine go ?_; and_intros <;> (try exact trivial) <;> intros)
    repeat' ((first | (refine G.cvb hsn ?_) | (refine G.cvb hfw ?_) | (refine G.cvb hfr ?_)) <;> (refine go ?_; and_intros <;> (try exact trivial) <;> intros))
    all_goals refine ret1b Tryz.func7 Tryz.results7 ?_
    all_goals rfl
  have hf := a1.ok
  have htl : ∀ r ∈ rs, r.tab.length ≤ 64 := fun r hr => Nat.le_trans (a3.2.1 r hr) (by decide)
  have hrl : rs.length ≤ 400 := Nat.le_trans a3.1 (by decide)
  have hex := fun w' (hb : Below w.heap.size w w') => exact_holds a b rs l c d w' (hA.below hb) (hB.below hb) hf htl hrl
  by_cases a5 : ¬ ((exE rs l).2 = 0 ∨ (exE rs l).2 = 29)
  · generalize exE rs l = X at *
    obtain ⟨Q, E⟩ := X
    dsimp only [qA] at *
    rw [not_or] at a5
    obtain ⟨a5, a6⟩ := a5
    refine enterA [(0, .slice a rs.length c), (1, .slice b l.length d), (2, .slice t ts.length e0)] Tryz.func7 Tryz.ntmps7 ?_
    all_goals (refine go ?_; and_intros <;> (try exact trivial) <;> intros)
    repeat' ((first | (refine G.cvb hsn ?_) | (refine G.cvb hfw ?_) | (refine G.cvb hfr ?_) | (refine G.cvb hex ?_)) <;> (refine go ?_; and_intros <;> (try exact trivial) <;> intros))
    all_goals refine ret1b Tryz.func7 Tryz.results7 ?_
    all_goals rfl
  rw [Decidable.not_not] at a5
  obtain ⟨k1, k2, k3⟩ := exE_bad a5
  have k4 := exE_take k1 k2 k3
  have ⟨_, k5, k7⟩ := runsErr_ok k1
  have hL : (firstS rs).length ≤ 14 := by
    rcases Nat.eq_zero_or_pos rs.length with h0 | hk
    · obtain rfl := List.length_eq_zero_iff.1 h0; exact Nat.zero_le _
    · have he := firstS_end rs (firstF rs) hk (chn_of (p := none) (runsErr_rn k1)) k5 (runsErr_one k1)
      have hf := firstF_at hk
      have h9 := a3.2.2
      rw [lenT, List.getElem?_eq_getElem hk, List.getElem?_eq_getElem (show rs.length - 1 < rs.length by omega)] at h9
      dsimp only at h9
      rcases h9 with h9 | h9 | h9
      · exact absurd k1 h9
      · omega
      · omega
  rcases a5 with a5 | a5
  · have hmx := fun w' (hb : Below w.heap.size w w') => mixed_holds a t rs ts c e0 w' (hA.below hb) (hT.below hb) hu htl k1 hrl
    have hval : ∀ {M : List Row} {a1 c1} (S : List Int) w', Sat w M w' → Row.own 0 (.slice a1 S.length c1) 3 1 S.length (flat isV S) ∈ M → (AgrA (firstF rs) S rs ∧ S.length = (firstS rs).length) → Calls Tryz.prog 11 #[.agg #[.int .i64 (firstF rs), .slice a1 S.length c1], .slice b l.length d] w' (fun e w'' => e = .returned (.tuple #[qA (exE rs l).1, .int .i64 0]) ∧ Below w'.heap.size w' w'') ∧ Calls Tryz.prog 34 #[.slice a rs.length c, .agg #[.int .i64 (firstF rs), .slice a1 S.length c1]] w' fun e w'' => e = .returned (.bool true) ∧ Below w'.heap.size w' w'' := fun {M a1 c1} S w' hw hm ⟨h1, h2⟩ => by
      have ho := hw.hold _ hm
      have hsl := SlAt.ofOwn isV_len ho rfl
      have hcp : S.length ≤ c1 := by
        obtain ⟨_, ⟨e1, e2⟩ | ⟨g, cap, cur, e1, _, _, e2, _⟩⟩ := ho
        · omega
        · cases e1; exact e2
      have hv := val_holds (firstF rs) a1 b S l c1 d w' hsl (hB.below hw.below) hf (by omega) hcp
      have hg := agree_holds a a1 rs (firstF rs) S c c1 w' (hA.below hw.below) hsl htl hcp (by omega)
      rw [dec_vol a5 h2 h1, a5] at hv
      rw [agr_agree k1 h2 h1] at hg
      exact ⟨hv, hg⟩
    rw [show exE rs l = ((exE rs l).1, 0) by rw [← a5]] at hex
    generalize (exE rs l).1 = W at *
    generalize firstF rs = F0 at *
    dsimp only at hex
    refine enterA [(0, .slice a rs.length c), (1, .slice b l.length d), (2, .slice t ts.length e0)] Tryz.func7 Tryz.ntmps7 ?_
    all_goals (refine go ?_; and_intros <;> (try exact trivial) <;> intros)
    repeat' ((first | (refine G.cvb hsn ?_) | (refine G.cvb hfw ?_) | (refine G.cvb hfr ?_) | (refine G.cvb hex ?_) | (apply G.cOX (g := 36) (X := List Int) (fun S => S.length) (fun S => flat isV S) (fun _ u => .tuple #[.agg #[.int .i64 F0, u], .bool true]) (fun S => AgrA F0 S rs ∧ S.length = (firstS rs).length); rfl; rfl; exact fun w' hw => hmx w' hw.below; intro S u hS; refine G.ownForm' RAt.au ?_; intro a1 c1 hv; subst hv) | (apply G.cV (g := 11); rfl; rfl; exact fun w' hw => (hval _ w' hw (by exact mm) (by assumption)).1) | (apply G.cV (g := 34); rfl; rfl; exact fun w' hw => (hval _ w' hw (by exact mm) (by assumption)).2) | (apply G.eqR W W; rfl; rfl; rfl; all_goals intro h; all_goals try (exact absurd rfl h))) <;> (refine go ?_; and_intros <;> (try exact trivial) <;> intros))
    all_goals refine ret1b Tryz.func7 Tryz.results7 ?_
    all_goals rfl
  · have ⟨_, hR⟩ := spansErr_ok k2
    have hl : InOrd 0 l := inOrd_of (by rw [spansErr] at k2; split at k2 <;> first | cases k2 | exact k2)
    have hxc := fun k (hk : k < rs.length) w' (hb : Below w.heap.size w w') => exch_holds a b rs l c d k w' (hA.below hb) (hB.below hb) hf htl hrl k1 k2 k3 (by omega) hk
    have hnot : ¬ ∀ k (hk : k < rs.length), ¬ badR l rs[k] := fun h => by
      have := k4.1.2 fun r hr => by
        obtain ⟨k, hk, rfl⟩ := List.getElem_of_mem hr
        exact (takeB_iff (k5 _ hr) hl hR).2 (h k hk)
      rw [a5] at this
      exact absurd this (by decide)
    rw [show exE rs l = ((exE rs l).1, 29) by rw [← a5]] at hex
    generalize (exE rs l).1 = W at *
    dsimp only at hex
    clear k4
    refine enterA [(0, .slice a rs.length c), (1, .slice b l.length d), (2, .slice t ts.length e0)] Tryz.func7 Tryz.ntmps7 ?_
    all_goals (refine go ?_; and_intros <;> (try exact trivial) <;> intros)
    repeat' ((first | (refine G.cvb hsn ?_) | (refine G.cvb hfw ?_) | (refine G.cvb hfr ?_) | (refine G.cvb hex ?_)) <;> (refine go ?_; and_intros <;> (try exact trivial) <;> intros))
    refine J.loop (c := _) (0 : Nat) (fun s => rs.length - s) (fun s => [(0, .slice a rs.length c), (1, .slice b l.length d), (81, .int .i64 rs.length), (82, .int .i64 s)]) (fun s => []) (fun s => s ≤ rs.length ∧ ∀ k (hk : k < rs.length), k < s → ¬ badR l rs[k]) ?_ sbT sbL ?_
    · exact ⟨Nat.zero_le _, fun k _ h => absurd h (Nat.not_lt_zero _)⟩
    intro k ⟨e1, e2⟩ ih
    by_cases hk : k < rs.length
    · have hck : ∀ w', Below w.heap.size w w' → Calls Tryz.prog 37 #[.slice a rs.length c, .int .i64 k, .slice b l.length d] w' fun e w'' => ∃ x : { x : Bool // badR l rs[k] → x = true }, e = .returned (.bool x.1) ∧ Below w'.heap.size w' w'' := fun w' hb => (hxc k hk w' hb).mono fun e w'' ⟨x, h1, h2, h3⟩ => ⟨⟨x, h2⟩, h1, h3⟩
      have ih' := fun (h : ¬ badR l rs[k]) => ih (k + 1) ⟨hk, fun k' hk' hlt => by
        rcases Nat.lt_or_ge k' k with h' | h'
        · exact e2 k' hk' h'
        · obtain rfl : k' = k := by omega
          exact h⟩ (by omega)
      clear ih e2 hxc
      all_goals (refine go ?_; and_intros <;> (try exact trivial) <;> intros)
      repeat' ((first | (refine G.cX (X := { x : Bool // badR l rs[k] → x = true }) (v := fun x => .bool x.1) hck ?_; rintro ⟨x, hx⟩; cases x)) <;> (refine go ?_; and_intros <;> (try exact trivial) <;> intros))
      · exact J.fin (ih' fun h => absurd (hx h) (by decide))
      · skip
        all_goals refine ret1b Tryz.func7 Tryz.results7 ?_
        all_goals rfl
    · exact absurd (fun k hk => e2 k hk (by omega)) hnot
end Go.Proofs.YthkdfpbjkpgckaaGreatDoor
