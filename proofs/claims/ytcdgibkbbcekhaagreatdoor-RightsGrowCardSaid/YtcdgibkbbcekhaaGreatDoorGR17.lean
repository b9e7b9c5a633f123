/-
  Contract of rights: the law's examples hold.
-/
import Derived.Test.YtcdgibkbbcekhaaGreatDoorGR16
set_option linter.unusedVariables false
set_option linter.unusedSimpArgs false
set_option linter.unusedSectionVars false
namespace Go.Proofs.YtcdgibkbbcekhaaGreatDoor
open Go.RowKit Go.Sl Go.Num
theorem sameF_holds (a b : Option Addr) (X : List Rat) (c d : Nat) (w : World) (hA : SlAt w a 3 (X.map qF)) (hB : SlAt w b 3 (X.map qF)) (hn : X.length ≤ 1000000) :
    Calls Tryz.prog 18 #[.slice a X.length c, .slice b X.length d] w fun e w' => e = .returned (.bool true) ∧ Below w.heap.size w w' := by
  have h := sameQ_holds a b (X.map rQ) (X.map rQ) c d w (by rw [mapQF]; exact hA) (by rw [mapQF]; exact hB) (by rw [List.length_map]; omega)
  rw [List.length_map, decide_eq_true rfl] at h
  exact h
theorem sameI_holds (a b : Option Addr) (X : List Int) (c d : Nat) (w : World) (hA : SlAt w a 1 (X.map isV)) (hB : SlAt w b 1 (X.map isV)) (hn : X.length ≤ 1000000) :
    Calls Tryz.prog 57 #[.slice a X.length c, .slice b X.length d] w fun e w' => e = .returned (.bool true) ∧ Below w.heap.size w w' := by
  have h := sameInts_holds a b X X c d w hA hB (by omega)
  rw [decide_eq_true rfl] at h
  exact h
def clmQ (c : Cm) : Clm := ⟨c.pl, c.rk, rQ c.am⟩
def GQ (n : Int) : List Q3 := ((exG n).map rI).map rQ
def CQ : List Clm := exC.map clmQ
section
variable (B : Nat)
theorem ex1 : passR (exR B) (GQ 6) = ([6, 2, 9], 0) := by kernel_rfl
theorem ex2 : allR (exR B) (GQ 6) CQ = ([5, 2, 2, 0], 0) := by kernel_rfl
theorem ex3 : allR (exR B) (GQ 10) CQ = ([5, 4, 2, 2], 0) := by kernel_rfl
theorem ex4 : lefR (exR B) (GQ 6) CQ (([5, 2, 2, 0] : List Rat).map rQ) = ([4, 0, 0], 0) := by kernel_rfl
theorem ex5 : faiR (exR B) (GQ 6) CQ (([5, 2, 2, 0] : List Rat).map rQ) = (0, [-1, 2, 1, 2]) := by kernel_rfl
theorem ex6 : faiR (exR B) (GQ 6) CQ ((([5, 2, 1, 1] : List Int).map rI).map rQ) = (22, []) := by kernel_rfl
theorem ex7 : faiR (exR B) (GQ 6) CQ ((([5, 3, 1, 0] : List Int).map rI).map rQ) = (22, []) := by kernel_rfl
theorem ex8 : lefR (exR B) (GQ 6) CQ ((([5, 4, 1, 0] : List Int).map rI).map rQ) = ([], 20) := by kernel_rfl
theorem ex9 : rgtE (exR B) (GQ 6) CQ = 0 := by kernel_rfl
end
theorem few_list {l : List Int} (hb : ∀ n ∈ l, -999999999999999 ≤ n ∧ n ≤ 999999999999999) {k : Nat} (hk : 8 ≤ k) : ∀ q ∈ (l.map rI).map rQ, fewQ k q := fun q hq => by
  obtain ⟨x, hx, rfl⟩ := List.mem_map.1 hq
  obtain ⟨n, hn, rfl⟩ := List.mem_map.1 hx
  exact fewQ_le (rI_few (hb n hn).1 (hb n hn).2) hk
theorem exArg {w0 w : World} {M : List Row} {n : Int} {Bc Br Bw : Nat} {ga : Option Addr} (h1 : 0 ≤ n) (h2 : n ≤ 1000) (hw : Sat w0 M w) (m1 : Row.blk Bc 40 (flat cmV exC) 20 ∈ M) (m2 : Row.blk Br 183 (flat rcV (exR Bw)) 6 ∈ M) (m3 : slRow w0.heap.size ga 3 (((exG n).map rI).map qF) ∈ M) (m4 : Row.blk Bw 3 [.int .i64 1] 1 ∈ M) :
    Arg w (some ⟨Br, 0, none⟩) (exR Bw) ga (GQ n) (some ⟨Bc, 0, none⟩) CQ := by
  refine ⟨⟨(blkSlA (f := rcV) (l := exR Bw) hw rcV_len m2).1, fun r hr => ?_, ?_⟩, ?_, few_list (fun m hm => ?_) (by decide), fun c hc => ?_, show 3 ≤ 1000000 by decide, show 4 ≤ 1000000 by decide⟩
  · simp only [exR, List.mem_cons, List.not_mem_nil, or_false] at hr
    have h3 := (blkSlA (f := isV) (l := [1]) hw isV_len m4).1
    rcases hr with rfl | rfl | rfl
    · exact h3
    · exact h3
    · exact SlAt.nil
  · have h3 := hw.sl m3
    rw [← mapQF] at h3
    exact h3
  · have h3 := (blkSlA (f := cmV) (l := exC) hw cmV_len m1).1
    rw [CQ, List.map_map]
    exact h3
  · simp only [exG, List.mem_cons, List.not_mem_nil, or_false] at hm
    omega
  · obtain ⟨x, hx, rfl⟩ := List.mem_map.1 hc
    simp only [exC, List.mem_cons, List.not_mem_nil, or_false] at hx
    rcases hx with rfl | rfl | rfl | rfl
    · exact fewQ_le (rI_few (n := 5) (by decide) (by decide)) (by decide)
    · exact fewQ_le (rI_few (n := 4) (by decide) (by decide)) (by decide)
    · exact fewQ_le (rI_few (n := 4) (by decide) (by decide)) (by decide)
    · exact fewQ_le (rI_few (n := 3) (by decide) (by decide)) (by decide)
theorem exT {w0 w : World} {M : List Row} {N : Nat} {a : Option Addr} {T : List Rat} (hw : Sat w0 M w) (hm : slRow N a 3 (T.map qF) ∈ M) : SlAt w a 3 ((T.map rQ).map qV) := by rw [mapQF]; exact hw.sl hm
set_option maxHeartbeats 16000000 in
theorem sanity39_holds (w : World) : Calls Tryz.prog 13 #[] w fun e w' => e = .returned (.bool true) ∧ Below w.heap.size w w' := by
  have hex := fun n (h1 : 0 ≤ n) (h2 : n ≤ 1000) M w' (hw' : Sat w M w') => example_holds w M w' n h1 h2 hw'
  have hits := fun (l : List Int) (hl : l.length ≤ 1000000) (hb : ∀ n ∈ l, -999999999999999 ≤ n ∧ n ≤ 999999999999999) a c w' (hA : SlAt w' a 1 (l.map isV)) => ints_holds a l c w' hA hl hb
  have i2 := fun w' => int_holds 2 w' (by decide) (by decide)
  have i5 := fun w' => int_holds 5 w' (by decide) (by decide)
  have hcm := fun w' => vCmp (x := ((2 : Int) : Rat)) (y := ((5 : Int) : Rat)) ((rI_few (n := 2) (by decide) (by decide)).big (by decide)) ((rI_few (n := 5) (by decide) (by decide)).big (by decide)) w'
  rw [show sgnR (((2 : Int) : Rat) - ((5 : Int) : Rat)) = -1 by kernel_rfl] at hcm
  generalize rQ ((2 : Int) : Rat) = q2 at *
  generalize rQ ((5 : Int) : Rat) = q5 at *
  obtain ⟨s2, u2, v2⟩ := q2
  obtain ⟨s5, u5, v5⟩ := q5
  dsimp only [qA] at i2 i5 hcm
  have hfT : ∀ q ∈ ([5, 2, 2, 0] : List Rat).map rQ, fewQ 30000 q := few_list (l := [5, 2, 2, 0]) (by decide) (by decide)
  have hf1 : ∀ q ∈ (([5, 2, 1, 1] : List Int).map rI).map rQ, fewQ 30000 q := few_list (by decide) (by decide)
  have hf2 : ∀ q ∈ (([5, 3, 1, 0] : List Int).map rI).map rQ, fewQ 30000 q := few_list (by decide) (by decide)
  have hf3 : ∀ q ∈ (([5, 4, 1, 0] : List Int).map rI).map rQ, fewQ 30000 q := few_list (by decide) (by decide)
  refine enterA [] Tryz.func13 Tryz.ntmps13 ?_
  all_goals (refine go ?_; and_intros <;> (try exact trivial) <;> repeat (first | refine fun (Bk : Nat) => ?_ | intro h))
  repeat' ((first | (apply G.cR (g := 52) (d := 23) (v := fun x : Nat × Nat × Option Addr × Nat × Nat => .tuple #[.agg #[.slice (some ⟨x.2.1, 0, none⟩) 3 3, .slice x.2.2.1 3 x.2.2.2.1], .slice (some ⟨x.2.2.2.2, 0, none⟩) 4 4]) (Mn := fun x => [.blk x.2.2.2.2 40 (flat cmV exC) 20, .blk x.2.1 183 (flat rcV (exR x.1)) 6, slRow w.heap.size x.2.2.1 3 (((exG 6).map rI).map qF), .blk x.1 3 [.int .i64 1] 1]); rfl; rfl; exact fun w' hw' => hex 6 (by decide) (by decide) _ w' hw'; rintro ⟨Bw, Br, ga, gc, Bc⟩; dsimp only) | (apply G.cR (g := 52) (d := 52) (v := fun x : Nat × Nat × Option Addr × Nat × Nat => .tuple #[.agg #[.slice (some ⟨x.2.1, 0, none⟩) 3 3, .slice x.2.2.1 3 x.2.2.2.1], .slice (some ⟨x.2.2.2.2, 0, none⟩) 4 4]) (Mn := fun x => [.blk x.2.2.2.2 40 (flat cmV exC) 20, .blk x.2.1 183 (flat rcV (exR x.1)) 6, slRow w.heap.size x.2.2.1 3 (((exG 10).map rI).map qF), .blk x.1 3 [.int .i64 1] 1]); rfl; rfl; exact fun w' hw' => hex 10 (by decide) (by decide) _ w' hw'; rintro ⟨Bw2, Br2, ga2, gc2, Bc2⟩; dsimp only) | (apply G.cN (g := 53) (fun a' c' => .tuple #[.slice a' 3 c', .int .i64 0]) (([6, 2, 9] : List Rat).map qF); rfl; rfl; exact fun w' hw' => ex1 Bw ▸ Arg.vPass (exArg (by decide) (by decide) hw' (by exact mm) (by exact mm) (by exact mm) (by exact mm)) 3 gc w' (Below.refl _ _); intro ap cp hp1 hq1) | (apply G.cN (g := 14) (d := 34) (fun a' c' => .tuple #[.slice a' 4 c', .int .i64 0]) (([5, 2, 2, 0] : List Rat).map qF); rfl; rfl; exact fun w' hw' => ex2 Bw ▸ Arg.vAllot (exArg (by decide) (by decide) hw' (by exact mm) (by exact mm) (by exact mm) (by exact mm)) (fun _ => ⟨show 3 ≤ 12 by decide, show 4 ≤ 20 by decide⟩) (fun _ n hn => sortsTo12 (Nat.le_trans hn (show 4 ≤ 12 by decide))) 3 gc 4 w' (Below.refl _ _); intro at1 ct1 hp2 hq2) | (apply G.cN (g := 54) (d := 41) (fun a' c' => .tuple #[.slice a' 3 c', .int .i64 0]) (([4, 0, 0] : List Rat).map qF); rfl; rfl; exact fun w' hw' => ex4 Bw ▸ Arg.vLeft (exArg (by decide) (by decide) hw' (by exact mm) (by exact mm) (by exact mm) (by exact mm)) (exT hw' (by exact mm)) hfT (show 4 ≤ 1000000 by decide) 3 gc 4 ct1 w' (Below.refl _ _); intro al cl hp3 hq3) | (apply G.cN (g := 55) (d := 48) (fun a' c' => .tuple #[.slice a' 4 c', .int .i64 0]) (([-1, 2, 1, 2] : List Int).map isV); rfl; rfl; exact fun w' hw' => ex5 Bw ▸ Arg.vFair (exArg (by decide) (by decide) hw' (by exact mm) (by exact mm) (by exact mm) (by exact mm)) (exT hw' (by exact mm)) hfT (show 4 ≤ 1000000 by decide) 3 gc 4 ct1 w' (Below.refl _ _); intro af cf hp4 hq4) | (apply G.cN (g := 14) (d := 58) (fun a' c' => .tuple #[.slice a' 4 c', .int .i64 0]) (([5, 4, 2, 2] : List Rat).map qF); rfl; rfl; exact fun w' hw' => ex3 Bw2 ▸ Arg.vAllot (exArg (n := 10) (Bw := Bw2) (by decide) (by decide) hw' (by exact mm) (by exact mm) (by exact mm) (by exact mm)) (fun _ => ⟨show 3 ≤ 12 by decide, show 4 ≤ 20 by decide⟩) (fun _ n hn => sortsTo12 (Nat.le_trans hn (show 4 ≤ 12 by decide))) 3 gc2 4 w' (Below.refl _ _); intro au cu hp5 hq5) | (apply J.regA (.q 0 <| .q 1 <| .e 2 <| .e 3 <| .r 4 <| .q 5 <| .q 6 <| .q 7 <| .q 8 <| .q 9 <| .nil); exact Tryz.mixed; decide +kernel) | (apply G.cN (g := 56) (d := 65) (fun a' c' => .slice a' 4 c') ((([5, 2, 1, 1] : List Int).map rI).map qF); rfl; rfl; exact fun w' hw' => hits [5, 2, 1, 1] (by decide) (by decide) _ _ w' (blkSlA (f := isV) (l := [5, 2, 1, 1]) hw' isV_len (by exact mm)).1; intro ax1 cx1 px1 qx1) | (apply G.cN (g := 56) (d := 73) (fun a' c' => .slice a' 4 c') ((([5, 3, 1, 0] : List Int).map rI).map qF); rfl; rfl; exact fun w' hw' => hits [5, 3, 1, 0] (by decide) (by decide) _ _ w' (blkSlA (f := isV) (l := [5, 3, 1, 0]) hw' isV_len (by exact mm)).1; intro ax2 cx2 px2 qx2) | (apply G.cN (g := 56) (d := 81) (fun a' c' => .slice a' 4 c') ((([5, 4, 1, 0] : List Int).map rI).map qF); rfl; rfl; exact fun w' hw' => hits [5, 4, 1, 0] (by decide) (by decide) _ _ w' (blkSlA (f := isV) (l := [5, 4, 1, 0]) hw' isV_len (by exact mm)).1; intro ax3 cx3 px3 qx3) | (apply G.cN (g := 55) (d := 66) (fun a' c' => .tuple #[.slice a' 0 c', .int .i64 22]) ([] : List (List Value)); rfl; rfl; exact fun w' hw' => ex6 Bw ▸ Arg.vFair (exArg (by decide) (by decide) hw' (by exact mm) (by exact mm) (by exact mm) (by exact mm)) (exT hw' (by exact mm)) hf1 (show 4 ≤ 1000000 by decide) 3 gc 4 cx1 w' (Below.refl _ _); intro _ _ _ _) | (apply G.cN (g := 55) (d := 74) (fun a' c' => .tuple #[.slice a' 0 c', .int .i64 22]) ([] : List (List Value)); rfl; rfl; exact fun w' hw' => ex7 Bw ▸ Arg.vFair (exArg (by decide) (by decide) hw' (by exact mm) (by exact mm) (by exact mm) (by exact mm)) (exT hw' (by exact mm)) hf2 (show 4 ≤ 1000000 by decide) 3 gc 4 cx2 w' (Below.refl _ _); intro _ _ _ _) | (apply G.cN (g := 54) (d := 82) (fun a' c' => .tuple #[.slice a' 0 c', .int .i64 20]) ([] : List (List Value)); rfl; rfl; exact fun w' hw' => ex8 Bw ▸ Arg.vLeft (exArg (by decide) (by decide) hw' (by exact mm) (by exact mm) (by exact mm) (by exact mm)) (exT hw' (by exact mm)) hf3 (show 4 ≤ 1000000 by decide) 3 gc 4 cx3 w' (Below.refl _ _); intro _ _ _ _) | (apply G.sliceL; rfl; rfl; rfl; rfl; rfl; rfl; rfl; rfl; intro Bs) | (apply G.cN (g := 56) (d := 119) (fun a' c' => .slice a' 3 c') ((([6, 2, 9] : List Int).map rI).map qF); rfl; rfl; exact fun w' hw' => hits [6, 2, 9] (by decide) (by decide) _ _ w' (blkSlA (f := isV) (l := [6, 2, 9]) hw' isV_len (by exact mm)).1; intro ay1 cy1 py1 qy1) | (apply G.cN (g := 56) (d := 125) (fun a' c' => .slice a' 4 c') ((([5, 2, 2, 0] : List Int).map rI).map qF); rfl; rfl; exact fun w' hw' => hits [5, 2, 2, 0] (by decide) (by decide) _ _ w' (blkSlA (f := isV) (l := [5, 2, 2, 0]) hw' isV_len (by exact mm)).1; intro ay2 cy2 py2 qy2) | (apply G.cN (g := 56) (d := 131) (fun a' c' => .slice a' 3 c') ((([4, 0, 0] : List Int).map rI).map qF); rfl; rfl; exact fun w' hw' => hits [4, 0, 0] (by decide) (by decide) _ _ w' (blkSlA (f := isV) (l := [4, 0, 0]) hw' isV_len (by exact mm)).1; intro ay3 cy3 py3 qy3) | (apply G.cN (g := 56) (d := 142) (fun a' c' => .slice a' 4 c') ((([5, 4, 2, 2] : List Int).map rI).map qF); rfl; rfl; exact fun w' hw' => hits [5, 4, 2, 2] (by decide) (by decide) _ _ w' (blkSlA (f := isV) (l := [5, 4, 2, 2]) hw' isV_len (by exact mm)).1; intro ay4 cy4 py4 qy4) | (apply G.cV (g := 18) (d := 120) (v := .bool true); rfl; rfl; exact fun w' hw' => sameF_holds _ _ ([6, 2, 9] : List Rat) _ _ w' (hw'.sl (by exact mm)) (hw'.sl (M := _) (L := (([6, 2, 9] : List Int).map rI).map qF) (by exact mm)) (show 3 ≤ 1000000 by decide)) | (apply G.cV (g := 18) (d := 126) (v := .bool true); rfl; rfl; exact fun w' hw' => sameF_holds _ _ ([5, 2, 2, 0] : List Rat) _ _ w' (hw'.sl (by exact mm)) (hw'.sl (M := _) (L := (([5, 2, 2, 0] : List Int).map rI).map qF) (by exact mm)) (show 4 ≤ 1000000 by decide)) | (apply G.cV (g := 18) (d := 132) (v := .bool true); rfl; rfl; exact fun w' hw' => sameF_holds _ _ ([4, 0, 0] : List Rat) _ _ w' (hw'.sl (by exact mm)) (hw'.sl (M := _) (L := (([4, 0, 0] : List Int).map rI).map qF) (by exact mm)) (show 3 ≤ 1000000 by decide)) | (apply G.cV (g := 18) (d := 143) (v := .bool true); rfl; rfl; exact fun w' hw' => sameF_holds _ _ ([5, 4, 2, 2] : List Rat) _ _ w' (hw'.sl (by exact mm)) (hw'.sl (M := _) (L := (([5, 4, 2, 2] : List Int).map rI).map qF) (by exact mm)) (show 4 ≤ 1000000 by decide)) | (apply G.cV (g := 57) (v := .bool true); rfl; rfl; exact fun w' hw' => sameI_holds _ _ [-1, 2, 1, 2] _ _ w' (hw'.sl (by exact mm)) (blkSlA (f := isV) (l := [-1, 2, 1, 2]) hw' isV_len (by exact mm)).1 (by decide)) | (apply G.cV (g := 58) (d := 146); rfl; rfl; exact fun w' _ => i2 w') | (apply G.cV (g := 58) (d := 147); rfl; rfl; exact fun w' _ => i5 w') | (apply G.cV (g := 16); rfl; rfl; exact fun w' _ => hcm w') | (apply G.cV (g := 48); rfl; rfl; exact fun w' hw' => ex9 Bw ▸ Arg.vck (exArg (by decide) (by decide) hw' (by exact mm) (by exact mm) (by exact mm) (by exact mm)) 3 gc 4 w' (Below.refl _ _))) <;> (refine go ?_; and_intros <;> (try exact trivial) <;> repeat (first | refine fun (Bk : Nat) => ?_ | intro h)))
  all_goals refine ret1b Tryz.func13 Tryz.results13 ?_
  all_goals rfl
end Go.Proofs.YtcdgibkbbcekhaaGreatDoor
/-
  How the arguments of the laws of rights read.
-/
namespace Go.Proofs.YtcdgibkbbcekhaaGreatDoor
open Go.RowKit Go.Sl Go.Num Go.ChangeShapes Go.WideShapes
theorem rKer9 : Reads Tryz.prog 181 (fun s : Sld Int => [s.v]) (fun w s => SlAt w s.ad 1 (s.l.map isV)) := (Reads.struct1 (n := 1) Tryz.underlying181 (by kernel_rfl) (by kernel_rfl) rInts).mono fun _ _ h => h.1
theorem rRch9 : Reads Tryz.prog 183 rcV (fun w r => SlAt w r.adr 1 (r.ws.map isV)) := (Reads.struct2 (n := 2) Tryz.underlying183 (by kernel_rfl) (by kernel_rfl) rInt rKer9).turn fun _ a h => ⟨⟨a.1, a.2.l, a.2.ad, a.2.cap⟩, rfl, h.2⟩
theorem rRchs9 : Reads Tryz.prog 22 (fun s : Sld Rch => [s.v]) (fun w s => SlAt w s.ad 2 (s.l.map rcV) ∧ KerAt w s.l) := (Reads.slice (sz := 2) Tryz.underlying22 (by kernel_rfl) (by decide) rRch9).mono fun _ _ h => ⟨h.1, h.2.2.2⟩
theorem rQs9 : Reads Tryz.prog 23 (fun s : Sld Q3 => [s.v]) (fun w s => SlAt w s.ad 3 (s.l.map qV)) := rRats
theorem rSup9 : Reads Tryz.prog 25 (fun s : Sld Rch × Sld Q3 => [s.1.v, s.2.v]) (fun w s => SupAt w s.1.ad s.1.l s.2.ad (s.2.l.map qV)) := (Reads.struct2 (n := 2) Tryz.underlying25 (by kernel_rfl) (by kernel_rfl) rRchs9 rQs9).mono fun _ _ h => ⟨h.1.1, h.1.2, h.2⟩
theorem rClm9 : Reads Tryz.prog 40 clV (fun _ _ => True) := (Reads.struct3 (n := 5) Tryz.underlying40 (by kernel_rfl) (by kernel_rfl) rInt rInt rRat).turn fun _ a h => ⟨⟨a.1, a.2.1, a.2.2⟩, rfl, trivial⟩
end Go.Proofs.YtcdgibkbbcekhaaGreatDoor
