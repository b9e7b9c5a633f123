/-
  Contracts: First of runs with an error.
-/
import Derived.Test.YtcdgibkbbcekhaaGreatDoorRA36
set_option linter.unusedVariables false
set_option linter.unusedSimpArgs false
set_option linter.unusedSectionVars false
namespace Go.Proofs.YtcdgibkbbcekhaaGreatDoor
open Go.RowKit Go.Sl Go.Num
theorem vFirstE_holds (a:Option Addr) (l:List Rn) (c:Nat) (w:World) (hA:RunsAt w a l) (hta:∀ r∈l,r.tab.length≤64) (hE:runsErr l≠0) :
  Calls Tryz.prog 22 #[.slice a l.length c] w fun e w'=>e=.returned (.tuple #[.agg #[.int .i64 0,.slice none 0 0],.int .i64 (runsErr l)])∧Below w.heap.size w w':=by
 have hc:=fun w' (hb:Below w.heap.size w w')=>vRuns_holds a l c w' (hA.below hb) hta
 generalize runsErr l=E at *
 refine enterA [(0,.slice a l.length c)] Tryz.func22 Tryz.ntmps22 ?_
 all_goals (refine go ?_;and_intros<;>(try exact trivial)<;>repeat (first|refine fun (Bk:Nat)=>?_|intro h))
 repeat' ((first|(refine G.cvb hc ?_))<;>(refine go ?_;and_intros<;>(try exact trivial)<;>repeat (first|refine fun (Bk:Nat)=>?_|intro h)))
 all_goals refine ret2b Tryz.func22 Tryz.results22 ?_
 all_goals rfl
theorem rFirstE_holds (a:Option Addr) (l:List Rn) (c:Nat) (w:World) (hA:RunsAt w a l) (hta:∀ r∈l,r.tab.length≤64) (hE:runsErr l≠0) :
  Calls Tryz.prog 25 #[.slice a l.length c] w fun e w'=>e=.returned (.agg #[.int .i64 0,.slice none 0 0,.int .i64 (runsErr l)])∧Below w.heap.size w w':=by
 have hc:=fun w' (hb:Below w.heap.size w w')=>rRuns_holds a l c w' (hA.below hb) hta
 generalize runsErr l=E at *
 refine enterA [(0,.slice a l.length c)] Tryz.func25 Tryz.ntmps25 ?_
 all_goals (refine go ?_;and_intros<;>(try exact trivial)<;>repeat (first|refine fun (Bk:Nat)=>?_|intro h))
 repeat' ((first|(refine G.cvb hc ?_))<;>(refine go ?_;and_intros<;>(try exact trivial)<;>repeat (first|refine fun (Bk:Nat)=>?_|intro h)))
 all_goals refine ret1b Tryz.func25 Tryz.results25 ?_
 all_goals rfl
theorem few16_holds (a:Option Addr) (l:List Rn) (c:Nat) (w:World) (hA:RunsAt w a l) :
  Calls Tryz.prog 19 #[.slice a l.length c] w fun e w'=>e=.returned (.bool (decide (fewR 30 60 l)))∧Below w.heap.size w w':=by
 have hf:=fun w' (hb:Below w.heap.size w w')=>rFew_holds a l c 30 60 w' (hA.below hb) (by decide)
 generalize decide (fewR 30 60 l)=F at *
 refine enterA [(0,.slice a l.length c)] Tryz.func19 Tryz.ntmps19 ?_
 all_goals (refine go ?_;and_intros<;>(try exact trivial)<;>repeat (first|refine fun (Bk:Nat)=>?_|intro h))
 repeat' ((first|(apply G.cV (g:=44);rfl;rfl;exact fun w' hw'=>hf w' hw'.below))<;>(refine go ?_;and_intros<;>(try exact trivial)<;>repeat (first|refine fun (Bk:Nat)=>?_|intro h)))
 all_goals refine ret1b Tryz.func19 Tryz.results19 ?_
 all_goals rfl
end Go.Proofs.YtcdgibkbbcekhaaGreatDoor
/-
 Small lists;equal lists are the same.
-/
namespace Go.Proofs.YtcdgibkbbcekhaaGreatDoor
open Go.RowKit Go.Sl Go.Num
theorem few_ok {l:List Rn} (h:fewR 30 60 l):l.length≤30∧∀ r∈l,r.tab.length≤64:=⟨h.1,fun r hr=>Nat.le_trans (h.2.1 r hr) (by decide)⟩
theorem same_true (a b:Option Addr) (l m:List Rn) (n c k d:Nat) (w:World) (hA:RunsAt w a l) (hB:RunsAt w b m) (he:l.map rbare=m.map rbare) (hn:l.length=n) (hk:m.length=k) (hs:n≤1000000) (ht:∀ r∈l,r.tab.length≤1000000) :
  Calls Tryz.prog 29 #[.slice a n c,.slice b k d] w fun e w'=>e=.returned (.bool true)∧Below w.heap.size w w':=by
 subst hn hk
 have h:=same16_holds a b l m c d w hA hB ⟨hs,by rw [← length_bare he];exact hs⟩ ht (tabs_bare he.symm ht)
 rw [decide_eq_true he] at h
 exact h
end Go.Proofs.YtcdgibkbbcekhaaGreatDoor
