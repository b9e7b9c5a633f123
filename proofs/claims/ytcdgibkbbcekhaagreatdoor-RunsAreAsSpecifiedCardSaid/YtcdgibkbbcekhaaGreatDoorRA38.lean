/-
  The law RunsAreAsSpecified.
-/
import Derived.Test.YtcdgibkbbcekhaaGreatDoorRA19
import Derived.Test.YtcdgibkbbcekhaaGreatDoorRA37
set_option linter.unusedVariables false
set_option linter.unusedSimpArgs false
set_option linter.unusedSectionVars false
namespace Go.Proofs.YtcdgibkbbcekhaaGreatDoor
open Go.RowKit Go.Sl Go.Num
theorem firstS_le (l:List Rn) (h:runsErr l=0):(firstS l).length≤40000:=by
 obtain ⟨hO,_,hC⟩:=runs_ok h
 by_cases h0:l=[]
 ·subst h0;exact Nat.zero_le _
 ·obtain ⟨h1,h2⟩:=hC h0
  have:=AgS.len h1 hO (AgS.first hO)
  omega
theorem ofE_tab (f:Int) (hs:List Int):∀ r∈(ofE f hs).1,r.tab.length≤1:=by
 rw [ofE]
 split
 ·exact fun r hr=>by cases hr
 ·have key:∀ (l o:List Rn),(∀ r∈o,r.tab.length≤1)→(∀ r∈l,r.tab.length≤1)→∀ r∈joinF o l,r.tab.length≤1:=fun l=>by
   induction l with
   | nil=>exact fun o h _=>h
   | cons x l ih =>
    intro o ho hl
    rw [joinF_cons]
    refine ih _ ?_ fun r hr=>hl r (List.mem_cons_of_mem _ hr)
    have hx:=hl x (List.mem_cons_self ..)
    intro r hr
    rcases nil_or_snoc o with rfl|⟨o,y,rfl⟩
    ·rw [putL_nil,List.mem_singleton] at hr;rw [hr];exact hx
    ·rw [putL_snoc] at hr
     split at hr
     ·rcases List.mem_append.1 hr with hr|hr
      ·exact ho r (List.mem_append_left _ hr)
      ·rw [List.mem_singleton.1 hr,jnR]
       dsimp only
       split
       ·exact Nat.zero_le _
       ·exact Nat.le_refl _
     ·rcases List.mem_append.1 hr with hr|hr
      ·exact ho r hr
      ·rw [List.mem_singleton.1 hr];exact hx
  refine key _ [] (fun r hr=>by cases hr) fun r hr=>?_
  obtain ⟨k,hk,rfl⟩:=List.mem_iff_getElem.1 hr
  rw [raws_get hs f k (by rwa [raws_len] at hk)]
  exact Nat.le_refl _
theorem ofE_len (f:Int) (hs:List Int):(ofE f hs).1.length≤hs.length:=by
 rw [ofE]
 split
 ·exact Nat.zero_le _
 ·have:=joinL_len (raws f hs)
  rw [raws_len] at this;exact this
set_option maxHeartbeats 4000000 in
theorem runs1_holds (w:World) (a:Option Addr) (l:List Rn) (c:Nat) (f:Int) (b:Option Addr) (hs:List Int) (d:Nat) (hA:RunsAt w a l) (hcl:l.length≤c) (hB:SlAt w b 1 (hs.map isV)) (hcd:hs.length≤d) :
  Calls Tryz.prog 4 #[.slice a l.length c,.agg #[.int .i64 f,.slice b hs.length d]] w fun e w'=>e=.returned (.bool true)∧Below w.heap.size w w':=by
 have hfw:=fun w' (hb:Below w.heap.size w w')=>few16_holds a l c w' (hA.below hb)
 by_cases hfe:fewR 30 60 l
 case neg =>
  rw [decide_eq_false hfe] at hfw
  clear hfe
  refine enterA [(0,.slice a l.length c),(1,.agg #[.int .i64 f,.slice b hs.length d])] Tryz.func4 Tryz.ntmps4 ?_
  all_goals (refine go ?_;and_intros<;>(try exact trivial)<;>repeat (first|refine fun (Bk:Nat)=>?_|intro h))
  repeat' ((first|(apply G.cV (g:=19);rfl;rfl;exact fun w' hw'=>hfw w' hw'.below)|(apply G.cV (g:=20);rfl;rfl;exact fun w' _=>sanity16_holds w'))<;>(refine go ?_;and_intros<;>(try exact trivial)<;>repeat (first|refine fun (Bk:Nat)=>?_|intro h)))
  all_goals refine ret1b Tryz.func4 Tryz.results4 ?_
  all_goals rfl
 rw [decide_eq_true hfe] at hfw
 by_cases h80:hs.length≤80
 case neg =>
  clear hfe
  refine enterA [(0,.slice a l.length c),(1,.agg #[.int .i64 f,.slice b hs.length d])] Tryz.func4 Tryz.ntmps4 ?_
  all_goals (refine go ?_;and_intros<;>(try exact trivial)<;>repeat (first|refine fun (Bk:Nat)=>?_|intro h))
  repeat' ((first|(apply G.cV (g:=19);rfl;rfl;exact fun w' hw'=>hfw w' hw'.below)|(apply G.cV (g:=20);rfl;rfl;exact fun w' _=>sanity16_holds w'))<;>(refine go ?_;and_intros<;>(try exact trivial)<;>repeat (first|refine fun (Bk:Nat)=>?_|intro h)))
  all_goals refine ret1b Tryz.func4 Tryz.results4 ?_
  all_goals rfl
 obtain ⟨hl,ht⟩:=few_ok hfe
 have oe1:=ofE_len f hs
 have oe2:=ofE_tab f hs
 have HO:=fun w' (hb:Below w.heap.size w w')=>vOf_holds f b hs d w' (hB.below hb) (by omega)
 have RO:=fun w' (hb:Below w.heap.size w w')=>rOf_holds f b hs d w' (hB.below hb) (by omega)
 have HC:=fun w' (hb:Below w.heap.size w w')=>vCount_holds a l c w' (hA.below hb) ht (by omega)
 have RC:=fun w' (hb:Below w.heap.size w w')=>rCount_holds a l c w' (hA.below hb) ht (by omega)
 have HK:=fun w' (hb:Below w.heap.size w w')=>vRuns_holds a l c w' (hA.below hb) ht
 have RK:=fun w' (hb:Below w.heap.size w w')=>rRuns_holds a l c w' (hA.below hb) ht
 have HA:=fun w' (hb:Below w.heap.size w w')=>agree_holds a b l f hs c d w' (hA.below hb) (hB.below hb) ht hcd (by omega)
 have RA:=fun w' (hb:Below w.heap.size w w')=>rAgree_holds a b l f hs c d w' (hA.below hb) (hB.below hb) ht hcd (by omega)
 have HFE:=fun hE w' (hb:Below w.heap.size w w')=>vFirstE_holds a l c w' (hA.below hb) ht hE
 have RFE:=fun hE w' (hb:Below w.heap.size w w')=>rFirstE_holds a l c w' (hA.below hb) ht hE
 have HF:=fun hE w' (hb:Below w.heap.size w w')=>vFirst_holds a l c w' (hA.below hb) ht hE (by omega)
 have RF:=fun hE w' (hb:Below w.heap.size w w')=>rFirst_holds a l c w' (hA.below hb) ht hE (by omega)
 have hfl:=firstS_le l
 generalize ofE f hs=oo at *
 obtain ⟨LO,eo⟩:=oo
 generalize cntE l=cc at *
 obtain ⟨cn,ce⟩:=cc
 dsimp only at HO RO HC RC oe1 oe2
 generalize agreeB l f hs=ag at *
 generalize firstS l=fs at *
 generalize firstF l=ff at *
 refine enterA [(0,.slice a l.length c),(1,.agg #[.int .i64 f,.slice b hs.length d])] Tryz.func4 Tryz.ntmps4 ?_
 by_cases hE:runsErr l=0
 ·have HF:=HF hE
  have RF:=RF hE
  have hfl:=hfl hE
  rw [hE] at HK RK
  clear HFE RFE hE hfe
  have hsh:=fun a1 a2 c1 c2 w' (h1:SlAt w' a1 1 (fs.map isV)) (h2:SlAt w' a2 1 (fs.map isV))=>sameH_holds ff ff a1 a2 fs fs c1 c2 w' h1 h2 ⟨by omega,by omega⟩
  rw [decide_eq_true (⟨rfl,rfl⟩:fs=fs∧ff=ff)] at hsh
  cases ag
  all_goals
   all_goals (refine go ?_;and_intros<;>(try exact trivial)<;>repeat (first|refine fun (Bk:Nat)=>?_|intro h))
   repeat' ((first|(apply G.cV (g:=19);rfl;rfl;exact fun w' hw'=>hfw w' hw'.below)|(apply G.eqlStr;rfl;rfl;rfl;rfl;rfl;all_goals intro h;all_goals try (exact absurd rfl h))|(refine G.cU (g:=21) (fun a' n c'=>.tuple #[.slice a' n c',.int .i64 eo]) (fun L=>L.map rbare=LO.map rbare) [] (.inl rfl) rfl rfl (fun w' hw'=>HO w' hw'.below) ?_;intro L1 a1 c1 hL1 _ _)|(refine G.cU (g:=24) (fun a' n c'=>.agg #[.slice a' n c',.int .i64 eo]) (fun L=>L.map rbare=LO.map rbare) [] (.inl rfl) rfl rfl (fun w' hw'=>RO w' hw'.below) ?_;intro L2 a2 c2 hL2 _ _)|(apply G.cV (g:=23);rfl;rfl;exact fun w' hw'=>HC w' hw'.below)|(apply G.cV (g:=26);rfl;rfl;exact fun w' hw'=>RC w' hw'.below)|(apply G.cV (g:=27);rfl;rfl;exact fun w' hw'=>HK w' hw'.below)|(apply G.cV (g:=28);rfl;rfl;exact fun w' hw'=>RK w' hw'.below)|(apply G.cV (g:=30);rfl;rfl;exact fun w' hw'=>HA w' hw'.below)|(apply G.cV (g:=31);rfl;rfl;exact fun w' hw'=>RA w' hw'.below)|(apply G.cV (g:=29) (d:=55);rfl;rfl;exact fun w' hw'=>same_true _ _ L1 L2 _ _ _ _ w' (RunsAt.of hw') (RunsAt.of hw') (hL1.trans hL2.symm) rfl rfl (by rw [length_bare hL1];omega) (tabs_bare hL1 fun r hr=>Nat.le_trans (oe2 r hr) (by decide)))|(apply G.cV (g:=20);rfl;rfl;exact fun w' _=>sanity16_holds w')|(apply G.cV (g:=32) (vs:=[.agg #[.int .i64 ff,.slice aF fs.length cF],.agg #[.int .i64 ff,.slice aG fs.length cG]]);rfl;rfl;exact fun w' hw'=>hsh aF aG cF cG w' (SlAt.ofOwn isV_len (hw'.hold (.own 0 (.slice aF fs.length cF) 3 1 fs.length (flat isV fs)) mm) rfl) (SlAt.ofOwn isV_len (hw'.hold (.own 0 (.slice aG fs.length cG) 3 1 fs.length (flat isV fs)) mm) rfl))|(apply G.cO (g:=22) (fun u=>.tuple #[.agg #[.int .i64 ff,u],.int .i64 0]);rfl;rfl;exact fun w' hw'=>HF w' hw'.below;intro u;refine G.ownForm' RAt.au ?_;intro aF cF hv;subst hv)|(apply G.cO (g:=25) (fun u=>.agg #[.int .i64 ff,u,.int .i64 0]);rfl;rfl;exact fun w' hw'=>RF w' hw'.below;intro u;refine G.ownForm' RAt.au ?_;intro aG cG hv;subst hv))<;>(refine go ?_;and_intros<;>(try exact trivial)<;>repeat (first|refine fun (Bk:Nat)=>?_|intro h)))
   all_goals refine ret1b Tryz.func4 Tryz.results4 ?_
   all_goals rfl
 ·have HFE:=HFE hE
  have RFE:=RFE hE
  clear HF RF hfl hfe
  generalize runsErr l=E at *
  have hsh:=fun w'=>sameH_holds 0 0 none none [] [] 0 0 w' SlAt.nil SlAt.nil ⟨by decide,by decide⟩
  rw [decide_eq_true (⟨rfl,rfl⟩:([]:List Int)=[]∧(0:Int)=0)] at hsh
  cases ag
  all_goals
   all_goals (refine go ?_;and_intros<;>(try exact trivial)<;>repeat (first|refine fun (Bk:Nat)=>?_|intro h))
   repeat' ((first|(apply G.cV (g:=19);rfl;rfl;exact fun w' hw'=>hfw w' hw'.below)|(apply G.eqlStr;rfl;rfl;rfl;rfl;rfl;all_goals intro h;all_goals try (exact absurd rfl h))|(refine G.cU (g:=21) (fun a' n c'=>.tuple #[.slice a' n c',.int .i64 eo]) (fun L=>L.map rbare=LO.map rbare) [] (.inl rfl) rfl rfl (fun w' hw'=>HO w' hw'.below) ?_;intro L1 a1 c1 hL1 _ _)|(refine G.cU (g:=24) (fun a' n c'=>.agg #[.slice a' n c',.int .i64 eo]) (fun L=>L.map rbare=LO.map rbare) [] (.inl rfl) rfl rfl (fun w' hw'=>RO w' hw'.below) ?_;intro L2 a2 c2 hL2 _ _)|(apply G.cV (g:=23);rfl;rfl;exact fun w' hw'=>HC w' hw'.below)|(apply G.cV (g:=26);rfl;rfl;exact fun w' hw'=>RC w' hw'.below)|(apply G.cV (g:=27);rfl;rfl;exact fun w' hw'=>HK w' hw'.below)|(apply G.cV (g:=28);rfl;rfl;exact fun w' hw'=>RK w' hw'.below)|(apply G.cV (g:=30);rfl;rfl;exact fun w' hw'=>HA w' hw'.below)|(apply G.cV (g:=31);rfl;rfl;exact fun w' hw'=>RA w' hw'.below)|(apply G.cV (g:=29) (d:=55);rfl;rfl;exact fun w' hw'=>same_true _ _ L1 L2 _ _ _ _ w' (RunsAt.of hw') (RunsAt.of hw') (hL1.trans hL2.symm) rfl rfl (by rw [length_bare hL1];omega) (tabs_bare hL1 fun r hr=>Nat.le_trans (oe2 r hr) (by decide)))|(apply G.cV (g:=20);rfl;rfl;exact fun w' _=>sanity16_holds w')|(apply G.cV (g:=32);rfl;rfl;exact fun w' hw'=>hsh w')|(apply G.cV (g:=22);rfl;rfl;exact fun w' hw'=>HFE w' hw'.below)|(apply G.cV (g:=25);rfl;rfl;exact fun w' hw'=>RFE w' hw'.below))<;>(refine go ?_;and_intros<;>(try exact trivial)<;>repeat (first|refine fun (Bk:Nat)=>?_|intro h)))
   all_goals refine ret1b Tryz.func4 Tryz.results4 ?_
   all_goals rfl
end Go.Proofs.YtcdgibkbbcekhaaGreatDoor
