/-
  Plain: what is finer, for runs of few ticks; a list is finer than its summary.
-/
import Derived.Test.YtcdgibkbbcekhaaDoorRD10
set_option linter.unusedVariables false
set_option linter.unusedSimpArgs false
set_option linter.unusedSectionVars false
namespace Go.Proofs.YtcdgibkbbcekhaaDoor
open Go.RowKit Go.Sl Go.Num
theorem cn_lt {l:List Rn}{f t:Int} (hC:Cn f l t) (ho:∀ r∈l,OkR r) (h0:l≠[]):f < t:=by
 cases l with
 | nil=>exact absurd rfl h0
 | cons x l =>
  have h1:=(ho x (List.mem_cons_self ..)).rng
  have h2:=hC.2.le fun r hr=>ho r (List.mem_cons_of_mem x hr)
  have h3:=hC.1
  omega
theorem fin_err {a b:List Rn} (ha:runsErr a=0) (hb:runsErr b=0):(finE a b).2=0:=by
 rw [finE,if_neg (fun e=>e ha),if_neg (fun e=>e hb)]
 split
 ·rfl
 ·split<;>rfl
theorem fin_self {a:List Rn} (ha:runsErr a=0):finE a a=(true,0):=by
 refine Prod.ext ?_ (fin_err ha ha)
 by_cases h0:a=[]
 ·rw [finE,if_neg (fun e=>e ha),if_neg (fun e=>e ha),if_pos (.inl (by rw [h0];rfl))]
  exact decide_eq_true rfl
 ·exact (finE_iff ha ha h0 h0).2 ⟨rfl,rfl,fun S h=>h⟩
theorem fin_sum {a S:List Rn}{N:Nat} (ha:runsErr a=0) (hN:N≤2000) (hl:a≠[]→(lastD a).to_-(headD' a).from_≤N) (h:(sumE a).2=0) (hS:S.map rbare=(sumE a).1.map rbare):finE a S=(true,0)∧S.length≤N∧∀ r∈S,r.tab.length≤N:=by
 have hS2:S.length=(sumE a).1.length:=by rw [← List.length_map (f:=rbare),hS,List.length_map]
 suffices hh:finE a (sumE a).1=(true,0)∧(sumE a).1.length≤N∧∀ r∈(sumE a).1,r.tab.length≤N from ⟨by rw [← hh.1,← finE_bare,hS,finE_bare],by rw [hS2];exact hh.2.1,tabs_bare hS hh.2.2⟩
 rw [sumE,if_neg (fun e=>e ha)] at h ⊢
 cases hx:smF a.length [] a with
 | none=>rw [hx] at h;cases h
 | some o =>
  rw [hx] at h
  dsimp only
  obtain ⟨hO,_,hC⟩:=runs_ok ha
  by_cases h0:a=[]
  ·subst h0
   cases hx
   exact ⟨fin_self ha,Nat.zero_le _,fun r hr=>by cases hr⟩
  ·obtain ⟨hC,_⟩:=hC h0
   have h1:=hl h0
   obtain ⟨c1,o1,g1⟩:=smF_ok a.length (Nat.le_refl _) (show Cn (headD' a).from_ [] (headD' a).from_ from rfl) (fun r hr=>by cases hr) hC hO hx
   obtain ⟨c2,o2,g2,_⟩:=joinL_ok c1 o1
   have hj:=runs_of c2 o2 (by omega)
   have hlt:=hC.le hO
   have hne:a≠[]:=h0
   have hlt2:=cn_lt hC hO h0
   have hj0:joinL o≠[]:=c2.ne hlt2
   refine ⟨Prod.ext ?_ (fin_err ha hj),by have:=c2.le o2;omega,fun r hr=>by have:=cn_in c2 o2 r hr;have:=(o2 r hr).tlen;omega⟩
   exact (finE_iff ha hj h0 hj0).2 ⟨((c2.first hj0).1).symm,(c2.last hj0).symm,fun A hA=>g2 A (g1 [] A rfl hA)⟩
end Go.Proofs.YtcdgibkbbcekhaaDoor
/-
 Plain: raw runs of a history agree with it alone.
-/
namespace Go.Proofs.YtcdgibkbbcekhaaDoor
open Go.RowKit Go.Sl Go.Num
def One (r:Rn):Prop:=r.tab.length=1
theorem joinF_one:∀ (l o:List Rn),(∀ r∈o,One r)→(∀ r∈l,One r)→∀ r∈joinF o l,One r
 | [],o,h,_=>h
 | x::l,o,ho,hl=>by
  rw [joinF_cons]
  refine joinF_one l _ ?_ fun r hr=>hl r (List.mem_cons_of_mem _ hr)
  have hx:=hl x (List.mem_cons_self ..)
  intro r hr
  rcases nil_or_snoc o with rfl|⟨o,y,rfl⟩
  ·rw [putL_nil,List.mem_singleton] at hr;rw [hr];exact hx
  ·rw [putL_snoc] at hr
   split at hr
   ·rcases List.mem_append.1 hr with hr|hr
    ·exact ho r (List.mem_append_left _ hr)
    ·rw [List.mem_singleton.1 hr,One,jnR]
     dsimp only
     rw [if_neg (by rw [One] at hx;omega)]
     rfl
   ·rcases List.mem_append.1 hr with hr|hr
    ·exact ho r hr
    ·rw [List.mem_singleton.1 hr];exact hx
theorem raws_one:∀ (hs:List Int) (f:Int),∀ r∈raws f hs,One r
 | [],_,r,hr=>by cases hr
 | s::t,f,r,hr=>by
  rcases List.mem_cons.1 hr with rfl|hr
  ·rfl
  ·exact raws_one t (f+1) r hr
theorem one_bare {l m:List Rn} (h:l.map rbare=m.map rbare) (hm:∀ r∈m,One r):∀ r∈l,One r:=fun r hr=>by
 have h1:=List.mem_map_of_mem (f:=rbare) hr
 rw [h] at h1
 obtain ⟨x,hx,e⟩:=List.mem_map.1 h1
 have h2:(rbare x).tab=(rbare r).tab:=by rw [e]
 have h3:x.tab=r.tab:=h2
 rw [One,← h3];exact hm x hx
theorem cntL_one:∀ {l:List Rn},(∀ r∈l,One r)→cntL l=1
 | [],_=>rfl
 | r::l,h=>by
  have h1:=h r (List.mem_cons_self ..)
  rw [One] at h1
  rw [cntL,cntL_one fun x hx=>h x (List.mem_cons_of_mem r hx),cntR,if_neg (by omega)]
  obtain ⟨x,hx⟩:∃ x,r.tab=[x]:=by
   match h:r.tab,h1 with
   | [x],_=>exact ⟨x,rfl⟩
  rw [hx]
  show chs 0 x.2.toNat*mnl _ []*1=1
  rw [mnl,show chs 0 x.2.toNat=1 from rfl]
theorem AgS.uniq:∀ {l:List Rn}{A B:List Int},(∀ r∈l,OkR r)→(∀ r∈l,One r)→AgS l A→AgS l B→A=B
 | [],A,B,_,_,h1,h2=>by
  rw [AgS] at h1 h2
  rw [h1,h2]
 | r::l,A,B,ho,h1,⟨A1,A2,ea,a1,a2⟩,⟨B1,B2,eb,b1,b2⟩=>by
  have hr:=ho r (List.mem_cons_self ..)
  have h11:=h1 r (List.mem_cons_self ..)
  obtain ⟨n,hn⟩:=AgP.rep hr h11 a1
  obtain ⟨m,hm⟩:=AgP.rep hr h11 b1
  have l1:=AgP.len hr a1
  have l2:=AgP.len hr b1
  rw [hn,List.length_replicate] at l1
  rw [hm,List.length_replicate] at l2
  obtain rfl:n=m:=by omega
  rw [ea,eb,hn,hm,AgS.uniq (fun y hy=>ho y (List.mem_cons_of_mem r hy)) (fun y hy=>h1 y (List.mem_cons_of_mem r hy)) a2 b2]
structure HsLaw (f:Int) (hs:List Int) (L:List Rn):Prop where
 err:runsErr L=0
 cnt:cntE L=(nB 1,0)
 sum:(sumE L).2=0
 len:L.length≤60∧∀ r∈L,r.tab.length≤60
 agr:agreeB L f hs=true
 alone:hs.length≠0→∀ g ks,agreeB L g ks=decide (hs=ks∧f=g)
 up:∀ S,S.map rbare=(sumE L).1.map rbare→agreeB S f hs=true∧S.length≤60∧∀ r∈S,r.tab.length≤60
theorem ds_nil {f:Int}{l:List Rn} (h:Ds f [] l):l=[]:=by
 rcases h with ⟨_,h⟩|⟨a,b,h,_⟩
 ·exact h
 ·cases h
theorem hs_law {f:Int}{hs:List Int} (hr:rightH f hs=true) (hn:hs.length≤60) {L:List Rn} (hL:L.map rbare=(joinL (raws f hs)).map rbare):HsLaw f hs L:=by
 have hD:Ds f hs L:=(Ds.of hr).eqB hL
 have hO:=hD.ok
 have hC:=hD.cn
 have hb:=hD.bd
 have h1:∀ r∈L,One r:=one_bare hL (joinF_one _ _ (fun r hr=>by cases hr) (raws_one hs f))
 have hE:runsErr L=0:=runs_of hC hO (by omega)
 have hS:=hD.sum (by omega)
 have hag:AgS (joinL (raws f hs)) hs∧(joinL (raws f hs)≠[]→runsErr (joinL (raws f hs))=0∧(headD' (joinL (raws f hs))).from_=f):=by
  have hD':=Ds.of hr
  refine ⟨?_,fun h=>⟨runs_of hD'.cn hD'.ok (by omega),(hD'.cn.first h).1⟩⟩
  exact (joinL_ok (raws_cn hs f) (raws_ok hr)).2.2.1 hs (raws_ag hs f)
 have hAg:agreeB L f hs=true:=by
  rw [← agreeB_bare,hL,agreeB_bare]
  by_cases h0:joinL (raws f hs)=[]
  ·have h2:L=[]:=List.length_eq_zero_iff.1 (by rw [← List.length_map (f:=rbare),hL,h0];rfl)
   have h3:=hC
   rw [h2] at h3
   have h4:f=f+(hs.length:Int):=h3
   rw [h0,agreeB_nil,hr,decide_eq_true (by omega)];rfl
  ·obtain ⟨k1,k2⟩:=hag.2 h0
   exact (agreeB_iff k1 h0).2 ⟨k2.symm,hag.1⟩
 refine ⟨hE,?_,hS.1,⟨by omega,fun r hr=>by have:=hb.2 r hr;omega⟩,hAg,fun h0 g ks=>?_,fun S hSS=>?_⟩
 ·rw [cntE,if_neg (fun h=>h hE),if_neg,cntL_one h1]
  rintro ⟨q1,q2⟩
  have h0:L≠[]:=fun e=>q1 (by rw [e];rfl)
  rw [hC.last h0,(hC.first h0).1] at q2
  omega
 ·have hne:L≠[]:=hC.ne (by omega)
  have e1:=(hC.first hne).1
  have h2:=((agreeB_iff hE hne).1 hAg).2
  rw [Bool.eq_iff_iff,agreeB_iff hE hne,decide_eq_true_eq,e1]
  exact ⟨fun ⟨q1,q2⟩=>⟨AgS.uniq hO h1 h2 q2,q1.symm⟩,fun ⟨q1,q2⟩=>⟨q2.symm,q1 ▸ h2⟩⟩
 ·have hDS:Ds f hs S:=(hS.2).eqB hSS
  obtain ⟨k1,k2,k3⟩:=fin_sum (N:=60) hE (by decide) (fun h0=>by rw [hC.last h0,(hC.first h0).1];omega) hS.1 hSS
  refine ⟨?_,k2,k3⟩
  by_cases h0:hs.length=0
  ·obtain rfl:=List.length_eq_zero_iff.1 h0
   rw [ds_nil hDS,agreeB_nil,hr];rfl
  ·have hne:L≠[]:=hC.ne (by omega)
   have hneS:S≠[]:=hDS.cn.ne (by omega)
   have hES:runsErr S=0:=runs_of hDS.cn hDS.ok (by omega)
   have h2:=((agreeB_iff hE hne).1 hAg).2
   have h3:=(finE_iff hE hES hne hneS).1 (by rw [k1])
   exact (agreeB_iff hES hneS).2 ⟨((hDS.cn.first hneS).1).symm,h3.2.2 hs h2⟩
end Go.Proofs.YtcdgibkbbcekhaaDoor
/-
 The law RunsOfHistories.
-/
namespace Go.Proofs.YtcdgibkbbcekhaaDoor
open Go.RowKit Go.Sl Go.Num
set_option maxHeartbeats 4000000 in
theorem runs3_holds (w:World) (f:Int) (a:Option Addr) (hs:List Int) (c:Nat) (g:Int) (b:Option Addr) (ks:List Int) (d:Nat) (hA:SlAt w a 1 (hs.map isV)) (hc:hs.length≤c) (hm:hs.length≤9223372036854775807) (hB:SlAt w b 1 (ks.map isV)) (hd:ks.length≤d) :
  Calls Tryd.prog 3 #[.agg #[.int .i64 f,.slice a hs.length c],.agg #[.int .i64 g,.slice b ks.length d]] w fun e w'=>e=.returned (.bool true)∧Below w.heap.size w w':=by
 have hri:=fun w' (hb:Below w.heap.size w w')=>rRight_holds f a hs c w' (hA.below hb) hm
 by_cases hg:hs.length≤60∧ks.length≤60∧rightH f hs=true
 case neg =>
  generalize rightH f hs=r at *
  cases r
  all_goals
   simp only [and_true,and_false,not_false_eq_true,Bool.false_eq_true] at hg
   refine enterA [(0,.agg #[.int .i64 f,.slice a hs.length c]),(1,.agg #[.int .i64 g,.slice b ks.length d])] Tryd.func3 Tryd.ntmps3 ?_
   all_goals (refine go ?_;and_intros<;>(try exact trivial)<;>repeat (first|refine fun (Bk:Nat)=>?_|intro h))
   repeat' ((first|(apply G.cV (g:=4);rfl;rfl;exact fun w' hw'=>hri w' hw'.below)|(apply G.cV (g:=5);rfl;rfl;exact fun w' _=>sanity16_holds w'))<;>(refine go ?_;and_intros<;>(try exact trivial)<;>repeat (first|refine fun (Bk:Nat)=>?_|intro h)))
   all_goals refine ret1b Tryd.func3 Tryd.results3 ?_
   all_goals rfl
 obtain ⟨hn,hk,hr⟩:=hg
 rw [hr] at hri
 have hO:ofE f hs=(joinL (raws f hs),0):=by rw [ofE,if_neg (by rw [hr];decide)]
 have HO:=fun w' (hb:Below w.heap.size w w')=>(vOf_holds f a hs c w' (hA.below hb) (by omega))
 rw [hO] at HO
 have HO:∀ w',Below w.heap.size w w'→Calls Tryd.prog 6 #[.agg #[.int .i64 f,.slice a hs.length c]] w' (RetU [] (HsLaw f hs) (fun a' n c'=>.tuple #[.slice a' n c',.int .i64 0]) w'):=fun w' hb=>(HO w' hb).mono fun e w2 ⟨L,a',c',hL,r⟩=>⟨L,a',c',hs_law hr hn hL,r⟩
 have HC:∀ (aL:Option Addr) (L:List Rn) (cL:Nat),HsLaw f hs L→∀ w',RunsAt w' aL L→Calls Tryd.prog 7 #[.slice aL L.length cL] w' fun e w2=>e=.returned (.tuple #[.string (bs (nB 1)),.int .i64 0])∧Below w'.heap.size w' w2:=fun aL L cL h w' h1=>by
  have h2:=vCount_holds aL L cL w' h1 (fun r hr=>by have:=h.len.2 r hr;omega) (by have:=h.len.1;omega)
  rw [h.cnt] at h2
  exact h2
 have HS:∀ (aL:Option Addr) (L:List Rn) (cL:Nat),HsLaw f hs L→L.length≤cL→∀ w',RunsAt w' aL L→Calls Tryd.prog 8 #[.slice aL L.length cL] w' (RetU [] (fun S=>S.map rbare=(sumE L).1.map rbare) (fun a' n c'=>.tuple #[.slice a' n c',.int .i64 0]) w'):=fun aL L cL h hcL w' h1=>by
  have h2:=vSum_holds aL L cL w' h1 (fun r hr=>by have:=h.len.2 r hr;omega) (by have:=h.len.1;omega) hcL
  rw [h.sum] at h2
  exact h2
 have HK:∀ (aL:Option Addr) (L:List Rn) (cL:Nat),HsLaw f hs L→∀ w',RunsAt w' aL L→Calls Tryd.prog 9 #[.slice aL L.length cL] w' fun e w2=>e=.returned (.int .i64 0)∧Below w'.heap.size w' w2:=fun aL L cL h w' h1=>by
  have h2:=vRuns_holds aL L cL w' h1 (fun r hr=>by have:=h.len.2 r hr;omega)
  rw [h.err] at h2
  exact h2
 have HT:=fun w'=>natText_holds (nB 1) w' (by decide +kernel)
 rw [show decT (vB (nB 1))=[49] by decide +kernel] at HT
 have H1:∀ (aL:Option Addr) (L:List Rn) (cL:Nat),HsLaw f hs L→∀ w',Below w.heap.size w w'→RunsAt w' aL L→Calls Tryd.prog 11 #[.slice aL L.length cL,.agg #[.int .i64 f,.slice a hs.length c]] w' fun e w2=>e=.returned (.bool true)∧Below w'.heap.size w' w2:=fun aL L cL h w' hb h1=>by
  have h2:=agree_holds aL a L f hs cL c w' h1 (hA.below hb) (fun r hr=>by have:=h.len.2 r hr;omega) hc (by omega)
  rw [h.agr] at h2
  exact h2
 have H2:∀ (aL:Option Addr) (L:List Rn) (cL:Nat),HsLaw f hs L→∀ (aS:Option Addr) (S:List Rn) (cS:Nat),S.map rbare=(sumE L).1.map rbare→∀ w',Below w.heap.size w w'→RunsAt w' aS S→Calls Tryd.prog 11 #[.slice aS S.length cS,.agg #[.int .i64 f,.slice a hs.length c]] w' fun e w2=>e=.returned (.bool true)∧Below w'.heap.size w' w2:=fun aL L cL h aS S cS hS w' hb h1=>by
  obtain ⟨u1,u2,u3⟩:=h.up S hS
  have h2:=agree_holds aS a S f hs cS c w' h1 (hA.below hb) (fun r hr=>by have:=u3 r hr;omega) hc (by omega)
  rw [u1] at h2
  exact h2
 have H3:hs.length≠0→∀ (aL:Option Addr) (L:List Rn) (cL:Nat),HsLaw f hs L→∀ w',Below w.heap.size w w'→RunsAt w' aL L→Calls Tryd.prog 11 #[.slice aL L.length cL,.agg #[.int .i64 g,.slice b ks.length d]] w' fun e w2=>e=.returned (.bool (decide (hs=ks∧f=g)))∧Below w'.heap.size w' w2:=fun h0 aL L cL h w' hb h1=>by
  have h2:=agree_holds aL b L g ks cL d w' h1 (hB.below hb) (fun r hr=>by have:=h.len.2 r hr;omega) hd (by omega)
  rw [h.alone h0] at h2
  exact h2
 have HM:=fun w' (hb:Below w.heap.size w w')=>sameH_holds f g a b hs ks c d w' (hA.below hb) (hB.below hb) ⟨by omega,by omega⟩
 generalize decide (hs=ks∧f=g)=D at *
 clear hO hA hB hr
 by_cases h0:hs.length=0
 ·clear H3
  refine enterA [(0,.agg #[.int .i64 f,.slice a hs.length c]),(1,.agg #[.int .i64 g,.slice b ks.length d])] Tryd.func3 Tryd.ntmps3 ?_
  all_goals (refine go ?_;and_intros<;>(try exact trivial)<;>repeat (first|refine fun (Bk:Nat)=>?_|intro h))
  repeat' ((first|(apply G.cV (g:=4);rfl;rfl;exact fun w' hw'=>hri w' hw'.below)|(refine G.cU (g:=6) (d:=32) (fun a' n c'=>.tuple #[.slice a' n c',.int .i64 0]) (HsLaw f hs) [] (.inl rfl) rfl rfl ?_ ?_;exact fun w' hw'=>HO w' hw'.below;intro L aL cL hL hL2 _)|(apply G.cV (g:=7) (d:=37);rfl;rfl;exact fun w' hw'=>HC aL L cL hL w' (RunsAt.of hw'))|(refine G.cU (g:=8) (d:=42) (fun a' n c'=>.tuple #[.slice a' n c',.int .i64 0]) (fun S=>S.map rbare=(sumE L).1.map rbare) [] (.inl rfl) rfl rfl ?_ ?_;exact fun w' hw'=>HS aL L cL hL hL2.2.2 w' (RunsAt.of hw');intro S aS cS hS hS2 _)|(apply G.cV (g:=9) (d:=57);rfl;rfl;exact fun w' hw'=>HK aL L cL hL w' (RunsAt.of hw'))|(apply G.cV (g:=10);rfl;rfl;exact fun w' _=>HT w')|(apply G.neqStr;rfl;rfl;rfl;rfl;rfl;all_goals intro h;all_goals try (exact absurd rfl h))|(apply G.cV (g:=11) (d:=68);rfl;rfl;exact fun w' hw'=>H1 aL L cL hL w' hw'.below (RunsAt.of hw'))|(apply G.cV (g:=11) (d:=80);rfl;rfl;exact fun w' hw'=>H2 aL L cL hL aS S cS hS w' hw'.below (RunsAt.of hw'))|(apply G.cV (g:=12);rfl;rfl;exact fun w' hw'=>HM w' hw'.below)|(apply G.cV (g:=5);rfl;rfl;exact fun w' _=>sanity16_holds w')|fail)<;>(refine go ?_;and_intros<;>(try exact trivial)<;>repeat (first|refine fun (Bk:Nat)=>?_|intro h)))
  all_goals refine ret1b Tryd.func3 Tryd.results3 ?_
  all_goals rfl
 ·have H3:=H3 h0
  refine enterA [(0,.agg #[.int .i64 f,.slice a hs.length c]),(1,.agg #[.int .i64 g,.slice b ks.length d])] Tryd.func3 Tryd.ntmps3 ?_
  cases D
  all_goals
   all_goals (refine go ?_;and_intros<;>(try exact trivial)<;>repeat (first|refine fun (Bk:Nat)=>?_|intro h))
   repeat' ((first|(apply G.cV (g:=4);rfl;rfl;exact fun w' hw'=>hri w' hw'.below)|(refine G.cU (g:=6) (d:=32) (fun a' n c'=>.tuple #[.slice a' n c',.int .i64 0]) (HsLaw f hs) [] (.inl rfl) rfl rfl ?_ ?_;exact fun w' hw'=>HO w' hw'.below;intro L aL cL hL hL2 _)|(apply G.cV (g:=7) (d:=37);rfl;rfl;exact fun w' hw'=>HC aL L cL hL w' (RunsAt.of hw'))|(refine G.cU (g:=8) (d:=42) (fun a' n c'=>.tuple #[.slice a' n c',.int .i64 0]) (fun S=>S.map rbare=(sumE L).1.map rbare) [] (.inl rfl) rfl rfl ?_ ?_;exact fun w' hw'=>HS aL L cL hL hL2.2.2 w' (RunsAt.of hw');intro S aS cS hS hS2 _)|(apply G.cV (g:=9) (d:=57);rfl;rfl;exact fun w' hw'=>HK aL L cL hL w' (RunsAt.of hw'))|(apply G.cV (g:=10);rfl;rfl;exact fun w' _=>HT w')|(apply G.neqStr;rfl;rfl;rfl;rfl;rfl;all_goals intro h;all_goals try (exact absurd rfl h))|(apply G.cV (g:=11) (d:=68);rfl;rfl;exact fun w' hw'=>H1 aL L cL hL w' hw'.below (RunsAt.of hw'))|(apply G.cV (g:=11) (d:=80);rfl;rfl;exact fun w' hw'=>H2 aL L cL hL aS S cS hS w' hw'.below (RunsAt.of hw'))|(apply G.cV (g:=12);rfl;rfl;exact fun w' hw'=>HM w' hw'.below)|(apply G.cV (g:=5);rfl;rfl;exact fun w' _=>sanity16_holds w')|(apply G.cV (g:=11) (d:=101);rfl;rfl;exact fun w' hw'=>H3 aL L cL hL w' hw'.below (RunsAt.of hw')))<;>(refine go ?_;and_intros<;>(try exact trivial)<;>repeat (first|refine fun (Bk:Nat)=>?_|intro h)))
   all_goals refine ret1b Tryd.func3 Tryd.results3 ?_
   all_goals rfl
end Go.Proofs.YtcdgibkbbcekhaaDoor
/-
 How a history reads,with the bound of its length.
-/
namespace Go.Proofs.YtcdgibkbbcekhaaDoor
open Go.RowKit Go.Sl Go.Num Go.ChangeShapes Go.WideShapes
set_option maxRecDepth 100000 in
theorem rIntsM:Reads Tryd.prog 22 (fun s:Sld Int=>[s.v]) (fun w s=>SlAt w s.ad 1 (s.l.map isV)∧s.l.length≤s.cap∧s.cap≤maxLen):=(Reads.slice (sz:=1) Tryd.underlying22 (by kernel_rfl) (by decide) rInt).mono fun _ _ h=>⟨h.1,h.2.1,h.2.2.1⟩
theorem rHistM:Reads Tryd.prog 24 (fun a:Int×Sld Int=>[.int .i64 a.1,a.2.v]) (fun w a=>SlAt w a.2.ad 1 (a.2.l.map isV)∧a.2.l.length≤a.2.cap∧a.2.cap≤maxLen):=(Reads.struct2 (n:=2) Tryd.underlying24 (by kernel_rfl) (by kernel_rfl) rInt rIntsM).turn fun _ a h=>⟨a,rfl,h.2⟩
end Go.Proofs.YtcdgibkbbcekhaaDoor
