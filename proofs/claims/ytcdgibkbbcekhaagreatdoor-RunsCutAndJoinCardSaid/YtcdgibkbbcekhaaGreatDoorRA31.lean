/-
  Contract: run.Summarize.
-/
import Derived.Test.YtcdgibkbbcekhaaGreatDoorRA30
set_option linter.unusedVariables false
set_option linter.unusedSimpArgs false
set_option linter.unusedSectionVars false
namespace Go.Proofs.YtcdgibkbbcekhaaGreatDoor
open Go.RowKit Go.Sl Go.Num
theorem SmAt.segN {l o:List Rn}{p m:Nat} (h:SmAt l p o) (hp:p < l.length) (hg:l[p].tab.length≠0) (hm:nst (l.drop p)=m) (hq:p+m≤l.length) :
  (smOne ((l.drop p).take m)=none→smF l.length [] (l.map rbare)=none)∧∀ x L,smOne ((l.drop p).take m)=some x→L.map rbare=x.map rbare→SmAt l (p+m) (o++L):=by
 have hst:=smF_st (n:=l.length) (m:=m) (o:=o.map rbare) (l:=(l.drop p).map rbare) (by rw [List.length_map,List.length_drop];omega) (drop_ne hp) (by rw [head_drop hp];exact hg) (by rw [nst_bare];exact hm)
 rw [h.eq,← List.map_take,smOne_bare,← List.map_drop,List.drop_drop] at hst
 refine ⟨fun e=>by rw [hst,e],fun x L e eL=>⟨hq,?_⟩⟩
 rw [hst,e,List.map_append,eL,smOne_x e]
def smD (S:List Rn) (a b x:Int):Int:=totC S x-(if x=a then 1 else 0)-(if x=b then 1 else 0)
theorem smD_eq {S:List Rn}{L:List (Int×Int)}{sa sb:Int} (va:cnt sa L=totC S sa) (vb:cnt sb (setC sa (cnt sa L-1) L)=if sb=sa then cnt sa L-1 else totC S sb) (x:Int) :
  (if x=sb then cnt sb (setC sa (cnt sa L-1) L)-1 else if x=sa then cnt sa L-1 else totC S x)=smD S sa sb x:=by
 rw [vb,va,smD]
 by_cases e1:x=sb
 ·subst e1
  rw [if_pos rfl,if_pos rfl]
  by_cases e2:x=sa
  ·subst e2;rw [if_pos rfl,if_pos rfl]
  ·rw [if_neg e2,if_neg e2];omega
 ·rw [if_neg e1,if_neg e1]
  by_cases e2:x=sa
  ·subst e2;rw [if_pos rfl,if_pos rfl];omega
  ·rw [if_neg e2,if_neg e2];omega
theorem smD_bd {S:List Rn}{sa sb:Int} (h:∀ x,0≤totC S x∧totC S x≤1402560*S.length) (x:Int):-2≤smD S sa sb x∧smD S sa sb x≤1402560*S.length:=by
 have:=h x
 rw [smD];split<;>split<;>omega
theorem nodup_le:∀ {L M:List Int},L.Nodup→(∀ x∈L,x∈M)→L.length≤M.length
 | [],_,_,_=>Nat.zero_le _
 | x::L,M,h,hm=>by
  obtain ⟨h1,h2⟩:=List.nodup_cons.1 h
  have hx:=hm x (List.mem_cons_self ..)
  have h3:=nodup_le (M:=M.erase x) h2 fun y hy=>(List.mem_erase_of_ne fun e:y=x=>h1 (e ▸ hy)).2 (hm y (List.mem_cons_of_mem _ hy))
  have h4:=List.length_erase_of_mem hx
  have h5:=List.length_pos_of_mem hx
  rw [List.length_cons];omega
theorem MpI.len {L:List (Int×Int)}{D:Int→Int} (h:MpI L D) (hn:(L.map (·.1)).Nodup):L.length≤1001:=by
 have:=nodup_le (M:=(List.range 1001).map fun n:Nat=>(n:Int)) hn fun x hx=>by
  have:=h.keys x hx
  exact List.mem_map.2 ⟨x.toNat,List.mem_range.2 (by omega),by omega⟩
 rw [List.length_map,List.length_map,List.length_range] at this
 exact this
theorem fT_take {D:Int→Int}{K:List Int}{j:Nat} (h:j < K.length):(K.take (j+1)).filterMap (fT D)=(K.take j).filterMap (fT D)++(if 0 < D K[j] then [(K[j],D K[j])] else []):=by
 rw [List.take_succ_eq_append_getElem h,List.filterMap_append]
 congr 1
 rw [List.filterMap_cons,fT]
 by_cases h:0 < D K[j]
 ·rw [if_pos h,if_pos h];rfl
 ·rw [if_neg h,if_neg h];rfl
theorem J.slPosR {C:Ctx}{st:List (Nat×Value)}{M:List Row}{k:List Item}{sz N:Nat}{a:Option Addr}{L:List (List Value)} (hm:slRow N a sz L∈M) (h:(0 < L.length→∃ b off,a=some ⟨b,off,none⟩)→J C st M k):J C st M k:=.mk fun ac w hf hd hw =>
 (h fun h0=>by
  obtain ⟨b,off,e,_⟩:=hw.sl hm h0
  exact ⟨b,off,e⟩).go ac w hf hd hw
set_option maxHeartbeats 4000000 in
theorem vSum_holds (a:Option Addr) (l:List Rn) (c:Nat) (w:World) (hA:RunsAt w a l) (hta:∀ r∈l,r.tab.length≤64) (hl:l.length≤400) (hcap:l.length≤c) :
  Calls Tryz.prog 35 #[.slice a l.length c] w (RetU [] (fun L=>L.map rbare=(sumE l).1.map rbare) (fun a' n c'=>.tuple #[.slice a' n c',.int .i64 (sumE l).2]) w):=by
 have hck:=fun w' (hb:Below w.heap.size w w')=>vRuns_holds a l c w' (hA.below hb) hta
 by_cases hE0:runsErr l=0
 case neg =>
  have hJ:sumE l=([],runsErr l):=by rw [sumE,if_pos hE0]
  rw [hJ]
  generalize runsErr l=E at *
  refine enterA [(0,.slice a l.length c)] Tryz.func35 Tryz.ntmps35 ?_
  all_goals (refine go ?_;and_intros<;>(try exact trivial)<;>repeat (first|refine fun (Bk:Nat)=>?_|intro h))
  repeat' ((first|(refine G.cvb hck ?_))<;>(refine go ?_;and_intros<;>(try exact trivial)<;>repeat (first|refine fun (Bk:Nat)=>?_|intro h)))
  refine ret2 Tryz.func35 Tryz.results35 ?_
  exact fun w' hw'=>RetU.nil (fun a' n c'=>.tuple #[.slice a' n c',.int .i64 E]) hw'.below rfl
 rw [hE0] at hck
 obtain ⟨hO,_,hc3⟩:=runs_ok hE0
 obtain ⟨f,t,hC⟩:∃ f t,Cn f l t:=by
  by_cases h0:l=[]
  ·subst h0;exact ⟨0,0,rfl⟩
  ·exact ⟨_,_,(hc3 h0).1⟩
 clear hc3
 refine enterA [(0,.slice a l.length c)] Tryz.func35 Tryz.ntmps35 ?_
 all_goals (refine go ?_;and_intros<;>(try exact trivial)<;>repeat (first|refine fun (Bk:Nat)=>?_|intro h))
 repeat' ((first|(refine G.cvb hck ?_)|(apply G.cR (g:=101) (v:=fun x:Nat=>.func (.func 149) #[] #[.pointer (some ⟨x,0,none⟩)]) (Mn:=fun x=>[.blk x 43 [.slice a l.length c] 1]);rfl;rfl;exact fun w' hw'=>stretches_holds _ _ w' a l.length c hw';intro Bl))<;>(refine go ?_;and_intros<;>(try exact trivial)<;>repeat (first|refine fun (Bk:Nat)=>?_|intro h)))
 revert Bk;intro B5
 revert Bk;intro B3
 revert Bk;intro B2
 apply J.nilOwn (E:=90) (size:=5)
 apply J.fam0 Rn.adr 2 (fun r=>r.tab.map hoV)
 refine J.rangeD1 (e1:=segV a c) (es:=stL l.length 0 l) (K:=[.blk Bl 43 [.slice a l.length c] 1]) (fun s:(List Rn×Option Addr×Nat)×Int=>[.own 0 (.slice s.1.2.1 s.1.1.length s.1.2.2) 90 5 s.1.1.length (flat rnV s.1.1),tfam w.heap.size s.1.1,.blk B5 43 [.slice s.1.2.1 s.1.1.length s.1.2.2] 1,.blk B3 34 [.int .i64 s.2] 1,.blk B2 43 [.slice none 0 0] 1]) (fun i s=>∃ p,(stL l.length 0 l).drop i=stL l.length p (l.drop p)∧SmAt l p s.1.1∧srcR w.heap.size [] s.1.1∧s.1.1.length≤3*p∧s.2=0) (fun cc s=>cc=.ret∧s.2=29∧smF l.length [] (l.map rbare)=none) (([],none,0),0) [] (stretches_iter w Bl a l c hA.1 (by omega) hcap) rfl rfl rfl (by (repeat (first|exact List.Perm.refl _|(refine pickT (by (repeat (first|exact Pick.head|apply Pick.tail))) ?_)))) ⟨0,rfl,⟨Nat.zero_le _,rfl⟩,srcR.nil,Nat.zero_le _,rfl⟩ ?_ ?_ ?_
 ·intro i ⟨⟨o,au,cu⟩,E⟩ e ⟨p,hi0,hi1,hi2,hi3,hi4⟩ he L0 rr M' hrs hrp
  dsimp only at hi1 hi2 hi3 hi4 ⊢
  subst hi4
  all_goals (refine goR ?_;and_intros<;>(try exact trivial)<;>repeat (first|refine fun (Bk:Nat)=>?_|intro h))
  repeat' ((first|(refine J.beginR rfl (i:=0) rfl hrs ?_)|(apply J.regQ;exact Tryz.mixed;decide +kernel)|(apply J.regL';exact Tryz.mixed;decide +kernel))<;>(refine goR ?_;and_intros<;>(try exact trivial)<;>repeat (first|refine fun (Bk:Nat)=>?_|intro h)))
  have hpe:=(List.getElem?_eq_some_iff.1 he).1
  have hp:p < l.length:=by
   rcases Nat.lt_or_ge p l.length with h|h
   ·exact h
   ·obtain rfl:p=l.length:=by have:=hi1.le;omega
    rw [stL_end] at hi0
    have:=congrArg List.length hi0
    rw [List.length_drop,List.length_nil] at this
    omega
  rw [stL_step (Nat.le_refl _) hp] at hi0
  obtain ⟨e1,e2,e3⟩:=drop_at hi0
  obtain rfl:e=(p,nst (l.drop p)):=Option.some.inj (he.symm.trans e1)
  have hdn:l.drop p≠[]:=fun h=>by
   have:=congrArg List.length h
   rw [List.length_drop,List.length_nil] at this;omega
  have hm0:=nst_pos hdn
  have hml:=nst_le hdn
  rw [List.length_drop] at hml
  obtain ⟨m,hm⟩:∃ m,nst (l.drop p)=m:=⟨_,rfl⟩
  rw [hm] at e2 hm0 hml
  rw [hm]
  obtain ⟨ba,oa,rfl,hra⟩:=SlAt.all hA.1 (by omega)
  rw [show segV (some ⟨ba,oa,none⟩) c (p,m)=.slice (some ⟨ba,oa+p*5,none⟩) m (c-p) by rw [segV,subA_some (by omega)]]
  have hsg:=SlAt.seg hra p m (by omega)
  obtain ⟨f2,t2,hCs⟩:∃ f2 t2,Cn f2 ((l.drop p).take m) t2:=by
   rw [← List.take_append_drop p l] at hC
   obtain ⟨m1,_,h2⟩:=Cn.app.1 hC
   rw [← List.take_append_drop m (l.drop p)] at h2
   obtain ⟨m2,h3,_⟩:=Cn.app.1 h2
   exact ⟨m1,m2,h3⟩
  have hSm:∀ r∈(l.drop p).take m,r∈l:=fun r hr=>List.mem_of_mem_drop (List.mem_of_mem_take hr)
  have hSl:((l.drop p).take m).length=m:=by rw [List.length_take,List.length_drop];omega
  have hS0:∀ h:0 < ((l.drop p).take m).length,((l.drop p).take m)[0]'h=l[p]:=fun h=>by simp
  have hgm:l[p].tab.length=0→m=1:=fun h=>by
   rw [← hm,List.drop_eq_getElem_cons hp,nst,if_pos h]
  have hgap:=hi1.gap hp
  have hsegN:=fun hg=>hi1.segN hp hg hm (by omega)
  generalize (l.drop p).take m=S at *
  have h0S:0 < S.length:=by omega
  have h1S:m-1 < S.length:=by omega
  have hS0:=hS0 h0S
  rw [← hS0] at hgap hgm hsegN
  obtain ⟨b2,o2,hb2,hrS⟩:=SlAt.all hsg (by omega)
  cases hb2
  have r0:=hrS 0 h0S
  have r1:=hrS (m-1) h1S
  have m0:=List.getElem_mem (l:=S) (n:=0) h0S
  have m1:=List.getElem_mem (l:=S) (n:=m-1) h1S
  have hz:(m:Int)-1=((m-1:Nat):Int):=by omega
  have hgp:=fun w'=>gap_holds S[0] w'
  have ml0:=hSm _ m0
  clear hra hsg he e1 hi0 hm hdn hpe
  by_cases hg:S[0].tab.length=0
  ·
   obtain rfl:=hgm hg
   have hnx:=hgap hg
   rw [decide_eq_true hg] at hgp
   have hsr:srcR w.heap.size [] (o++[S[0]]):=hi2.app (srcR.one (.inl hg))
   have hln:(o++[S[0]]).length=o.length+1:=by simp
   clear hsegN hgap hg hgm hrS hCs
   generalize S[0]=x at *
   have hap:flat rnV o++rnV x=flat rnV (o++[x]):=flat1 rnV _ _
   obtain ⟨xf,xt,tab,adr,cx,lo,hi⟩:=x
   dsimp only [rnV,rnA] at *
   all_goals (refine goR ?_;and_intros<;>(try exact trivial)<;>repeat (first|refine fun (Bk:Nat)=>?_|intro h))
   repeat' ((first|(apply J.regS [] (.q 0 <| .q 1 <| .q 2 <| .q 3 <| .q 4 <| .q 5 <| .q 6 <| .q 7 <| .q 8 <| .f 9 (.e 10 <| .e 11 <| .r 12 <| .nil) 10 (.e 9 <| .e 11 <| .r 12 <| .nil));exact Tryz.mixed;decide +kernel;exact List.nil_sublist _)|(apply G.forkS)|(apply G.sCO (vs:=[.int .i64 xf,.int .i64 xt,.slice adr tab.length cx,.int .i64 lo,.int .i64 hi]);rfl;rfl;rfl;(repeat (first|exact RAt.head|apply RAt.tail));rfl;rfl;exact Nat.le_of_ble_eq_true rfl;rfl;exact List.nil_sublist _)|(apply G.sCS (vs:=[.int .i64 xf,.int .i64 xt,.slice adr tab.length cx,.int .i64 lo,.int .i64 hi]);rfl;rfl;rfl;rfl;(repeat (first|exact RAt.head|apply RAt.tail));rfl;rfl;exact Nat.le_of_ble_eq_true rfl;rfl;exact List.nil_sublist _)|(apply G.cV (g:=81);rfl;rfl;exact fun w' _=>hgp w')|(apply G.sliceL;rfl;rfl;rfl;rfl;rfl;rfl;rfl;rfl;intro Bs)|(apply G.apV;rfl;rfl;rfl;(repeat (first|exact RAt.head|apply RAt.tail));exact SrcV.blk (by exact mm) rfl rfl;exact hap;omega;omega;intro a2 c2)|(apply J.regQ;exact Tryz.mixed;decide +kernel)|(apply J.regL';exact Tryz.mixed;decide +kernel))<;>(refine goR ?_;and_intros<;>(try exact trivial)<;>repeat (first|refine fun (Bk:Nat)=>?_|intro h)))
   all_goals
    refine J.tfamOld hA ?_
    refine J.tfamTo (o:=o) (l:=l) (o++[⟨xf,xt,tab,adr,cx,lo,hi⟩]) mm mm (fun r hr=>(List.mem_append.1 hr).imp id fun hr=>by rw [List.mem_singleton.1 hr];exact ml0) ?_
    rw [← hln]
    refine J.sel (T:=.obj L0 (.loop (busy rr))::.own 0 (.slice a2 (o++[⟨xf,xt,tab,adr,cx,lo,hi⟩]:List Rn).length c2) 90 5 (o++[⟨xf,xt,tab,adr,cx,lo,hi⟩]:List Rn).length (flat rnV (o++[⟨xf,xt,tab,adr,cx,lo,hi⟩]:List Rn))::tfam w.heap.size (o++[⟨xf,xt,tab,adr,cx,lo,hi⟩]:List Rn)::.blk B5 43 [.slice a2 (o++[⟨xf,xt,tab,adr,cx,lo,hi⟩]:List Rn).length c2] 1::.blk B3 34 [.int .i64 0] 1::.blk B2 43 [.slice none 0 0] 1::M') ?_
    exact leaveG hrs hrp ((o++[⟨xf,xt,tab,adr,cx,lo,hi⟩],a2,c2),0) ⟨p+1,e2,hnx,hsr,by dsimp only;omega,rfl⟩ rfl
  have hsg:=hsegN hg
  rw [decide_eq_false hg] at hgp
  clear hgap hgm hsegN
  subst hSl
  have hOS:∀ r∈S,OkR r:=fun r hr=>hO r (hSm r hr)
  have hrw1:=fun w'=>raw_holds S[0] w'
  have hrw2:=fun w'=>raw_holds S[S.length-1] w'
  have n1:=smOne_eq h0S
  have n2:=smOne_no h0S
  have k0:=hOS _ m0
  have k1:=hOS _ m1
  have i1:=k0.rng
  have i2:=k1.rng
  have t0:=hA.2 _ ml0
  have t1:=hA.2 _ (hSm _ m1)
  have hne:S≠[]:=fun e=>by rw [e] at h0S;exact absurd h0S (Nat.lt_irrefl _)
  have c0:=(hCs.first hne).1
  have c1:=hCs.last hne
  have clt:=hCs.le hOS
  rw [headD_at h0S] at c0
  rw [lastD_at h0S] at c1
  clear m0 m1 ml0 hCs
  generalize S[0]=x1 at *
  generalize S[S.length-1]=x2 at *
  by_cases hr:x1.tab.length=1∧x2.tab.length=1
  case neg =>
   have hno:=hsg.1 (n2 hr)
   clear n1 n2 k0 k1 t0 t1 hsg
   obtain ⟨f1,u1,tb1,ad1,cp1,lo1,hi1'⟩:=x1
   obtain ⟨g1,u2,tb2,ad2,cp2,lo2,hi2'⟩:=x2
   dsimp only [rnV,rnA] at *
   by_cases q1:tb1.length=1
   ·have q2:tb2.length≠1:=fun e=>hr ⟨q1,e⟩
    rw [decide_eq_true q1] at hrw1
    rw [decide_eq_false q2] at hrw2
    clear hr
    all_goals (refine goR ?_;and_intros<;>(try exact trivial)<;>repeat (first|refine fun (Bk:Nat)=>?_|intro h))
    repeat' ((first|(apply J.regS [] (.q 0 <| .q 1 <| .q 2 <| .q 3 <| .q 4 <| .q 5 <| .q 6 <| .q 7 <| .q 8 <| .f 9 (.e 10 <| .e 11 <| .r 12 <| .nil) 10 (.e 9 <| .e 11 <| .r 12 <| .nil));exact Tryz.mixed;decide +kernel;exact List.nil_sublist _)|(apply G.forkS)|(apply G.ix (i:=0);rfl;rfl;exact rfl;exact h0S;rfl)|(apply G.ix (i:=S.length-1);rfl;rfl;exact hz;exact h1S;rfl)|(apply G.sCO (vs:=[.int .i64 f1,.int .i64 u1,.slice ad1 tb1.length cp1,.int .i64 lo1,.int .i64 hi1']);rfl;rfl;rfl;(repeat (first|exact RAt.head|apply RAt.tail));rfl;rfl;exact Nat.le_of_ble_eq_true rfl;rfl;exact List.nil_sublist _)|(apply G.sCS (vs:=[.int .i64 f1,.int .i64 u1,.slice ad1 tb1.length cp1,.int .i64 lo1,.int .i64 hi1']);rfl;rfl;rfl;rfl;(repeat (first|exact RAt.head|apply RAt.tail));rfl;rfl;exact Nat.le_of_ble_eq_true rfl;rfl;exact List.nil_sublist _)|(apply G.cV (g:=81);rfl;rfl;exact fun w' _=>hgp w')|(apply G.cV (g:=99) (d:=43);rfl;rfl;exact fun w' _=>hrw1 w')|(apply G.cV (g:=99) (d:=47);rfl;rfl;exact fun w' _=>hrw2 w')|(apply J.regQ;exact Tryz.mixed;decide +kernel)|(apply J.regL';exact Tryz.mixed;decide +kernel))<;>(refine goR ?_;and_intros<;>(try exact trivial)<;>repeat (first|refine fun (Bk:Nat)=>?_|intro h)))
    all_goals
     refine J.sel (T:=.obj L0 (.loop (busy rr))::.own 0 (.slice au o.length cu) 90 5 o.length (flat rnV o)::tfam w.heap.size (o)::.blk B5 43 [.slice au o.length cu] 1::.blk B3 34 [.int .i64 29] 1::.blk B2 43 [.slice none 0 0] 1::M') ?_
     exact leaveGret ((o,au,cu),29) ⟨rfl,rfl,hno⟩ rfl
   ·rw [decide_eq_false q1] at hrw1
    clear hr
    all_goals (refine goR ?_;and_intros<;>(try exact trivial)<;>repeat (first|refine fun (Bk:Nat)=>?_|intro h))
    repeat' ((first|(apply J.regS [] (.q 0 <| .q 1 <| .q 2 <| .q 3 <| .q 4 <| .q 5 <| .q 6 <| .q 7 <| .q 8 <| .f 9 (.e 10 <| .e 11 <| .r 12 <| .nil) 10 (.e 9 <| .e 11 <| .r 12 <| .nil));exact Tryz.mixed;decide +kernel;exact List.nil_sublist _)|(apply G.forkS)|(apply G.ix (i:=0);rfl;rfl;exact rfl;exact h0S;rfl)|(apply G.ix (i:=S.length-1);rfl;rfl;exact hz;exact h1S;rfl)|(apply G.sCO (vs:=[.int .i64 f1,.int .i64 u1,.slice ad1 tb1.length cp1,.int .i64 lo1,.int .i64 hi1']);rfl;rfl;rfl;(repeat (first|exact RAt.head|apply RAt.tail));rfl;rfl;exact Nat.le_of_ble_eq_true rfl;rfl;exact List.nil_sublist _)|(apply G.sCS (vs:=[.int .i64 f1,.int .i64 u1,.slice ad1 tb1.length cp1,.int .i64 lo1,.int .i64 hi1']);rfl;rfl;rfl;rfl;(repeat (first|exact RAt.head|apply RAt.tail));rfl;rfl;exact Nat.le_of_ble_eq_true rfl;rfl;exact List.nil_sublist _)|(apply G.cV (g:=81);rfl;rfl;exact fun w' _=>hgp w')|(apply G.cV (g:=99) (d:=43);rfl;rfl;exact fun w' _=>hrw1 w')|(apply J.regQ;exact Tryz.mixed;decide +kernel)|(apply J.regL';exact Tryz.mixed;decide +kernel))<;>(refine goR ?_;and_intros<;>(try exact trivial)<;>repeat (first|refine fun (Bk:Nat)=>?_|intro h)))
    all_goals
     refine J.sel (T:=.obj L0 (.loop (busy rr))::.own 0 (.slice au o.length cu) 90 5 o.length (flat rnV o)::tfam w.heap.size (o)::.blk B5 43 [.slice au o.length cu] 1::.blk B3 34 [.int .i64 29] 1::.blk B2 43 [.slice none 0 0] 1::M') ?_
     exact leaveGret ((o,au,cu),29) ⟨rfl,rfl,hno⟩ rfl
  have hE:smOne S=some (smS x1.from_ x2.to_ (stg x1) (stg x2) (smTab S (stg x1) (stg x2))):=n1 hr.1 hr.2
  have hnx:=fun L=>hsg.2 _ L hE
  have q1:=raw_tab k0 hr.1
  have q2:=raw_tab k1 hr.2
  have s1:=(k0.raw hr.1).2
  have s2:=(k1.raw hr.2).2
  rw [decide_eq_true hr.1] at hrw1
  rw [decide_eq_true hr.2] at hrw2
  have sg1:=k0.tabs.1
  have sg2:=k1.tabs.1
  clear n1 n2 k0 k1 hr hsg hE
  generalize stg x1=sa at *
  generalize stg x2=sb at *
  obtain ⟨f1,u1,tb1,ad1,cp1,lo1,hi1'⟩:=x1
  obtain ⟨g1,u2,tb2,ad2,cp2,lo2,hi2'⟩:=x2
  rw [TabAt] at t0 t1
  dsimp only [rnV,rnA] at *
  subst q1 q2
  subst c0 c1
  have sg1:=sg1 _ (List.mem_singleton_self _)
  have sg2:=sg2 _ (List.mem_singleton_self _)
  obtain ⟨b1,o1,rfl,tr0⟩:=SlAt.all t0 (Nat.succ_pos _)
  obtain ⟨b3,o3,rfl,tr1⟩:=SlAt.all t1 (Nat.succ_pos _)
  have tr0:=tr0 0 (Nat.succ_pos _)
  have tr1:=tr1 0 (Nat.succ_pos _)
  clear t0 t1
  dsimp only [List.length_cons,List.length_nil,hoV,List.getElem_cons_zero] at *
  have hh1:=fun w'=>held_holds f1 (f1+1) sa w' (by omega) (by omega)
  have hh2:=fun w'=>held_holds (u2-1) u2 sb w' (by omega) (by omega)
  apply J.cutC (X:=Nat×Nat) (fun x=>[(3,.pointer (some ⟨B3,0,none⟩)),(2,.pointer (some ⟨B2,0,none⟩)),(5,.pointer (some ⟨B5,0,none⟩)),(6,.slice (some ⟨ba,oa+p*5,none⟩) S.length (c-p)),(7,.pointer (some ⟨x.1,0,none⟩)),(8,.pointer (some ⟨x.2,0,none⟩))]) (fun x=>.blk x.1 90 [.int .i64 f1,.int .i64 u1,.slice (some ⟨b1,o1,none⟩) 1 cp1,.int .i64 lo1,.int .i64 hi1'] 5::.blk x.2 90 [.int .i64 g1,.int .i64 u2,.slice (some ⟨b3,o3,none⟩) 1 cp2,.int .i64 lo2,.int .i64 hi2'] 5::.obj L0 (.loop (busy rr))::.own 0 (.slice au o.length cu) 90 5 o.length (flat rnV o)::tfam w.heap.size o::.blk B5 43 [.slice au o.length cu] 1::.blk B3 34 [.int .i64 0] 1::.blk B2 43 [.slice none 0 0] 1::M')
  ·intro hk2
   have hk2:=fun a b=>hk2 ⟨a,b⟩
   dsimp only at hk2
   all_goals (refine goG ?_;and_intros<;>(try exact trivial)<;>repeat (first|refine fun (Bk:Nat)=>?_|intro h))
   repeat' ((first|(apply J.regS [] (.q 0 <| .q 1 <| .q 2 <| .q 3 <| .q 4 <| .q 5 <| .q 6 <| .q 7 <| .q 8 <| .f 9 (.e 10 <| .e 11 <| .r 12 <| .nil) 10 (.e 9 <| .e 11 <| .r 12 <| .nil));exact Tryz.mixed;decide +kernel;exact List.nil_sublist _)|(apply G.forkS)|(apply G.ix (i:=0);rfl;rfl;exact rfl;exact h0S;rfl)|(apply G.ix (i:=S.length-1);rfl;rfl;exact hz;exact h1S;rfl)|(apply G.sCO (vs:=[.int .i64 f1,.int .i64 u1,.slice (some ⟨b1,o1,none⟩) 1 cp1,.int .i64 lo1,.int .i64 hi1']);rfl;rfl;rfl;(repeat (first|exact RAt.head|apply RAt.tail));rfl;rfl;exact Nat.le_of_ble_eq_true rfl;rfl;exact List.nil_sublist _)|(apply G.sCS (vs:=[.int .i64 f1,.int .i64 u1,.slice (some ⟨b1,o1,none⟩) 1 cp1,.int .i64 lo1,.int .i64 hi1']);rfl;rfl;rfl;rfl;(repeat (first|exact RAt.head|apply RAt.tail));rfl;rfl;exact Nat.le_of_ble_eq_true rfl;rfl;exact List.nil_sublist _))<;>(refine goG ?_;and_intros<;>(try exact trivial)<;>repeat (first|refine fun (Bk:Nat)=>?_|intro h)))
   all_goals exact J.finS (hk2 _ _)
  intro ⟨B7,B8⟩
  dsimp only
  have hap:=fun a3 c3=>flat1 rnV o ⟨f1,f1+1,[(sa,f1+1-f1)],a3,c3,0,0⟩
  all_goals (refine goR ?_;and_intros<;>(try exact trivial)<;>repeat (first|refine fun (Bk:Nat)=>?_|intro h))
  repeat' ((first|(apply G.cV (g:=81);rfl;rfl;exact fun w' _=>hgp w')|(apply G.cV (g:=99) (d:=43);rfl;rfl;exact fun w' _=>hrw1 w')|(apply G.cV (g:=99) (d:=47);rfl;rfl;exact fun w' _=>hrw2 w')|(apply J.regA (.q 0 <| .q 1 <| .q 2 <| .q 3 <| .q 4 <| .q 5 <| .q 6 <| .e 7 <| .e 8 <| .r 9 <| .r 10 <| .nil);exact Tryz.mixed;decide +kernel)|(apply G.ix (i:=0);rfl;rfl;exact rfl;exact Nat.succ_pos _;rfl)|(apply G.cN (g:=79) (fun a' c'=>.agg #[.int .i64 f1,.int .i64 (f1+1),.slice a' 1 c',.int .i64 0,.int .i64 0]) ([(sa,f1+1-f1)].map hoV);rfl;rfl;exact fun w' _=>hh1 w';intro a3 c3 hp3 hq3)|(apply G.sliceL;rfl;rfl;rfl;rfl;rfl;rfl;rfl;rfl;intro Bs)|(apply G.apV;rfl;rfl;rfl;(repeat (first|exact RAt.head|apply RAt.tail));exact SrcV.blk (by exact mm) rfl rfl;exact hap a3 c3;omega;omega;intro a4 c4)|(apply G.mkm;rfl;intro bm)|(apply J.regQ;exact Tryz.mixed;decide +kernel)|(apply J.regL';exact Tryz.mixed;decide +kernel))<;>(refine goR ?_;and_intros<;>(try exact trivial)<;>repeat (first|refine fun (Bk:Nat)=>?_|intro h)))
  refine J.famAdd (r:=(⟨f1,f1+1,[(sa,f1+1-f1)],a3,c3,0,0⟩:Rn)) (o:=o) mm mm ?_
  obtain ⟨o4,ho4,hl4⟩:∃ o4,o++[(⟨f1,f1+1,[(sa,f1+1-f1)],a3,c3,0,0⟩:Rn)]=o4∧o4.length=o.length+1:=⟨_,rfl,by simp⟩
  rw [ho4]
  have hs4:srcR w.heap.size [] o4:=ho4 ▸ hi2.app (srcR.one (.inr (.inl hq3)))
  refine J.sel (T:=.obj bm (.map #[] 0)::tfam w.heap.size o4::.blk B7 90 [.int .i64 f1,.int .i64 u1,.slice (some ⟨b1,o1,none⟩) 1 cp1,.int .i64 lo1,.int .i64 hi1'] 5::.blk B8 90 [.int .i64 g1,.int .i64 u2,.slice (some ⟨b3,o3,none⟩) 1 cp2,.int .i64 lo2,.int .i64 hi2'] 5::.obj L0 (.loop (busy rr))::.own 0 (.slice a4 (o.length+1) c4) 90 5 (o.length+1) (flat rnV o4)::.blk B5 43 [.slice a4 (o.length+1) c4] 1::.blk B3 34 [.int .i64 0] 1::.blk B2 43 [.slice none 0 0] 1::M') ?_
  clear hrw1 hrw2 hgp hap tr0 tr1
  refine J.loop (c:=_) ((0,#[],0,[]):Nat×Array MapEntry×Nat×List (Int×Int)) (fun s=>S.length-s.1) (fun s=>[(3,.pointer (some ⟨B3,0,none⟩)),(2,.pointer (some ⟨B2,0,none⟩)),(5,.pointer (some ⟨B5,0,none⟩)),(7,.pointer (some ⟨B7,0,none⟩)),(8,.pointer (some ⟨B8,0,none⟩)),(9,.int .i64 sa),(10,.int .i64 sb),(11,.map (some bm)),(71,.slice (some ⟨ba,oa+p*5,none⟩) S.length (c-p)),(72,.int .i64 S.length),(73,.int .i64 (s.1:Nat))]) (fun s=>.obj bm (.map s.2.1 s.2.2.1)::tfam w.heap.size o4::.blk B7 90 [.int .i64 f1,.int .i64 u1,.slice (some ⟨b1,o1,none⟩) 1 cp1,.int .i64 lo1,.int .i64 hi1'] 5::.blk B8 90 [.int .i64 g1,.int .i64 u2,.slice (some ⟨b3,o3,none⟩) 1 cp2,.int .i64 lo2,.int .i64 hi2'] 5::.obj L0 (.loop (busy rr))::.own 0 (.slice a4 (o.length+1) c4) 90 5 (o.length+1) (flat rnV o4)::.blk B5 43 [.slice a4 (o.length+1) c4] 1::.blk B3 34 [.int .i64 0] 1::.blk B2 43 [.slice none 0 0] 1::M') (fun s=>s.1≤S.length∧MapIs (Value.int .i64) s.2.1 s.2.2.1 (s.2.2.2.map iv)∧MpI s.2.2.2 (fun x=>totC (S.take s.1) x)) ?_ sbT sbL ?_
  ·exact ⟨Nat.zero_le _,MapIs.nil,MpI.nil⟩
  intro ⟨k,es,cl,L⟩ ⟨j1,j2,j3⟩ ih
  dsimp only at j1 j2 j3 ⊢
  by_cases hk:k < S.length
  ·have hrk:=hrS k hk
   have hmk:=List.getElem_mem hk
   have hok:=hOS _ hmk
   have htk:=hA.2 _ (hSm _ hmk)
   have hlk:=hta _ (hSm _ hmk)
   obtain ⟨hb1,hb2⟩:=hok.tabs
   have hcb:=fun x=>cnt_bd16 hok x
   have hbd:=fun x=>totC_bd (l:=S.take k) (fun r hr=>hOS r (List.mem_of_mem_take hr)) x
   have hkl:(S.take k).length=k:=by rw [List.length_take];omega
   rw [hkl] at hbd
   have htt:=fun x=>totC_take hk x
   have ih1:=fun es cl L h1 (h2:MpI L fun x=>totC (S.take k) x+cnt x S[k].tab)=>ih (k+1,es,cl,L) ⟨hk,h1,h2.eqD fun x=>(htt x).symm⟩ (by dsimp only;omega)
   dsimp only at ih1
   clear ih htt hmk hok
   generalize S[k]=x at *
   obtain ⟨xf,xt,tab,adr,cx,lo,hi⟩:=x
   rw [TabAt] at htk
   dsimp only [rnV] at *
   all_goals (refine go ?_;and_intros<;>(try exact trivial)<;>repeat (first|refine fun (Bk:Nat)=>?_|intro h))
   repeat' ((first|fail)<;>(refine go ?_;and_intros<;>(try exact trivial)<;>repeat (first|refine fun (Bk:Nat)=>?_|intro h)))
   refine J.loop (c:=_) ((0,es,cl,L):Nat×Array MapEntry×Nat×List (Int×Int)) (fun s=>tab.length-s.1) (fun s=>[(3,.pointer (some ⟨B3,0,none⟩)),(2,.pointer (some ⟨B2,0,none⟩)),(5,.pointer (some ⟨B5,0,none⟩)),(7,.pointer (some ⟨B7,0,none⟩)),(8,.pointer (some ⟨B8,0,none⟩)),(9,.int .i64 sa),(10,.int .i64 sb),(11,.map (some bm)),(71,.slice (some ⟨ba,oa+p*5,none⟩) S.length (c-p)),(72,.int .i64 S.length),(73,.int .i64 (k:Nat)),(78,.slice adr tab.length cx),(79,.int .i64 tab.length),(80,.int .i64 (s.1:Nat))]) (fun s=>.obj bm (.map s.2.1 s.2.2.1)::tfam w.heap.size o4::.blk B7 90 [.int .i64 f1,.int .i64 u1,.slice (some ⟨b1,o1,none⟩) 1 cp1,.int .i64 lo1,.int .i64 hi1'] 5::.blk B8 90 [.int .i64 g1,.int .i64 u2,.slice (some ⟨b3,o3,none⟩) 1 cp2,.int .i64 lo2,.int .i64 hi2'] 5::.obj L0 (.loop (busy rr))::.own 0 (.slice a4 (o.length+1) c4) 90 5 (o.length+1) (flat rnV o4)::.blk B5 43 [.slice a4 (o.length+1) c4] 1::.blk B3 34 [.int .i64 0] 1::.blk B2 43 [.slice none 0 0] 1::M') (fun s=>s.1≤tab.length∧MapIs (Value.int .i64) s.2.1 s.2.2.1 (s.2.2.2.map iv)∧MpI s.2.2.2 (fun x=>totC (S.take k) x+sumAt x (tab.take s.1))) ?_ sbT sbL ?_
   ·exact ⟨Nat.zero_le _,j2,j3.eqD fun x=>(Int.add_zero _).symm⟩
   clear j2 j3
   intro ⟨j,es2,cl2,L2⟩ ⟨d1,d2,d3⟩ ih2
   dsimp only at d1 d2 d3 ⊢
   by_cases hj:j < tab.length
   ·obtain ⟨b9,o9,rfl,tr9⟩:=SlAt.all htk (by omega)
    have tr9:=tr9 j hj
    have hx:=hb1 _ (List.getElem_mem hj)
    have hta2:=fun x=>sumAt_take (s:=x) hj
    have hbs:=fun x=>sumAt_le (s:=x) (fun x hx=>(hb1 x hx).2.1) j
    generalize tab[j]=z at *
    obtain ⟨zs,zn⟩:=z
    have hv:=d3.val zs
    have hb3:=hbd zs
    have hb4:=hbs zs
    have hb5:=hcb zs
    rw [hb2 zs] at hb4
    have hlk2:=get_iv zs L2
    have hpt:=put_setC zs (cnt zs L2+zn) L2
    have ih3:=fun es3 c4 hI3=>ih2 (j+1,es3,c4,setC zs (cnt zs L2+zn) L2) ⟨hj,hI3,(d3.set hx.1).eqD fun x=>by
     dsimp only
     rw [hta2 x]
     split
     ·rename_i e;subst e;rw [hv];omega
     ·omega⟩ (by dsimp only;omega)
    clear ih2 d3 hta2 hbs hbd hb1 hb2 hcb ih1
    dsimp only [hoV] at *
    generalize cnt zs L2=N at *
    all_goals (refine go ?_;and_intros<;>(try exact trivial)<;>repeat (first|refine fun (Bk:Nat)=>?_|intro h))
    repeat' ((first|(apply G.lk (kf:=Value.int .i64) (a:=zs) d2;rfl;rfl;exact mm;exact hlk2;rfl)|(apply G.mu (kf:=Value.int .i64) (a:=zs) d2 hpt;rfl;rfl;rfl;rfl;(repeat (first|exact RAt.head|apply RAt.tail));intro es3 c4 hI3))<;>(refine go ?_;and_intros<;>(try exact trivial)<;>repeat (first|refine fun (Bk:Nat)=>?_|intro h)))
    exact J.finS (ih3 es3 c4 hI3)
   obtain rfl:j=tab.length:=by omega
   rw [List.take_length] at d3
   have ih3:=ih1 es2 cl2 L2 d2 (d3.eqD fun x=>by rw [hb2])
   clear ih1 ih2
   all_goals (refine go ?_;and_intros<;>(try exact trivial)<;>repeat (first|refine fun (Bk:Nat)=>?_|intro h))
   repeat' ((first|fail)<;>(refine go ?_;and_intros<;>(try exact trivial)<;>repeat (first|refine fun (Bk:Nat)=>?_|intro h)))
   exact J.finS ih3
  obtain rfl:k=S.length:=by omega
  rw [List.take_length] at j3
  clear ih hrS
  have hbS:=totC_bd hOS
  have hmt:smTab S sa sb=tabD 0 (smC S sa sb):=rfl
  have gsa:=get_iv sa L
  have psa:=put_setC sa (cnt sa L-1) L
  have va:=j3.val sa
  have vb:=(j3.set (v:=cnt sa L-1) s1).val sb
  have j4:=(j3.set (v:=cnt sa L-1) s1).set (v:=cnt sb (setC sa (cnt sa L-1) L)-1) s2
  have hM:MpI (setC sb (cnt sb (setC sa (cnt sa L-1) L)-1) (setC sa (cnt sa L-1) L)) (smD S sa sb):=j4.eqD fun x=>smD_eq va vb x
  clear j4
  have na:=hbS sa
  have nb:=hbS sb
  rw [← va] at na
  have nb2:-1≤cnt sb (setC sa (cnt sa L-1) L)∧cnt sb (setC sa (cnt sa L-1) L)≤1402560*S.length:=by
   rw [vb];split<;>omega
  clear j3 va vb nb
  generalize setC sa (cnt sa L-1) L=L1 at *
  have gsb:=get_iv sb L1
  have psb:=put_setC sb (cnt sb L1-1) L1
  generalize setC sb (cnt sb L1-1) L1=L2 at *
  generalize cnt sa L=N1 at *
  generalize cnt sb L1=N2 at *
  have hsr:∀ (x:Nat) (es:Array MapEntry) (cl:Nat) (hI:MapIs (Value.int .i64) es cl (L2.map iv)) M w',Sat w ([.blk x 152 [.map (some bm)] 1,.obj bm (.map es cl)]++M) w'→Calls Tryz.prog 59 #[.func (.func 150) #[] #[.pointer (some ⟨x,0,none⟩)]] w' fun e w2=>∃ y:{ x:Option Addr×Nat×List Int // x.2.2.Perm ((L2.map iv).map (·.1))∧x.2.2.Pairwise (·≤·) },e=.returned (.slice y.1.1 y.1.2.2.length y.1.2.1)∧Sat w ([.own 0 (.slice y.1.1 y.1.2.2.length y.1.2.1) 3 1 y.1.2.2.length (flat isV y.1.2.2),.obj bm (.map es cl)]++M) w2:=fun x es cl hI M w' hw'=>by
   have hkn:=hI.keys
   rw [iv_keys] at hkn
   have hl2:((L2.map iv).map (·.1)).length≤1001:=by rw [iv_keys,List.length_map];exact hM.len hkn
   exact (KI.sorted_holds w M [.blk x 152 [.map (some bm)] 1,.obj bm (.map es cl)] (.obj bm (.map es cl)) w' 150 #[.pointer (some ⟨x,0,none⟩)] ((L2.map iv).map (·.1)) (KI.keys_iter w x bm es cl (L2.map iv) hI) (Nat.le_trans hl2 (by decide)) (fun w0 M w au cu S hw hn=>sort_holds w0 M w au _ cu S hw hn (Nat.le_trans hl2 (by decide))) hw').mono fun e w2 ⟨y,h1,h2,h3⟩=>⟨⟨y,h2⟩,h1,h3⟩
  all_goals (refine go ?_;and_intros<;>(try exact trivial)<;>repeat (first|refine fun (Bk:Nat)=>?_|intro h))
  repeat' ((first|(apply G.lk (kf:=Value.int .i64) (a:=sa) j2;rfl;rfl;exact mm;exact gsa;rfl)|(apply G.mu (kf:=Value.int .i64) (a:=sa) j2 psa;rfl;rfl;rfl;rfl;(repeat (first|exact RAt.head|apply RAt.tail));intro es2 c2 hI2)|(apply G.lk (kf:=Value.int .i64) (a:=sb) hI2;rfl;rfl;exact mm;exact gsb;rfl)|(apply G.mu (kf:=Value.int .i64) (a:=sb) hI2 psb;rfl;rfl;rfl;rfl;(repeat (first|exact RAt.head|apply RAt.tail));intro es3 c3' hI3)|(apply G.cR (g:=102) (v:=fun x:Nat=>.func (.func 150) #[] #[.pointer (some ⟨x,0,none⟩)]) (Mn:=fun x=>[.blk x 152 [.map (some bm)] 1]);rfl;rfl;exact fun w' hw'=>KI.keys_holds _ _ w' (.bool false) bm hw';intro Bx)|(refine G.cP (g:=59) (X:={ x:Option Addr×Nat×List Int // x.2.2.Perm ((L2.map iv).map (·.1))∧x.2.2.Pairwise (·≤·) }) (fun x=>.slice x.1.1 x.1.2.2.length x.1.2.1) [.blk Bx 152 [.map (some bm)] 1,.obj bm (.map es3 c3')] (fun x=>[.own 0 (.slice x.1.1 x.1.2.2.length x.1.2.1) 3 1 x.1.2.2.length (flat isV x.1.2.2),.obj bm (.map es3 c3')]) rfl rfl (by (repeat (first|exact List.Perm.refl _|(refine pickT (by (repeat (first|exact Pick.head|apply Pick.tail))) ?_)))) (fun w' hw'=>hsr Bx es3 c3' hI3 _ w' hw') ?_;rintro ⟨⟨kau,kcu,K⟩,hK1,hK2⟩;dsimp only at hK1 hK2 ⊢))<;>(refine go ?_;and_intros<;>(try exact trivial)<;>repeat (first|refine fun (Bk:Nat)=>?_|intro h)))
  have hkn:=hI3.keys
  rw [iv_keys] at hkn hK1
  have hKl:K.length≤1001:=by rw [hK1.length_eq,List.length_map];exact hM.len hkn
  have hTT:K.filterMap (fT (smD S sa sb))=smTab S sa sb:=hmt.symm ▸ hM.tab hkn hK1 hK2 (smC_len S sa sb) fun s h=>smC_get S sa sb (by rwa [smC_len] at h)
  refine J.ownSlR (f:=isV) isV_len (by (repeat (first|exact Pick.head|apply Pick.tail))) rfl ?_
  refine J.slPosR (L:=K.map isV) (by exact mm) fun hpos=>?_
  apply J.nilOwn (E:=92) (size:=2)
  have hlk3:=fun x=>get_iv x L2
  have hvl:=hM.val
  have hDb:=fun x=>smD_bd (sa:=sa) (sb:=sb) hbS x
  clear hK1 hK2 hkn hmt hbS gsa psa gsb psb hM j2 na nb2
  generalize smD S sa sb=D at *
  rw [← hTT] at hnx
  refine J.loop (c:=_) ((0,none,0,[]):Nat×Option Addr×Nat×List (Int×Int)) (fun s=>K.length-s.1) (fun s=>[(3,.pointer (some ⟨B3,0,none⟩)),(2,.pointer (some ⟨B2,0,none⟩)),(5,.pointer (some ⟨B5,0,none⟩)),(7,.pointer (some ⟨B7,0,none⟩)),(8,.pointer (some ⟨B8,0,none⟩)),(10,.int .i64 sb),(11,.map (some bm)),(16,.pointer (some ⟨Bk,0,none⟩)),(110,.slice kau K.length kcu),(111,.int .i64 K.length),(112,.int .i64 s.1)]) (fun s=>.own 0 (.slice s.2.1 s.2.2.2.length s.2.2.1) 92 2 s.2.2.2.length (flat hoV s.2.2.2)::slRow w.heap.size kau 1 (K.map isV)::.obj bm (.map es3 c3')::.blk Bk 90 [.int .i64 (f1+1),.int .i64 (u2-1),.slice s.2.1 s.2.2.2.length s.2.2.1,.int .i64 0,.int .i64 0] 5::tfam w.heap.size o4::.blk B7 90 [.int .i64 f1,.int .i64 u1,.slice (some ⟨b1,o1,none⟩) 1 cp1,.int .i64 lo1,.int .i64 hi1'] 5::.blk B8 90 [.int .i64 g1,.int .i64 u2,.slice (some ⟨b3,o3,none⟩) 1 cp2,.int .i64 lo2,.int .i64 hi2'] 5::.obj L0 (.loop (busy rr))::.own 0 (.slice a4 (o.length+1) c4) 90 5 (o.length+1) (flat rnV o4)::.blk B5 43 [.slice a4 (o.length+1) c4] 1::.blk B3 34 [.int .i64 0] 1::.blk B2 43 [.slice none 0 0] 1::M') (fun s=>s.1≤K.length∧(K.take s.1).filterMap (fT D)=s.2.2.2∧s.2.2.2.length≤s.1) ?_ sbT sbL ?_
  ·exact ⟨Nat.zero_le _,rfl,Nat.le_refl _⟩
  intro ⟨j,au2,cu2,T⟩ ⟨d1,d2,d3⟩ ih
  dsimp only at d1 d2 d3 ⊢
  by_cases hj:j < K.length
  ·have hst:=fT_take (D:=D) hj
   rw [d2] at hst
   obtain ⟨b9,o9,rfl⟩:=hpos (by rw [List.length_map];omega)
   have hg0:=fun {C M} (hm:slRow w.heap.size (some ⟨b9,o9,none⟩) 1 (K.map isV)∈M)=>CellV.sl0 (C:=C) (M:=M) (f:=isV) (l:=K) hm hj rfl
   have ihA:=fun a' c' T' (e1:(K.take (j+1)).filterMap (fT D)=T') (e2:T'.length≤T.length+1)=>ih (j+1,a',c',T') ⟨hj,e1,by dsimp only;omega⟩ (by dsimp only;omega)
   dsimp only at ihA
   have hl1:∀ z:Int×Int,(T++[z]).length=T.length+1:=fun z=>by simp
   have hlz:=hlk3 K[j]
   have hvz:=hvl K[j]
   have hbz:=hDb K[j]
   rw [hvz] at hlz
   clear ih hlk3 hvl hDb hvz hpos
   generalize K[j]=x at *
   generalize hDx:D x=N at *
   by_cases hp:0 < N
   ·rw [if_pos hp] at hst
    have ihB:=fun a' c'=>ihA a' c' _ hst (by rw [hl1];exact Nat.le_refl _)
    have hap3:flat hoV T++hoV (x,N)=flat hoV (T++[(x,N)]):=flat1 hoV _ _
    rw [hl1] at ihB
    clear ihA hst
    dsimp only [hoV] at hap3
    all_goals (refine go ?_;and_intros<;>(try exact trivial)<;>repeat (first|refine fun (Bk:Nat)=>?_|intro h))
    repeat' ((first|(apply G.ld;rfl;(apply LdV.one;exact hg0 (by exact mm));rfl)|(apply G.lk (kf:=Value.int .i64) (a:=x) hI3;rfl;rfl;exact mm;exact hlz;rfl)|(apply G.sliceL;rfl;rfl;rfl;rfl;rfl;rfl;rfl;rfl;intro Bs)|(apply G.apV;rfl;rfl;rfl;(repeat (first|exact RAt.head|apply RAt.tail));exact SrcV.blk (by exact mm) rfl rfl;exact hap3;omega;omega;intro a7 c7)|(apply G.s1;rfl;rfl;rfl;(repeat (first|exact RAt.head|apply RAt.tail));exact ⟨rfl,rfl⟩;exact Nat.le_of_ble_eq_true rfl;rfl))<;>(refine go ?_;and_intros<;>(try exact trivial)<;>repeat (first|refine fun (Bk:Nat)=>?_|intro h)))
    exact J.finS (ihB _ _)
   ·rw [if_neg hp,List.append_nil] at hst
    have ihB:=ihA au2 cu2 T hst (Nat.le_succ _)
    clear ihA hst
    all_goals (refine go ?_;and_intros<;>(try exact trivial)<;>repeat (first|refine fun (Bk:Nat)=>?_|intro h))
    repeat' ((first|(apply G.ld;rfl;(apply LdV.one;exact hg0 (by exact mm));rfl)|(apply G.lk (kf:=Value.int .i64) (a:=x) hI3;rfl;rfl;exact mm;exact hlz;rfl))<;>(refine go ?_;and_intros<;>(try exact trivial)<;>repeat (first|refine fun (Bk:Nat)=>?_|intro h)))
    exact J.finS ihB
  obtain rfl:j=K.length:=by omega
  rw [List.take_length] at d2
  rw [d2] at hnx
  clear ih d2 hTT hlk3 hvl hDb hI3 hpos
  have hap1:=flat1 rnV o4 ⟨f1+1,u2-1,T,au2,cu2,0,0⟩
  have hap2:=fun a5 c5=>flat1 rnV (o4++[⟨f1+1,u2-1,T,au2,cu2,0,0⟩]) ⟨u2-1,u2,[(sb,u2-(u2-1))],a5,c5,0,0⟩
  have hap4:=fun a5 c5=>flat1 rnV o4 ⟨u2-1,u2,[(sb,u2-(u2-1))],a5,c5,0,0⟩
  by_cases hlt:f1+1 < u2-1
  ·have hS:smS f1 u2 sa sb T=[mkR f1 (f1+1) sa,⟨f1+1,u2-1,T,none,0,0,0⟩,mkR (u2-1) u2 sb]:=by rw [smS,if_pos hlt,if_pos (by omega)];rfl
   clear hap4
   all_goals (refine goR ?_;and_intros<;>(try exact trivial)<;>repeat (first|refine fun (Bk:Nat)=>?_|intro h))
   repeat' ((first|(apply G.sliceL;rfl;rfl;rfl;rfl;rfl;rfl;rfl;rfl;intro Bs)|(apply J.regA (.q 0 <| .q 1 <| .q 2 <| .q 3 <| .q 4 <| .q 5 <| .q 6 <| .e 7 <| .e 8 <| .r 9 <| .r 10 <| .nil);exact Tryz.mixed;decide +kernel)|(apply G.apV (v:=.slice a4 (o.length+1) c4);rfl;rfl;rfl;(repeat (first|exact RAt.head|apply RAt.tail));exact SrcV.blk (by exact mm) rfl rfl;exact hap1;omega;omega;intro a8 c8)|(apply G.cN (g:=79) (fun a' c'=>.agg #[.int .i64 (u2-1),.int .i64 u2,.slice a' 1 c',.int .i64 0,.int .i64 0]) ([(sb,u2-(u2-1))].map hoV);rfl;rfl;exact fun w' _=>hh2 w';intro a5 c5 hp5 hq5)|(apply G.apV (v:=.slice a8 (o.length+1+1) c8);rfl;rfl;rfl;(repeat (first|exact RAt.head|apply RAt.tail));exact SrcV.blk (by exact mm) rfl rfl;exact hap2 a5 c5;omega;omega;intro a6 c6)|(apply J.regQ;exact Tryz.mixed;decide +kernel)|(apply J.regL';exact Tryz.mixed;decide +kernel))<;>(refine goR ?_;and_intros<;>(try exact trivial)<;>repeat (first|refine fun (Bk:Nat)=>?_|intro h)))
   refine J.ownGe (a:=au2) mm ?_
   intro hau
   refine J.ownSlR (a:=au2) (f:=hoV) (l:=T) hoV_len (by (repeat (first|exact Pick.head|apply Pick.tail))) rfl ?_
   refine J.famAdd (r:=(⟨f1+1,u2-1,T,au2,cu2,0,0⟩:Rn)) (o:=o4) mm mm ?_
   refine J.famAdd (r:=(⟨u2-1,u2,[(sb,u2-(u2-1))],a5,c5,0,0⟩:Rn)) (o:=o4++[⟨f1+1,u2-1,T,au2,cu2,0,0⟩]) mm mm ?_
   have hln:(o4++[(⟨f1+1,u2-1,T,au2,cu2,0,0⟩:Rn)]++[(⟨u2-1,u2,[(sb,u2-(u2-1))],a5,c5,0,0⟩:Rn)]).length=o.length+1+1+1:=by simp [hl4]
   rw [← hln]
   refine J.sel (T:=.obj L0 (.loop (busy rr))::.own 0 (.slice a6 (o4++[⟨f1+1,u2-1,T,au2,cu2,0,0⟩]++[⟨u2-1,u2,[(sb,u2-(u2-1))],a5,c5,0,0⟩]:List Rn).length c6) 90 5 (o4++[⟨f1+1,u2-1,T,au2,cu2,0,0⟩]++[⟨u2-1,u2,[(sb,u2-(u2-1))],a5,c5,0,0⟩]:List Rn).length (flat rnV (o4++[⟨f1+1,u2-1,T,au2,cu2,0,0⟩]++[⟨u2-1,u2,[(sb,u2-(u2-1))],a5,c5,0,0⟩]:List Rn))::tfam w.heap.size (o4++[⟨f1+1,u2-1,T,au2,cu2,0,0⟩]++[⟨u2-1,u2,[(sb,u2-(u2-1))],a5,c5,0,0⟩]:List Rn)::.blk B5 43 [.slice a6 (o4++[⟨f1+1,u2-1,T,au2,cu2,0,0⟩]++[⟨u2-1,u2,[(sb,u2-(u2-1))],a5,c5,0,0⟩]:List Rn).length c6] 1::.blk B3 34 [.int .i64 0] 1::.blk B2 43 [.slice none 0 0] 1::M') ?_
   exact leaveG hrs hrp ((o4++[⟨f1+1,u2-1,T,au2,cu2,0,0⟩]++[⟨u2-1,u2,[(sb,u2-(u2-1))],a5,c5,0,0⟩],a6,c6),0) ⟨p+S.length,e2,by dsimp only;rw [← ho4,List.append_assoc,List.append_assoc];exact hnx _ (by rw [hS];rfl),(hs4.app (srcR.one (.inr (.inl hau)))).app (srcR.one (.inr (.inl hq5))),by dsimp only;rw [hln];omega,rfl⟩ rfl
  by_cases hlt2:f1+1 < u2
  ·have hS:smS f1 u2 sa sb T=[mkR f1 (f1+1) sa,mkR (u2-1) u2 sb]:=by rw [smS,if_neg hlt,if_pos hlt2];rfl
   clear hap1 hap2
   all_goals (refine goR ?_;and_intros<;>(try exact trivial)<;>repeat (first|refine fun (Bk:Nat)=>?_|intro h))
   repeat' ((first|(apply G.sliceL;rfl;rfl;rfl;rfl;rfl;rfl;rfl;rfl;intro Bs)|(apply J.regA (.q 0 <| .q 1 <| .q 2 <| .q 3 <| .q 4 <| .q 5 <| .q 6 <| .e 7 <| .e 8 <| .r 9 <| .r 10 <| .nil);exact Tryz.mixed;decide +kernel)|(apply G.cN (g:=79) (fun a' c'=>.agg #[.int .i64 (u2-1),.int .i64 u2,.slice a' 1 c',.int .i64 0,.int .i64 0]) ([(sb,u2-(u2-1))].map hoV);rfl;rfl;exact fun w' _=>hh2 w';intro a5 c5 hp5 hq5)|(apply G.apV (v:=.slice a4 (o.length+1) c4);rfl;rfl;rfl;(repeat (first|exact RAt.head|apply RAt.tail));exact SrcV.blk (by exact mm) rfl rfl;exact hap4 a5 c5;omega;omega;intro a6 c6)|(apply J.regQ;exact Tryz.mixed;decide +kernel)|(apply J.regL';exact Tryz.mixed;decide +kernel))<;>(refine goR ?_;and_intros<;>(try exact trivial)<;>repeat (first|refine fun (Bk:Nat)=>?_|intro h)))
   refine J.famAdd (r:=(⟨u2-1,u2,[(sb,u2-(u2-1))],a5,c5,0,0⟩:Rn)) (o:=o4) mm mm ?_
   have hln:(o4++[(⟨u2-1,u2,[(sb,u2-(u2-1))],a5,c5,0,0⟩:Rn)]).length=o.length+1+1:=by simp [hl4]
   rw [← hln]
   refine J.sel (T:=.obj L0 (.loop (busy rr))::.own 0 (.slice a6 (o4++[⟨u2-1,u2,[(sb,u2-(u2-1))],a5,c5,0,0⟩]:List Rn).length c6) 90 5 (o4++[⟨u2-1,u2,[(sb,u2-(u2-1))],a5,c5,0,0⟩]:List Rn).length (flat rnV (o4++[⟨u2-1,u2,[(sb,u2-(u2-1))],a5,c5,0,0⟩]:List Rn))::tfam w.heap.size (o4++[⟨u2-1,u2,[(sb,u2-(u2-1))],a5,c5,0,0⟩]:List Rn)::.blk B5 43 [.slice a6 (o4++[⟨u2-1,u2,[(sb,u2-(u2-1))],a5,c5,0,0⟩]:List Rn).length c6] 1::.blk B3 34 [.int .i64 0] 1::.blk B2 43 [.slice none 0 0] 1::M') ?_
   exact leaveG hrs hrp ((o4++[⟨u2-1,u2,[(sb,u2-(u2-1))],a5,c5,0,0⟩],a6,c6),0) ⟨p+S.length,e2,by dsimp only;rw [← ho4,List.append_assoc];exact hnx _ (by rw [hS];rfl),hs4.app (srcR.one (.inr (.inl hq5))),by dsimp only;rw [hln];omega,rfl⟩ rfl
  ·have hS:smS f1 u2 sa sb T=[mkR f1 (f1+1) sa]:=by rw [smS,if_neg hlt,if_neg hlt2];rfl
   clear hap1 hap2 hap4
   all_goals (refine go ?_;and_intros<;>(try exact trivial)<;>repeat (first|refine fun (Bk:Nat)=>?_|intro h))
   repeat' ((first|fail)<;>(refine go ?_;and_intros<;>(try exact trivial)<;>repeat (first|refine fun (Bk:Nat)=>?_|intro h)))
   rw [← hl4]
   refine J.sel (T:=.obj L0 (.loop (busy rr))::.own 0 (.slice a4 (o4).length c4) 90 5 (o4).length (flat rnV (o4))::tfam w.heap.size (o4)::.blk B5 43 [.slice a4 (o4).length c4] 1::.blk B3 34 [.int .i64 0] 1::.blk B2 43 [.slice none 0 0] 1::M') ?_
   exact leaveG hrs hrp ((o4,a4,c4),0) ⟨p+S.length,e2,by dsimp only;rw [← ho4];exact hnx _ (by rw [hS];rfl),hs4,by dsimp only;rw [hl4];omega,rfl⟩ rfl
 ·intro Bd ⟨⟨o,au,cu⟩,E⟩ ⟨p,hi0,hi1,hi2,hi3,hi4⟩
  dsimp only at hi1 hi2 hi3 hi4 ⊢
  subst hi4
  rw [List.drop_length] at hi0
  have hpl:=hi1.le
  obtain rfl:p=l.length:=by
   rcases Nat.lt_or_ge p l.length with h|h
   ·rw [stL_step (Nat.le_refl _) h] at hi0;cases hi0
   ·omega
  have hd:=hi1.done
  obtain ⟨e1,e2⟩:=sumE_ok hE0 hd
  rw [e1]
  obtain ⟨k1,k2,_⟩:=smF_ok l.length (o:=[]) (l:=l.map rbare) (f0:=f) (f:=f) (t:=t) (by rw [List.length_map];exact Nat.le_refl _) rfl (fun r hr=>by cases hr) (cn_bare.2 hC) (fun r hr=>by obtain ⟨x,hx,rfl⟩:=List.mem_map.1 hr;exact ok_bare.2 (hO x hx)) hd
  have k1:=cn_bare.1 k1
  have k2:∀ r∈o,OkR r:=fun r hr=>ok_bare.1 (k2 _ (List.mem_map_of_mem hr))
  have hjn:(joinL (o.map rbare)).length≤1200:=by
   have:=joinL_len (o.map rbare)
   rw [List.length_map] at this;omega
  clear hd hi1 hi0
  all_goals (refine go ?_;and_intros<;>(try exact trivial)<;>repeat (first|refine fun (Bk:Nat)=>?_|intro h))
  repeat' ((first|(refine G.cU (g:=100) (fun a' n c'=>.slice a' n c') (fun L=>L.map rbare=joinL (o.map rbare)) o (.inr mm) rfl rfl (fun w' hw'=>joined_holds _ o _ f t w' (own5R (N:=w.heap.size) hw' rfl) k1 k2 (by omega)) ?_;intro L a3 c3 hL ⟨hL1,hL2⟩ hL3;have hLl:L.length≤1200:=(by rw [← List.length_map (f:=rbare),hL];exact hjn)))<;>(refine go ?_;and_intros<;>(try exact trivial)<;>repeat (first|refine fun (Bk:Nat)=>?_|intro h)))
  refine J.sel (T:=[.obj Bd (.deferred (some [])),slRow w.heap.size a3 5 (L.map rnV),tfam w.heap.size L,.blk B3 34 [.int .i64 0] 1,.blk B2 43 [.slice a3 L.length c3] 1]) ?_
  refine leaveM (v:=.tuple #[.slice a3 L.length c3,.int .i64 0]) (ds:=[Bd]) Tryz.func35 rfl rfl rfl rfl (RunsTo.two Tryz.results35 (by (first|(apply ResV.tmp;rfl)|(apply ResV.cell;rfl;(first|(apply LdV.one;(first|exact CellV.row0 (by assumption) rfl|exact CellV.rowS (by assumption) rfl|exact CellV.rowSS (by assumption) rfl|(apply CellV.blk;exact mm;rfl)))|(apply LdV.aggBlk;exact mm;rfl)|(apply LdV.part;exact mm;rfl;rfl)|(apply LdV.aggRow;assumption;rfl)|(apply LdV.partRow;assumption;rfl;rfl))))) (by (first|(apply ResV.tmp;rfl)|(apply ResV.cell;rfl;(first|(apply LdV.one;(first|exact CellV.row0 (by assumption) rfl|exact CellV.rowS (by assumption) rfl|exact CellV.rowSS (by assumption) rfl|(apply CellV.blk;exact mm;rfl)))|(apply LdV.aggBlk;exact mm;rfl)|(apply LdV.part;exact mm;rfl;rfl)|(apply LdV.aggRow;assumption;rfl)|(apply LdV.partRow;assumption;rfl;rfl)))))) (List.Perm.refl _) fun w' hw'=>?_
  exact Sat.retS (fun a' n c'=>.tuple #[.slice a' n c',.int .i64 0]) hw' (e2 L hL) rfl hL2 (hL3.comp hi2)
 ·rintro Bd ⟨⟨o,au,cu⟩,E⟩ cc ⟨rfl,h2,h3⟩
  dsimp only at h2 h3 ⊢
  subst h2
  rw [sumE_no hE0 h3]
  refine leaveM (v:=.tuple #[.slice none 0 0,.int .i64 29]) (ds:=[Bd]) Tryz.func35 rfl rfl rfl rfl (RunsTo.two Tryz.results35 (by (first|(apply ResV.tmp;rfl)|(apply ResV.cell;rfl;(first|(apply LdV.one;(first|exact CellV.row0 (by assumption) rfl|exact CellV.rowS (by assumption) rfl|exact CellV.rowSS (by assumption) rfl|(apply CellV.blk;exact mm;rfl)))|(apply LdV.aggBlk;exact mm;rfl)|(apply LdV.part;exact mm;rfl;rfl)|(apply LdV.aggRow;assumption;rfl)|(apply LdV.partRow;assumption;rfl;rfl))))) (by (first|(apply ResV.tmp;rfl)|(apply ResV.cell;rfl;(first|(apply LdV.one;(first|exact CellV.row0 (by assumption) rfl|exact CellV.rowS (by assumption) rfl|exact CellV.rowSS (by assumption) rfl|(apply CellV.blk;exact mm;rfl)))|(apply LdV.aggBlk;exact mm;rfl)|(apply LdV.part;exact mm;rfl;rfl)|(apply LdV.aggRow;assumption;rfl)|(apply LdV.partRow;assumption;rfl;rfl)))))) (List.Perm.refl _) fun w' hw'=>?_
  exact RetU.nil (fun a' n c'=>.tuple #[.slice a' n c',.int .i64 29]) hw'.below rfl
end Go.Proofs.YtcdgibkbbcekhaaGreatDoor
