/-
  Contract: run.Summarize.
-/
import Derived.Test.YtcdgibkbbcekhaaDoorRD9
set_option linter.unusedVariables false
set_option linter.unusedSimpArgs false
set_option linter.unusedSectionVars false
namespace Go.Proofs.YtcdgibkbbcekhaaDoor
open Go.RowKit Go.Sl Go.Num
theorem SmAt.segN {l o:List Rn}{p m:Nat} (h:SmAt l p o) (hp:p < l.length) (hg:l[p].tab.length≠0) (hm:nst (l.drop p)=m) (hq:p+m≤l.length) :
  (smOne ((l.drop p).take m)=none→smF l.length [] (l.map rbare)=none)∧∀ x L,smOne ((l.drop p).take m)=some x→L.map rbare=x.map rbare→SmAt l (p+m) (o++L):=by
 have hst:=smF_st (n:=l.length) (m:=m) (o:=o.map rbare) (l:=(l.drop p).map rbare) (by rw [List.length_map,List.length_drop];omega) (drop_ne hp) (by rw [head_drop hp];exact hg) (by rw [nst_bare];exact hm)
 rw [h.eq,← List.map_take,smOne_bare,← List.map_drop,List.drop_drop] at hst
 refine ⟨fun e=>by rw [hst,e],fun x L e eL=>⟨hq,?_⟩⟩
 rw [hst,e,List.map_append,eL,smOne_x e]
def smD (S:List Rn) (a b x:Int):Int:=totC S x-(if x=a then 1 else 0)-(if x=b then 1 else 0)
theorem smD_eq {S:List Rn}{L:List (Int×Int)}{sa sb:Int} (va:cnt sa L=totC S sa) (vb:cnt sb (setC sa (cnt sa L-1) L)=if sb=sa then cnt sa L-1 else totC S sb) (x:Int) :
  (if x=sb then cnt sb (setC sa (cnt sa L-1) L)-1 else if x=sa then cnt sa L-1 else totC S x)=smD S sa sb x:=by
 rw [vb,va,smD]
 by_cases e1:x=sb
 ·subst e1
  rw [if_pos rfl,if_pos rfl]
  by_cases e2:x=sa
  ·subst e2;rw [if_pos rfl,if_pos rfl]
  ·rw [if_neg e2,if_neg e2];omega
 ·rw [if_neg e1,if_neg e1]
  by_cases e2:x=sa
  ·subst e2;rw [if_pos rfl,if_pos rfl];omega
  ·rw [if_neg e2,if_neg e2];omega
theorem smD_bd {S:List Rn}{sa sb:Int} (h:∀ x,0≤totC S x∧totC S x≤1402560*S.length) (x:Int):-2≤smD S sa sb x∧smD S sa sb x≤1402560*S.length:=by
 have:=h x
 rw [smD];split<;>split<;>omega
theorem nodup_le:∀ {L M:List Int},L.Nodup→(∀ x∈L,x∈M)→L.length≤M.length
 | [],_,_,_=>Nat.zero_le _
 | x::L,M,h,hm=>by
  obtain ⟨h1,h2⟩:=List.nodup_cons.1 h
  have hx:=hm x (List.mem_cons_self ..)
  have h3:=nodup_le (M:=M.erase x) h2 fun y hy=>(List.mem_erase_of_ne fun e:y=x=>h1 (e ▸ hy)).2 (hm y (List.mem_cons_of_mem _ hy))
  have h4:=List.length_erase_of_mem hx
  have h5:=List.length_pos_of_mem hx
  rw [List.length_cons];omega
theorem MpI.len {L:List (Int×Int)}{D:Int→Int} (h:MpI L D) (hn:(L.map (·.1)).Nodup):L.length≤1001:=by
 have:=nodup_le (M:=(List.range 1001).map fun n:Nat=>(n:Int)) hn fun x hx=>by
  have:=h.keys x hx
  exact List.mem_map.2 ⟨x.toNat,List.mem_range.2 (by omega),by omega⟩
 rw [List.length_map,List.length_map,List.length_range] at this
 exact this
theorem fT_take {D:Int→Int}{K:List Int}{j:Nat} (h:j < K.length):(K.take (j+1)).filterMap (fT D)=(K.take j).filterMap (fT D)++(if 0 < D K[j] then [(K[j],D K[j])] else []):=by
 rw [List.take_succ_eq_append_getElem h,List.filterMap_append]
 congr 1
 rw [List.filterMap_cons,fT]
 by_cases h:0 < D K[j]
 ·rw [if_pos h,if_pos h];rfl
 ·rw [if_neg h,if_neg h];rfl
theorem J.slPosR {C:Ctx}{st:List (Nat×Value)}{M:List Row}{k:List Item}{sz N:Nat}{a:Option Addr}{L:List (List Value)} (hm:slRow N a sz L∈M) (h:(0 < L.length→∃ b off,a=some ⟨b,off,none⟩)→J C st M k):J C st M k:=.mk fun ac w hf hd hw =>
 (h fun h0=>by
  obtain ⟨b,off,e,_⟩:=hw.sl hm h0
  exact ⟨b,off,e⟩).go ac w hf hd hw
set_option maxHeartbeats 4000000 in
theorem vSum_holds (a:Option Addr) (l:List Rn) (c:Nat) (w:World) (hA:RunsAt w a l) (hta:∀ r∈l,r.tab.length≤64) (hl:l.length≤400) (hcap:l.length≤c) :
  Calls Tryd.prog 8 #[.slice a l.length c] w (RetU [] (fun L=>L.map rbare=(sumE l).1.map rbare) (fun a' n c'=>.tuple #[.slice a' n c',.int .i64 (sumE l).2]) w):=by
 have hck:=fun w' (hb:Below w.heap.size w w')=>vRuns_holds a l c w' (hA.below hb) hta
 by_cases hE0:runsErr l=0
 case neg =>
  have hJ:sumE l=([],runsErr l):=by rw [sumE,if_pos hE0]
  rw [hJ]
  generalize runsErr l=E at *
  refine enterA [(0,.slice a l.length c)] Tryd.func8 Tryd.ntmps8 ?_
  all_goals (refine go ?_;and_intros<;>(try exact trivial)<;>repeat (first|refine fun (Bk:Nat)=>?_|intro h))
  repeat' ((first|(refine G.cvb hck ?_))<;>(refine go ?_;and_intros<;>(try exact trivial)<;>repeat (first|refine fun (Bk:Nat)=>?_|intro h)))
  refine ret2 Tryd.func8 Tryd.results8 ?_
  exact fun w' hw'=>RetU.nil (fun a' n c'=>.tuple #[.slice a' n c',.int .i64 E]) hw'.below rfl
 rw [hE0] at hck
 obtain ⟨hO,_,hc3⟩:=runs_ok hE0
 obtain ⟨f,t,hC⟩:∃ f t,Cn f l t:=by
  by_cases h0:l=[]
  ·subst h0;exact ⟨0,0,rfl⟩
  ·exact ⟨_,_,(hc3 h0).1⟩
 clear hc3
 refine enterA [(0,.slice a l.length c)] Tryd.func8 Tryd.ntmps8 ?_
 all_goals (refine go ?_;and_intros<;>(try exact trivial)<;>repeat (first|refine fun (Bk:Nat)=>?_|intro h))
 repeat' ((first|(refine G.cvb hck ?_)|(apply G.cR (g:=27) (v:=fun x:Nat=>.func (.func 47) #[] #[.pointer (some ⟨x,0,none⟩)]) (Mn:=fun x=>[.blk x 27 [.slice a l.length c] 1]);rfl;rfl;exact fun w' hw'=>stretches_holds _ _ w' a l.length c hw';intro Bl))<;>(refine go ?_;and_intros<;>(try exact trivial)<;>repeat (first|refine fun (Bk:Nat)=>?_|intro h)))
 revert Bk;intro B5
 revert Bk;intro B3
 revert Bk;intro B2
 apply J.nilOwn (E:=50) (size:=5)
 apply J.fam0 Rn.adr 2 (fun r=>r.tab.map hoV)
 refine J.rangeD1 (e1:=segV a c) (es:=stL l.length 0 l) (K:=[.blk Bl 27 [.slice a l.length c] 1]) (fun s:(List Rn×Option Addr×Nat)×Int=>[.own 0 (.slice s.1.2.1 s.1.1.length s.1.2.2) 50 5 s.1.1.length (flat rnV s.1.1),tfam w.heap.size s.1.1,.blk B5 27 [.slice s.1.2.1 s.1.1.length s.1.2.2] 1,.blk B3 28 [.int .i64 s.2] 1,.blk B2 27 [.slice none 0 0] 1]) (fun i s=>∃ p,(stL l.length 0 l).drop i=stL l.length p (l.drop p)∧SmAt l p s.1.1∧srcR w.heap.size [] s.1.1∧s.1.1.length≤3*p∧s.2=0) (fun cc s=>cc=.ret∧s.2=29∧smF l.length [] (l.map rbare)=none) (([],none,0),0) [] (stretches_iter w Bl a l c hA.1 (by omega) hcap) rfl rfl rfl (by (repeat (first|exact List.Perm.refl _|(refine pickT (by (repeat (first|exact Pick.head|apply Pick.tail))) ?_)))) ⟨0,rfl,⟨Nat.zero_le _,rfl⟩,srcR.nil,Nat.zero_le _,rfl⟩ ?_ ?_ ?_
 ·intro i ⟨⟨o,au,cu⟩,E⟩ e ⟨p,hi0,hi1,hi2,hi3,hi4⟩ he L0 rr M' hrs hrp
  dsimp only at hi1 hi2 hi3 hi4 ⊢
  subst hi4
  all_goals (refine goR ?_;and_intros<;>(try exact trivial)<;>repeat (first|refine fun (Bk:Nat)=>?_|intro h))
  repeat' ((first|(refine J.beginR rfl (i:=0) rfl hrs ?_)|(apply J.regQ;exact Tryd.mixed;decide +kernel)|(apply J.regL';exact Tryd.mixed;decide +kernel))<;>(refine goR ?_;and_intros<;>(try exact trivial)<;>repeat (first|refine fun (Bk:Nat)=>?_|intro h)))
  have hpe:=(List.getElem?_eq_some_iff.1 he).1
  have hp:p < l.length:=by
   rcases Nat.lt_or_ge p l.length with h|h
   ·exact h
   ·obtain rfl:p=l.length:=by have:=hi1.le;omega
    rw [stL_end] at hi0
    have:=congrArg List.length hi0
    rw [List.length_drop,List.length_nil] at this
    omega
  rw [stL_step (Nat.le_refl _) hp] at hi0
  obtain ⟨e1,e2,e3⟩:=drop_at hi0
  obtain rfl:e=(p,nst (l.drop p)):=Option.some.inj (he.symm.trans e1)
  have hdn:l.drop p≠[]:=fun h=>by
   have:=congrArg List.length h
   rw [List.length_drop,List.length_nil] at this;omega
  have hm0:=nst_pos hdn
  have hml:=nst_le hdn
  rw [List.length_drop] at hml
  obtain ⟨m,hm⟩:∃ m,nst (l.drop p)=m:=⟨_,rfl⟩
  rw [hm] at e2 hm0 hml
  rw [hm]
  obtain ⟨ba,oa,rfl,hra⟩:=SlAt.all hA.1 (by omega)
  rw [show segV (some ⟨ba,oa,none⟩) c (p,m)=.slice (some ⟨ba,oa+p*5,none⟩) m (c-p) by rw [segV,subA_some (by omega)]]
  have hsg:=SlAt.seg hra p m (by omega)
  obtain ⟨f2,t2,hCs⟩:∃ f2 t2,Cn f2 ((l.drop p).take m) t2:=by
   rw [← List.take_append_drop p l] at hC
   obtain ⟨m1,_,h2⟩:=Cn.app.1 hC
   rw [← List.take_append_drop m (l.drop p)] at h2
   obtain ⟨m2,h3,_⟩:=Cn.app.1 h2
   exact ⟨m1,m2,h3⟩
  have hSm:∀ r∈(l.drop p).take m,r∈l:=fun r hr=>List.mem_of_mem_drop (List.mem_of_mem_take hr)
  have hSl:((l.drop p).take m).length=m:=by rw [List.length_take,List.length_drop];omega
  have hS0:∀ h:0 < ((l.drop p).take m).length,((l.drop p).take m)[0]'h=l[p]:=fun h=>by simp
  have hgm:l[p].tab.length=0→m=1:=fun h=>by
   rw [← hm,List.drop_eq_getElem_cons hp,nst,if_pos h]
  have hgap:=hi1.gap hp
  have hsegN:=fun hg=>hi1.segN hp hg hm (by omega)
  generalize (l.drop p).take m=S at *
  have h0S:0 < S.length:=by omega
  have h1S:m-1 < S.length:=by omega
  have hS0:=hS0 h0S
  rw [← hS0] at hgap hgm hsegN
  obtain ⟨b2,o2,hb2,hrS⟩:=SlAt.all hsg (by omega)
  cases hb2
  have r0:=hrS 0 h0S
  have r1:=hrS (m-1) h1S
  have m0:=List.getElem_mem (l:=S) (n:=0) h0S
  have m1:=List.getElem_mem (l:=S) (n:=m-1) h1S
  have hz:(m:Int)-1=((m-1:Nat):Int):=by omega
  have hgp:=fun w'=>gap_holds S[0] w'
  have ml0:=hSm _ m0
  clear hra hsg he e1 hi0 hm hdn hpe
  by_cases hg:S[0].tab.length=0
  ·
   obtain rfl:=hgm hg
   have hnx:=hgap hg
   rw [decide_eq_true hg] at hgp
   have hsr:srcR w.heap.size [] (o++[S[0]]):=hi2.app (srcR.one (.inl hg))
   have hln:(o++[S[0]]).length=o.length+1:=by simp
   clear hsegN hgap hg hgm hrS hCs
   generalize S[0]=x at *
   have hap:flat rnV o++rnV x=flat rnV (o++[x]):=flat1 rnV _ _
   obtain ⟨xf,xt,tab,adr,cx,lo,hi⟩:=x
   dsimp only [rnV,rnA] at *
   all_goals (refine goR ?_;and_intros<;>(try exact trivial)<;>repeat (first|refine fun (Bk:Nat)=>?_|intro h))
   repeat' ((first|(apply J.regS [] (.q 0 <| .q 1 <| .q 2 <| .q 3 <| .q 4 <| .q 5 <| .q 6 <| .q 7 <| .q 8 <| .f 9 (.e 10 <| .e 11 <| .r 12 <| .nil) 10 (.e 9 <| .e 11 <| .r 12 <| .nil));exact Tryd.mixed;decide +kernel;exact List.nil_sublist _)|(apply G.forkS)|(apply G.sCO (vs:=[.int .i64 xf,.int .i64 xt,.slice adr tab.length cx,.int .i64 lo,.int .i64 hi]);rfl;rfl;rfl;(repeat (first|exact RAt.head|apply RAt.tail));rfl;rfl;exact Nat.le_of_ble_eq_true rfl;rfl;exact List.nil_sublist _)|(apply G.sCS (vs:=[.int .i64 xf,.int .i64 xt,.slice adr tab.length cx,.int .i64 lo,.int .i64 hi]);rfl;rfl;rfl;rfl;(repeat (first|exact RAt.head|apply RAt.tail));rfl;rfl;exact Nat.le_of_ble_eq_true rfl;rfl;exact List.nil_sublist _)|(apply G.cV (g:=24);rfl;rfl;exact fun w' _=>hgp w')|(apply G.sliceL;rfl;rfl;rfl;rfl;rfl;rfl;rfl;rfl;intro Bs)|(apply G.apV;rfl;rfl;rfl;(repeat (first|exact RAt.head|apply RAt.tail));exact SrcV.blk (by exact mm) rfl rfl;exact hap;omega;omega;intro a2 c2)|(apply J.regQ;exact Tryd.mixed;decide +kernel)|(apply J.regL';exact Tryd.mixed;decide +kernel))<;>(refine goR ?_;and_intros<;>(try exact trivial)<;>repeat (first|refine fun (Bk:Nat)=>?_|intro h)))
   all_goals
    refine J.tfamOld hA ?_
    refine J.tfamTo (o:=o) (l:=l) (o++[⟨xf,xt,tab,adr,cx,lo,hi⟩]) mm mm (fun r hr=>(List.mem_append.1 hr).imp id fun hr=>by rw [List.mem_singleton.1 hr];exact ml0) ?_
    rw [← hln]
    refine J.sel (T:=.obj L0 (.loop (busy rr))::.own 0 (.slice a2 (o++[⟨xf,xt,tab,adr,cx,lo,hi⟩]:List Rn).length c2) 50 5 (o++[⟨xf,xt,tab,adr,cx,lo,hi⟩]:List Rn).length (flat rnV (o++[⟨xf,xt,tab,adr,cx,lo,hi⟩]:List Rn))::tfam w.heap.size (o++[⟨xf,xt,tab,adr,cx,lo,hi⟩]:List Rn)::.blk B5 27 [.slice a2 (o++[⟨xf,xt,tab,adr,cx,lo,hi⟩]:List Rn).length c2] 1::.blk B3 28 [.int .i64 0] 1::.blk B2 27 [.slice none 0 0] 1::M') ?_
    exact leaveG hrs hrp ((o++[⟨xf,xt,tab,adr,cx,lo,hi⟩],a2,c2),0) ⟨p+1,e2,hnx,hsr,by dsimp only;omega,rfl⟩ rfl
  have hsg:=hsegN hg
  rw [decide_eq_false hg] at hgp
  clear hgap hgm hsegN
  subst hSl
  have hOS:∀ r∈S,OkR r:=fun r hr=>hO r (hSm r hr)
  have hrw1:=fun w'=>raw_holds S[0] w'
  have hrw2:=fun w'=>raw_holds S[S.length-1] w'
  have n1:=smOne_eq h0S
  have n2:=smOne_no h0S
  have k0:=hOS _ m0
  have k1:=hOS _ m1
  have i1:=k0.rng
  have i2:=k1.rng
  have t0:=hA.2 _ ml0
  have t1:=hA.2 _ (hSm _ m1)
  have hne:S≠[]:=fun e=>by rw [e] at h0S;exact absurd h0S (Nat.lt_irrefl _)
  have c0:=(hCs.first hne).1
  have c1:=hCs.last hne
  have clt:=hCs.le hOS
  rw [headD_at h0S] at c0
  rw [lastD_at h0S] at c1
  clear m0 m1 ml0 hCs
  generalize S[0]=x1 at *
  generalize S[S.length-1]=x2 at *
  by_cases hr:x1.tab.length=1∧x2.tab.length=1
  case neg =>
   have hno:=hsg.1 (n2 hr)
   clear n1 n2 k0 k1 t0 t1 hsg
   obtain ⟨f1,u1,tb1,ad1,cp1,lo1,hi1'⟩:=x1
   obtain ⟨g1,u2,tb2,ad2,cp2,lo2,hi2'⟩:=x2
   dsimp only [rnV,rnA] at *
   by_cases q1:tb1.length=1
   ·have q2:tb2.length≠1:=fun e=>hr ⟨q1,e⟩
    rw [decide_eq_true q1] at hrw1
    rw [decide_eq_false q2] at hrw2
    clear hr
    all_goals (refine goR ?_;and_intros<;>(try exact trivial)<;>repeat (first|refine fun (Bk:Nat)=>?_|intro h))
    repeat' ((first|(apply J.regS [] (.q 0 <| .q 1 <| .q 2 <| .q 3 <| .q 4 <| .q 5 <| .q 6 <| .q 7 <| .q 8 <| .f 9 (.e 10 <| .e 11 <| .r 12 <| .nil) 10 (.e 9 <| .e 11 <| .r 12 <| .nil));exact Tryd.mixed;decide +kernel;exact List.nil_sublist _)|(apply G.forkS)|(apply G.ix (i:=0);rfl;rfl;exact rfl;exact h0S;rfl)|(apply G.ix (i:=S.length-1);rfl;rfl;exact hz;exact h1S;rfl)|(apply G.sCO (vs:=[.int .i64 f1,.int .i64 u1,.slice ad1 tb1.length cp1,.int .i64 lo1,.int .i64 hi1']);rfl;rfl;rfl;(repeat (first|exact RAt.head|apply RAt.tail));rfl;rfl;exact Nat.le_of_ble_eq_true rfl;rfl;exact List.nil_sublist _)|(apply G.sCS (vs:=[.int .i64 f1,.int .i64 u1,.slice ad1 tb1.length cp1,.int .i64 lo1,.int .i64 hi1']);rfl;rfl;rfl;rfl;(repeat (first|exact RAt.head|apply RAt.tail));rfl;rfl;exact Nat.le_of_ble_eq_true rfl;rfl;exact List.nil_sublist _)|(apply G.cV (g:=24);rfl;rfl;exact fun w' _=>hgp w')|(apply G.cV (g:=28) (d:=43);rfl;rfl;exact fun w' _=>hrw1 w')|(apply G.cV (g:=28) (d:=47);rfl;rfl;exact fun w' _=>hrw2 w')|(apply J.regQ;exact Tryd.mixed;decide +kernel)|(apply J.regL';exact Tryd.mixed;decide +kernel))<;>(refine goR ?_;and_intros<;>(try exact trivial)<;>repeat (first|refine fun (Bk:Nat)=>?_|intro h)))
    all_goals
     refine J.sel (T:=.obj L0 (.loop (busy rr))::.own 0 (.slice au o.length cu) 50 5 o.length (flat rnV o)::tfam w.heap.size (o)::.blk B5 27 [.slice au o.length cu] 1::.blk B3 28 [.int .i64 29] 1::.blk B2 27 [.slice none 0 0] 1::M') ?_
     exact leaveGret ((o,au,cu),29) ⟨rfl,rfl,hno⟩ rfl
   ·rw [decide_eq_false q1] at hrw1
    clear hr
    all_goals (refine goR ?_;and_intros<;>(try exact trivial)<;>repeat (first|refine fun (Bk:Nat)=>?_|intro h))
    repeat' ((first|(apply J.regS [] (.q 0 <| .q 1 <| .q 2 <| .q 3 <| .q 4 <| .q 5 <| .q 6 <| .q 7 <| .q 8 <| .f 9 (.e 10 <| .e 11 <| .r 12 <| .nil) 10 (.e 9 <| .e 11 <| .r 12 <| .nil));exact Tryd.mixed;decide +kernel;exact List.nil_sublist _)|(apply G.forkS)|(apply G.ix (i:=0);rfl;rfl;exact rfl;exact h0S;rfl)|(apply G.ix (i:=S.length-1);rfl;rfl;exact hz;exact h1S;rfl)|(apply G.sCO (vs:=[.int .i64 f1,.int .i64 u1,.slice ad1 tb1.length cp1,.int .i64 lo1,.int .i64 hi1']);rfl;rfl;rfl;(repeat (first|exact RAt.head|apply RAt.tail));rfl;rfl;exact Nat.le_of_ble_eq_true rfl;rfl;exact List.nil_sublist _)|(apply G.sCS (vs:=[.int .i64 f1,.int .i64 u1,.slice ad1 tb1.length cp1,.int .i64 lo1,.int .i64 hi1']);rfl;rfl;rfl;rfl;(repeat (first|exact RAt.head|apply RAt.tail));rfl;rfl;exact Nat.le_of_ble_eq_true rfl;rfl;exact List.nil_sublist _)|(apply G.cV (g:=24);rfl;rfl;exact fun w' _=>hgp w')|(apply G.cV (g:=28) (d:=43);rfl;rfl;exact fun w' _=>hrw1 w')|(apply J.regQ;exact Tryd.mixed;decide +kernel)|(apply J.regL';exact Tryd.mixed;decide +kernel))<;>(refine goR ?_;and_intros<;>(try exact trivial)<;>repeat (first|refine fun (Bk:Nat)=>?_|intro h)))
    all_goals
     refine J.sel (T:=.obj L0 (.loop (busy rr))::.own 0 (.slice au o.length cu) 50 5 o.length (flat rnV o)::tfam w.heap.size (o)::.blk B5 27 [.slice au o.length cu] 1::.blk B3 28 [.int .i64 29] 1::.blk B2 27 [.slice none 0 0] 1::M') ?_
     exact leaveGret ((o,au,cu),29) ⟨rfl,rfl,hno⟩ rfl
  have hE:smOne S=some (smS x1.from_ x2.to_ (stg x1) (stg x2) (smTab S (stg x1) (stg x2))):=n1 hr.1 hr.2
  have hnx:=fun L=>hsg.2 _ L hE
  have q1:=raw_tab k0 hr.1
  have q2:=raw_tab k1 hr.2
  have s1:=(k0.raw hr.1).2
  have s2:=(k1.raw hr.2).2
  rw [decide_eq_true hr.1] at hrw1
  rw [decide_eq_true hr.2] at hrw2
  have sg1:=k0.tabs.1
  have sg2:=k1.tabs.1
  clear n1 n2 k0 k1 hr hsg hE
  generalize stg x1=sa at *
  generalize stg x2=sb at *
  obtain ⟨f1,u1,tb1,ad1,cp1,lo1,hi1'⟩:=x1
  obtain ⟨g1,u2,tb2,ad2,cp2,lo2,hi2'⟩:=x2
  rw [TabAt] at t0 t1
  dsimp only [rnV,rnA] at *
  subst q1 q2
  subst c0 c1
  have sg1:=sg1 _ (List.mem_singleton_self _)
  have sg2:=sg2 _ (List.mem_singleton_self _)
  obtain ⟨b1,o1,rfl,tr0⟩:=SlAt.all t0 (Nat.succ_pos _)
  obtain ⟨b3,o3,rfl,tr1⟩:=SlAt.all t1 (Nat.succ_pos _)
  have tr0:=tr0 0 (Nat.succ_pos _)
  have tr1:=tr1 0 (Nat.succ_pos _)
  clear t0 t1
  dsimp only [List.length_cons,List.length_nil,hoV,List.getElem_cons_zero] at *
  have hh1:=fun w'=>held_holds f1 (f1+1) sa w' (by omega) (by omega)
  have hh2:=fun w'=>held_holds (u2-1) u2 sb w' (by omega) (by omega)
  apply J.cutC (X:=Nat×Nat) (fun x=>[(3,.pointer (some ⟨B3,0,none⟩)),(2,.pointer (some ⟨B2,0,none⟩)),(5,.pointer (some ⟨B5,0,none⟩)),(6,.slice (some ⟨ba,oa+p*5,none⟩) S.length (c-p)),(7,.pointer (some ⟨x.1,0,none⟩)),(8,.pointer (some ⟨x.2,0,none⟩))]) (fun x=>.blk x.1 50 [.int .i64 f1,.int .i64 u1,.slice (some ⟨b1,o1,none⟩) 1 cp1,.int .i64 lo1,.int .i64 hi1'] 5::.blk x.2 50 [.int .i64 g1,.int .i64 u2,.slice (some ⟨b3,o3,none⟩) 1 cp2,.int .i64 lo2,.int .i64 hi2'] 5::.obj L0 (.loop (busy rr))::.own 0 (.slice au o.length cu) 50 5 o.length (flat rnV o)::tfam w.heap.size o::.blk B5 27 [.slice au o.length cu] 1::.blk B3 28 [.int .i64 0] 1::.blk B2 27 [.slice none 0 0] 1::M')
  ·intro hk2
   have hk2:=fun a b=>hk2 ⟨a,b⟩
   dsimp only at hk2
   all_goals (refine goG ?_;and_intros<;>(try exact trivial)<;>repeat (first|refine fun (Bk:Nat)=>?_|intro h))
   repeat' ((first|(apply J.regS [] (.q 0 <| .q 1 <| .q 2 <| .q 3 <| .q 4 <| .q 5 <| .q 6 <| .q 7 <| .q 8 <| .f 9 (.e 10 <| .e 11 <| .r 12 <| .nil) 10 (.e 9 <| .e 11 <| .r 12 <| .nil));exact Tryd.mixed;decide +kernel;exact List.nil_sublist _)|(apply G.forkS)|(apply G.ix (i:=0);rfl;rfl;exact rfl;exact h0S;rfl)|(apply G.ix (i:=S.length-1);rfl;rfl;exact hz;exact h1S;rfl)|(apply G.sCO (vs:=[.int .i64 f1,.int .i64 u1,.slice (some ⟨b1,o1,none⟩) 1 cp1,.int .i64 lo1,.int .i64 hi1']);rfl;rfl;rfl;(repeat (first|exact RAt.head|apply RAt.tail));rfl;rfl;exact Nat.le_of_ble_eq_true rfl;rfl;exact List.nil_sublist _)|(apply G.sCS (vs:=[.int .i64 f1,.int .i64 u1,.slice (some ⟨b1,o1,none⟩) 1 cp1,.int .i64 lo1,.int .i64 hi1']);rfl;rfl;rfl;rfl;(repeat (first|exact RAt.head|apply RAt.tail));rfl;rfl;exact Nat.le_of_ble_eq_true rfl;rfl;exact List.nil_sublist _))<;>(refine goG ?_;and_intros<;>(try exact trivial)<;>repeat (first|refine fun (Bk:Nat)=>?_|intro h)))
   all_goals exact J.finS (hk2 _ _)
  intro ⟨B7,B8⟩
  dsimp only
  have hap:=fun a3 c3=>flat1 rnV o ⟨f1,f1+1,[(sa,f1+1-f1)],a3,c3,0,0⟩
  all_goals (refine goR ?_;and_intros<;>(try exact trivial)<;>repeat (first|refine fun (Bk:Nat)=>?_|intro h))
  repeat' ((first|(apply G.cV (g:=24);rfl;rfl;exact fun w' _=>hgp w')|(apply G.cV (g:=28) (d:=43);rfl;rfl;exact fun w' _=>hrw1 w')|(apply G.cV (g:=28) (d:=47);rfl;rfl;exact fun w' _=>hrw2 w')|(apply J.regA (.q 0 <| .q 1 <| .q 2 <| .q 3 <| .q 4 <| .q 5 <| .q 6 <| .e 7 <| .e 8 <| .r 9 <| .r 10 <| .nil);exact Tryd.mixed;decide +kernel)|(apply G.ix (i:=0);rfl;rfl;exact rfl;exact Nat.succ_pos _;rfl)|(apply G.cN (g:=20) (fun a' c'=>.agg #[.int .i64 f1,.int .i64 (f1+1),.slice a' 1 c',.int .i64 0,.int .i64 0]) ([(sa,f1+1-f1)].map hoV);rfl;rfl;exact fun w' _=>hh1 w';intro a3 c3 hp3 hq3)|(apply G.sliceL;rfl;rfl;rfl;rfl;rfl;rfl;rfl;rfl;intro Bs)|(apply G.apV;rfl;rfl;rfl;(repeat (first|exact RAt.head|apply RAt.tail));exact SrcV.blk (by exact mm) rfl rfl;exact hap a3 c3;omega;omega;intro a4 c4)|(apply G.mkm;rfl;intro bm)|(apply J.regQ;exact Tryd.mixed;decide +kernel)|(apply J.regL';exact Tryd.mixed;decide +kernel))<;>(refine goR ?_;and_intros<;>(try exact trivial)<;>repeat (first|refine fun (Bk:Nat)=>?_|intro h)))
  refine J.famAdd (r:=(⟨f1,f1+1,[(sa,f1+1-f1)],a3,c3,0,0⟩:Rn)) (o:=o) mm mm ?_
  obtain ⟨o4,ho4,hl4⟩:∃ o4,o++[(⟨f1,f1+1,[(sa,f1+1-f1)],a3,c3,0,0⟩:Rn)]=o4∧o4.length=o.length+1:=⟨_,rfl,by simp⟩
  rw [ho4]
  have hs4:srcR w.heap.size [] o4:=ho4 ▸ hi2.app (srcR.one (.inr (.inl hq3)))
  refine J.sel (T:=.obj bm (.map #[] 0)::tfam w.heap.size o4::.blk B7 50 [.int .i64 f1,.int .i64 u1,.slice (some ⟨b1,o1,none⟩) 1 cp1,.int .i64 lo1,.int .i64 hi1'] 5::.blk B8 50 [.int .i64 g1,.int .i64 u2,.slice (some ⟨b3,o3,none⟩) 1 cp2,.int .i64 lo2,.int .i64 hi2'] 5::.obj L0 (.loop (busy rr))::.own 0 (.slice a4 (o.length+1) c4) 50 5 (o.length+1) (flat rnV o4)::.blk B5 27 [.slice a4 (o.length+1) c4] 1::.blk B3 28 [.int .i64 0] 1::.blk B2 27 [.slice none 0 0] 1::M') ?_
  clear hrw1 hrw2 hgp hap tr0 tr1
  refine J.loop (c:=_) ((0,#[],0,[]):Nat×Array MapEntry×Nat×List (Int×Int)) (fun s=>S.length-s.1) (fun s=>[(3,.pointer (some ⟨B3,0,none⟩)),(2,.pointer (some ⟨B2,0,none⟩)),(5,.pointer (some ⟨B5,0,none⟩)),(7,.pointer (some ⟨B7,0,none⟩)),(8,.pointer (some ⟨B8,0,none⟩)),(9,.int .i64 sa),(10,.int .i64 sb),(11,.map (some bm)),(71,.slice (some ⟨ba,oa+p*5,none⟩) S.length (c-p)),(72,.int .i64 S.length),(73,.int .i64 (s.1:Nat))]) (fun s=>.obj bm (.map s.2.1 s.2.2.1)::tfam w.heap.size o4::.blk B7 50 [.int .i64 f1,.int .i64 u1,.slice (some ⟨b1,o1,none⟩) 1 cp1,.int .i64 lo1,.int .i64 hi1'] 5::.blk B8 50 [.int .i64 g1,.int .i64 u2,.slice (some ⟨b3,o3,none⟩) 1 cp2,.int .i64 lo2,.int .i64 hi2'] 5::.obj L0 (.loop (busy rr))::.own 0 (.slice a4 (o.length+1) c4) 50 5 (o.length+1) (flat rnV o4)::.blk B5 27 [.slice a4 (o.length+1) c4] 1::.blk B3 28 [.int .i64 0] 1::.blk B2 27 [.slice none 0 0] 1::M') (fun s=>s.1≤S.length∧MapIs (Value.int .i64) s.2.1 s.2.2.1 (s.2.2.2.map iv)∧MpI s.2.2.2 (fun x=>totC (S.take s.1) x)) ?_ sbT sbL ?_
  ·exact ⟨Nat.zero_le _,MapIs.nil,MpI.nil⟩
  intro ⟨k,es,cl,L⟩ ⟨j1,j2,j3⟩ ih
  dsimp only at j1 j2 j3 ⊢
  by_cases hk:k < S.length
  ·have hrk:=hrS k hk
   have hmk:=List.getElem_mem hk
   have hok:=hOS _ hmk
   have htk:=hA.2 _ (hSm _ hmk)
   have hlk:=hta _ (hSm _ hmk)
   obtain ⟨hb1,hb2⟩:=hok.tabs
   have hcb:=fun x=>cnt_bd16 hok x
   have hbd:=fun x=>totC_bd (l:=S.take k) (fun r hr=>hOS r (List.mem_of_mem_take hr)) x
   have hkl:(S.take k).length=k:=by rw [List.length_take];omega
   rw [hkl] at hbd
   have htt:=fun x=>totC_take hk x
   have ih1:=fun es cl L h1 (h2:MpI L fun x=>totC (S.take k) x+cnt x S[k].tab)=>ih (k+1,es,cl,L) ⟨hk,h1,h2.eqD fun x=>(htt x).symm⟩ (by dsimp only;omega)
   dsimp only at ih1
   clear ih htt hmk hok
   generalize S[k]=x at *
   obtain ⟨xf,xt,tab,adr,cx,lo,hi⟩:=x
   rw [TabAt] at htk
   dsimp only [rnV] at *
   all_goals (refine go ?_;and_intros<;>(try exact trivial)<;>repeat (first|refine fun (Bk:Nat)=>?_|intro h))
   repeat' ((first|fail)<;>(refine go ?_;and_intros<;>(try exact trivial)<;>repeat (first|refine fun (Bk:Nat)=>?_|intro h)))
   refine J.loop (c:=_) ((0,es,cl,L):Nat×Array MapEntry×Nat×List (Int×Int)) (fun s=>tab.length-s.1) (fun s=>[(3,.pointer (some ⟨B3,0,none⟩)),(2,.pointer (some ⟨B2,0,none⟩)),(5,.pointer (some ⟨B5,0,none⟩)),(7,.pointer (some ⟨B7,0,none⟩)),(8,.pointer (some ⟨B8,0,none⟩)),(9,.int .i64 sa),(10,.int .i64 sb),(11,.map (some bm)),(71,.slice (some ⟨ba,oa+p*5,none⟩) S.length (c-p)),(72,.int .i64 S.length),(73,.int .i64 (k:Nat)),(78,.slice adr tab.length cx),(79,.int .i64 tab.length),(80,.int .i64 (s.1:Nat))]) (fun s=>.obj bm (.map s.2.1 s.2.2.1)::tfam w.heap.size o4::.blk B7 50 [.int .i64 f1,.int .i64 u1,.slice (some ⟨b1,o1,none⟩) 1 cp1,.int .i64 lo1,.int .i64 hi1'] 5::.blk B8 50 [.int .i64 g1,.int .i64 u2,.slice (some ⟨b3,o3,none⟩) 1 cp2,.int .i64 lo2,.int .i64 hi2'] 5::.obj L0 (.loop (busy rr))::.own 0 (.slice a4 (o.length+1) c4) 50 5 (o.length+1) (flat rnV o4)::.blk B5 27 [.slice a4 (o.length+1) c4] 1::.blk B3 28 [.int .i64 0] 1::.blk B2 27 [.slice none 0 0] 1::M') (fun s=>s.1≤tab.length∧MapIs (Value.int .i64) s.2.1 s.2.2.1 (s.2.2.2.map iv)∧MpI s.2.2.2 (fun x=>totC (S.take k) x+sumAt x (tab.take s.1))) ?_ sbT sbL ?_
   ·exact ⟨Nat.zero_le _,j2,j3.eqD fun x=>(Int.add_zero _).symm⟩
   clear j2 j3
   intro ⟨j,es2,cl2,L2⟩ ⟨d1,d2,d3⟩ ih2
   dsimp only at d1 d2 d3 ⊢
   by_cases hj:j < tab.length
   ·obtain ⟨b9,o9,rfl,tr9⟩:=SlAt.all htk (by omega)
    have tr9:=tr9 j hj
    have hx:=hb1 _ (List.getElem_mem hj)
    have hta2:=fun x=>sumAt_take (s:=x) hj
    have hbs:=fun x=>sumAt_le (s:=x) (fun x hx=>(hb1 x hx).2.1) j
    generalize tab[j]=z at *
    obtain ⟨zs,zn⟩:=z
    have hv:=d3.val zs
    have hb3:=hbd zs
    have hb4:=hbs zs
    have hb5:=hcb zs
    rw [hb2 zs] at hb4
    have hlk2:=get_iv zs L2
    have hpt:=put_setC zs (cnt zs L2+zn) L2
    have ih3:=fun es3 c4 hI3=>ih2 (j+1,es3,c4,setC zs (cnt zs L2+zn) L2) ⟨hj,hI3,(d3.set hx.1).eqD fun x=>by
     dsimp only
     rw [hta2 x]
     split
     ·rename_i e;subst e;rw [hv];omega
     ·omega⟩ (by dsimp only;omega)
    clear ih2 d3 hta2 hbs hbd hb1 hb2 hcb ih1
    dsimp only [hoV] at *
    generalize cnt zs L2=N at *
    all_goals (refine go ?_;and_intros<;>(try exact trivial)<;>repeat (first|refine fun (Bk:Nat)=>?_|intro h))
    repeat' ((first|(apply G.lk (kf:=Value.int .i64) (a:=zs) d2;rfl;rfl;exact mm;exact hlk2;rfl)|(apply G.mu (kf:=Value.int .i64) (a:=zs) d2 hpt;rfl;rfl;rfl;rfl;(repeat (first|exact RAt.head|apply RAt.tail));intro es3 c4 hI3))<;>(refine go ?_;and_intros<;>(try exact trivial)<;>repeat (first|refine fun (Bk:Nat)=>?_|intro h)))
    exact J.finS (ih3 es3 c4 hI3)
   obtain rfl:j=tab.length:=by omega
   rw [List.take_length] at d3
   have ih3:=ih1 es2 cl2 L2 d2 (d3.eqD fun x=>by rw [hb2])
   clear ih1 ih2
   all_goals (refine go ?_;and_intros<;>(try exact trivial)<;>repeat (first|refine fun (Bk:Nat)=>?_|intro h))
   repeat' ((first|fail)<;>(refine go ?_;and_intros<;>(try exact trivial)<;>repeat (first|refine fun (Bk:Nat)=>?_|intro h)))
   exact J.finS ih3
  obtain rfl:k=S.length:=by omega
  rw [List.take_length] at j3
  clear ih hrS
  have hbS:=totC_bd hOS
  have hmt:smTab S sa sb=tabD 0 (smC S sa sb):=rfl
  have gsa:=get_iv sa L
  have psa:=put_setC sa (cnt sa L-1) L
  have va:=j3.val sa
  have vb:=(j3.set (v:=cnt sa L-1) s1).val sb
  have j4:=(j3.set (v:=cnt sa L-1) s1).set (v:=cnt sb (setC sa (cnt sa L-1) L)-1) s2
  have hM:MpI (setC sb (cnt sb (setC sa (cnt sa L-1) L)-1) (setC sa (cnt sa L-1) L)) (smD S sa sb):=j4.eqD fun x=>smD_eq va vb x
  clear j4
  have na:=hbS sa
  have nb:=hbS sb
  rw [← va] at na
  have nb2:-1≤cnt sb (setC sa (cnt sa L-1) L)∧cnt sb (setC sa (cnt sa L-1) L)≤1402560*S.length:=by
   rw [vb];split<;>omega
  clear j3 va vb nb
  generalize setC sa (cnt sa L-1) L=L1 at *
  have gsb:=get_iv sb L1
  have psb:=put_setC sb (cnt sb L1-1) L1
  generalize setC sb (cnt sb L1-1) L1=L2 at *
  generalize cnt sa L=N1 at *
  generalize cnt sb L1=N2 at *
  have hsr:∀ (x:Nat) (es:Array MapEntry) (cl:Nat) (hI:MapIs (Value.int .i64) es cl (L2.map iv)) M w',Sat w ([.blk x 64 [.map (some bm)] 1,.obj bm (.map es cl)]++M) w'→Calls Tryd.prog 29 #[.func (.func 50) #[] #[.pointer (some ⟨x,0,none⟩)]] w' fun e w2=>∃ y:{ x:Option Addr×Nat×List Int // x.2.2.Perm ((L2.map iv).map (·.1))∧x.2.2.Pairwise (·≤·) },e=.returned (.slice y.1.1 y.1.2.2.length y.1.2.1)∧Sat w ([.own 0 (.slice y.1.1 y.1.2.2.length y.1.2.1) 3 1 y.1.2.2.length (flat isV y.1.2.2),.obj bm (.map es cl)]++M) w2:=fun x es cl hI M w' hw'=>by
   have hkn:=hI.keys
   rw [iv_keys] at hkn
   have hl2:((L2.map iv).map (·.1)).length≤1001:=by rw [iv_keys,List.length_map];exact hM.len hkn
   exact (KI.sorted_holds w M [.blk x 64 [.map (some bm)] 1,.obj bm (.map es cl)] (.obj bm (.map es cl)) w' 50 #[.pointer (some ⟨x,0,none⟩)] ((L2.map iv).map (·.1)) (KI.keys_iter w x bm es cl (L2.map iv) hI) (Nat.le_trans hl2 (by decide)) (fun w0 M w au cu S hw hn=>sort_holds w0 M w au _ cu S hw hn (Nat.le_trans hl2 (by decide))) hw').mono fun e w2 ⟨y,h1,h2,h3⟩=>⟨⟨y,h2⟩,h1,h3⟩
  all_goals (refine go ?_;and_intros<;>(try exact trivial)<;>repeat (first|refine fun (Bk:Nat)=>?_|intro h))
  repeat' ((first|(apply G.lk (kf:=Value.int .i64) (a:=sa) j2;rfl;rfl;exact mm;exact gsa;rfl)|(apply G.mu (kf:=Value.int .i64) (a:=sa) j2 psa;rfl;rfl;rfl;rfl;(repeat (first|exact RAt.head|apply RAt.tail));intro es2 c2 hI2)|(apply G.lk (kf:=Value.int .i64) (a:=sb) hI2;rfl;rfl;exact mm;exact gsb;rfl)|(apply G.mu (kf:=Value.int .i64) (a:=sb) hI2 psb;rfl;rfl;rfl;rfl;(repeat (first|exact RAt.head|apply RAt.tail));intro es3 c3' hI3)|(apply G.cR (g:=30) (v:=fun x:Nat=>.func (.func 50) #[] #[.pointer (some ⟨x,0,none⟩)]) (Mn:=fun x=>[.blk x 64 [.map (some bm)] 1]);rfl;rfl;exact fun w' hw'=>KI.keys_holds _ _ w' (.bool false) bm hw';intro Bx)|(refine G.cP (g:=29) (X:={ x:Option Addr×Nat×List Int // x.2.2.Perm ((L2.map iv).map (·.1))∧x.2.2.Pairwise (·≤·) }) (fun x=>.slice x.1.1 x.1.2.2.length x.1.2.1) [.blk Bx 64 [.map (some bm)] 1,.obj bm (.map es3 c3')] (fun x=>[.own 0 (.slice x.1.1 x.1.2.2.length x.1.2.1) 3 1 x.1.2.2.length (flat isV x.1.2.2),.obj bm (.map es3 c3')]) rfl rfl (by (repeat (first|exact List.Perm.refl _|(refine pickT (by (repeat (first|exact Pick.head|apply Pick.tail))) ?_)))) (fun w' hw'=>hsr Bx es3 c3' hI3 _ w' hw') ?_;rintro ⟨⟨kau,kcu,K⟩,hK1,hK2⟩;dsimp only at hK1 hK2 ⊢))<;>(refine go ?_;and_intros<;>(try exact trivial)<;>repeat (first|refine fun (Bk:Nat)=>?_|intro h)))
  have hkn:=hI3.keys
  rw [iv_keys] at hkn hK1
  have hKl:K.length≤1001:=by rw [hK1.length_eq,List.length_map];exact hM.len hkn
  have hTT:K.filterMap (fT (smD S sa sb))=smTab S sa sb:=hmt.symm ▸ hM.tab hkn hK1 hK2 (smC_len S sa sb) fun s h=>smC_get S sa sb (by rwa [smC_len] at h)
  refine J.ownSlR (f:=isV) isV_len (by (repeat (first|exact Pick.head|apply Pick.tail))) rfl ?_
  refine J.slPosR (L:=K.map isV) (by exact mm) fun hpos=>?_
  apply J.nilOwn (E:=47) (size:=2)
  have hlk3:=fun x=>get_iv x L2
  have hvl:=hM.val
  have hDb:=fun x=>smD_bd (sa:=sa) (sb:=sb) hbS x
  clear hK1 hK2 hkn hmt hbS gsa psa gsb psb hM j2 na nb2
  generalize smD S sa sb=D at *
  rw [← hTT] at hnx
  refine J.loop (c:=_) ((0,none,0,[]):Nat×Option Addr×Nat×List (Int×Int)) (fun s=>K.length-s.1) (fun s=>[(3,.pointer (some ⟨B3,0,none⟩)),(2,.pointer (some ⟨B2,0,none⟩)),(5,.pointer (some ⟨B5,0,none⟩)),(7,.pointer (some ⟨B7,0,none⟩)),(8,.pointer (some ⟨B8,0,none⟩)),(10,.int .i64 sb),(11,.map (some bm)),(16,.pointer (some ⟨Bk,0,none⟩)),(110,.slice kau K.length kcu),(111,.int .i64 K.length),(112,.int .i64 s.1)]) (fun s=>.own 0 (.slice s.2.1 s.2.2.2.length s.2.2.1) 47 2 s.2.2.2.length (flat hoV s.2.2.2)::slRow w.heap.size kau 1 (K.map isV)::.obj bm (.map es3 c3')::.blk Bk 50 [.int .i64 (f1+1),.int .i64 (u2-1),.slice s.2.1 s.2.2.2.length s.2.2.1,.int .i64 0,.int .i64 0] 5::tfam w.heap.size o4::.blk B7 50 [.int .i64 f1,.int .i64 u1,.slice (some ⟨b1,o1,none⟩) 1 cp1,.int .i64 lo1,.int .i64 hi1'] 5::.blk B8 50 [.int .i64 g1,.int .i64 u2,.slice (some ⟨b3,o3,none⟩) 1 cp2,.int .i64 lo2,.int .i64 hi2'] 5::.obj L0 (.loop (busy rr))::.own 0 (.slice a4 (o.length+1) c4) 50 5 (o.length+1) (flat rnV o4)::.blk B5 27 [.slice a4 (o.length+1) c4] 1::.blk B3 28 [.int .i64 0] 1::.blk B2 27 [.slice none 0 0] 1::M') (fun s=>s.1≤K.length∧(K.take s.1).filterMap (fT D)=s.2.2.2∧s.2.2.2.length≤s.1) ?_ sbT sbL ?_
  ·exact ⟨Nat.zero_le _,rfl,Nat.le_refl _⟩
  intro ⟨j,au2,cu2,T⟩ ⟨d1,d2,d3⟩ ih
  dsimp only at d1 d2 d3 ⊢
  by_cases hj:j < K.length
  ·have hst:=fT_take (D:=D) hj
   rw [d2] at hst
   obtain ⟨b9,o9,rfl⟩:=hpos (by rw [List.length_map];omega)
   have hg0:=fun {C M} (hm:slRow w.heap.size (some ⟨b9,o9,none⟩) 1 (K.map isV)∈M)=>CellV.sl0 (C:=C) (M:=M) (f:=isV) (l:=K) hm hj rfl
   have ihA:=fun a' c' T' (e1:(K.take (j+1)).filterMap (fT D)=T') (e2:T'.length≤T.length+1)=>ih (j+1,a',c',T') ⟨hj,e1,by dsimp only;omega⟩ (by dsimp only;omega)
   dsimp only at ihA
   have hl1:∀ z:Int×Int,(T++[z]).length=T.length+1:=fun z=>by simp
   have hlz:=hlk3 K[j]
   have hvz:=hvl K[j]
   have hbz:=hDb K[j]
   rw [hvz] at hlz
   clear ih hlk3 hvl hDb hvz hpos
   generalize K[j]=x at *
   generalize hDx:D x=N at *
   by_cases hp:0 < N
   ·rw [if_pos hp] at hst
    have ihB:=fun a' c'=>ihA a' c' _ hst (by rw [hl1];exact Nat.le_refl _)
    have hap3:flat hoV T++hoV (x,N)=flat hoV (T++[(x,N)]):=flat1 hoV _ _
    rw [hl1] at ihB
    clear ihA hst
    dsimp only [hoV] at hap3
    all_goals (refine go ?_;and_intros<;>(try exact trivial)<;>repeat (first|refine fun (Bk:Nat)=>?_|intro h))
    repeat' ((first|(apply G.ld;rfl;(apply LdV.one;exact hg0 (by exact mm));rfl)|(apply G.lk (kf:=Value.int .i64) (a:=x) hI3;rfl;rfl;exact mm;exact hlz;rfl)|(apply G.sliceL;rfl;rfl;rfl;rfl;rfl;rfl;rfl;rfl;intro Bs)|(apply G.apV;rfl;rfl;rfl;(repeat (first|exact RAt.head|apply RAt.tail));exact SrcV.blk (by exact mm) rfl rfl;exact hap3;omega;omega;intro a7 c7)|(apply G.s1;rfl;rfl;rfl;(repeat (first|exact RAt.head|apply RAt.tail));exact ⟨rfl,rfl⟩;exact Nat.le_of_ble_eq_true rfl;rfl))<;>(refine go ?_;and_intros<;>(try exact trivial)<;>repeat (first|refine fun (Bk:Nat)=>?_|intro h)))
    exact J.finS (ihB _ _)
   ·rw [if_neg hp,List.append_nil] at hst
    have ihB:=ihA au2 cu2 T hst (Nat.le_succ _)
    clear ihA hst
    all_goals (refine go ?_;and_intros<;>(try exact trivial)<;>repeat (first|refine fun (Bk:Nat)=>?_|intro h))
    repeat' ((first|(apply G.ld;rfl;(apply LdV.one;exact hg0 (by exact mm));rfl)|(apply G.lk (kf:=Value.int .i64) (a:=x) hI3;rfl;rfl;exact mm;exact hlz;rfl))<;>(refine go ?_;and_intros<;>(try exact trivial)<;>repeat (first|refine fun (Bk:Nat)=>?_|intro h)))
    exact J.finS ihB
  obtain rfl:j=K.length:=by omega
  rw [List.take_length] at d2
  rw [d2] at hnx
  clear ih d2 hTT hlk3 hvl hDb hI3 hpos
  have hap1:=flat1 rnV o4 ⟨f1+1,u2-1,T,au2,cu2,0,0⟩
  have hap2:=fun a5 c5=>flat1 rnV (o4++[⟨f1+1,u2-1,T,au2,cu2,0,0⟩]) ⟨u2-1,u2,[(sb,u2-(u2-1))],a5,c5,0,0⟩
  have hap4:=fun a5 c5=>flat1 rnV o4 ⟨u2-1,u2,[(sb,u2-(u2-1))],a5,c5,0,0⟩
  by_cases hlt:f1+1 < u2-1
  ·have hS:smS f1 u2 sa sb T=[mkR f1 (f1+1) sa,⟨f1+1,u2-1,T,none,0,0,0⟩,mkR (u2-1) u2 sb]:=by rw [smS,if_pos hlt,if_pos (by omega)];rfl
   clear hap4
   all_goals (refine goR ?_;and_intros<;>(try exact trivial)<;>repeat (first|refine fun (Bk:Nat)=>?_|intro h))
   repeat' ((first|(apply G.sliceL;rfl;rfl;rfl;rfl;rfl;rfl;rfl;rfl;intro Bs)|(apply J.regA (.q 0 <| .q 1 <| .q 2 <| .q 3 <| .q 4 <| .q 5 <| .q 6 <| .e 7 <| .e 8 <| .r 9 <| .r 10 <| .nil);exact Tryd.mixed;decide +kernel)|(apply G.apV (v:=.slice a4 (o.length+1) c4);rfl;rfl;rfl;(repeat (first|exact RAt.head|apply RAt.tail));exact SrcV.blk (by exact mm) rfl rfl;exact hap1;omega;omega;intro a8 c8)|(apply G.cN (g:=20) (fun a' c'=>.agg #[.int .i64 (u2-1),.int .i64 u2,.slice a' 1 c',.int .i64 0,.int .i64 0]) ([(sb,u2-(u2-1))].map hoV);rfl;rfl;exact fun w' _=>hh2 w';intro a5 c5 hp5 hq5)|(apply G.apV (v:=.slice a8 (o.length+1+1) c8);rfl;rfl;rfl;(repeat (first|exact RAt.head|apply RAt.tail));exact SrcV.blk (by exact mm) rfl rfl;exact hap2 a5 c5;omega;omega;intro a6 c6)|(apply J.regQ;exact Tryd.mixed;decide +kernel)|(apply J.regL';exact Tryd.mixed;decide +kernel))<;>(refine goR ?_;and_intros<;>(try exact trivial)<;>repeat (first|refine fun (Bk:Nat)=>?_|intro h)))
   refine J.ownGe (a:=au2) mm ?_
   intro hau
   refine J.ownSlR (a:=au2) (f:=hoV) (l:=T) hoV_len (by (repeat (first|exact Pick.head|apply Pick.tail))) rfl ?_
   refine J.famAdd (r:=(⟨f1+1,u2-1,T,au2,cu2,0,0⟩:Rn)) (o:=o4) mm mm ?_
   refine J.famAdd (r:=(⟨u2-1,u2,[(sb,u2-(u2-1))],a5,c5,0,0⟩:Rn)) (o:=o4++[⟨f1+1,u2-1,T,au2,cu2,0,0⟩]) mm mm ?_
   have hln:(o4++[(⟨f1+1,u2-1,T,au2,cu2,0,0⟩:Rn)]++[(⟨u2-1,u2,[(sb,u2-(u2-1))],a5,c5,0,0⟩:Rn)]).length=o.length+1+1+1:=by simp [hl4]
   rw [← hln]
   refine J.sel (T:=.obj L0 (.loop (busy rr))::.own 0 (.slice a6 (o4++[⟨f1+1,u2-1,T,au2,cu2,0,0⟩]++[⟨u2-1,u2,[(sb,u2-(u2-1))],a5,c5,0,0⟩]:List Rn).length c6) 50 5 (o4++[⟨f1+1,u2-1,T,au2,cu2,0,0⟩]++[⟨u2-1,u2,[(sb,u2-(u2-1))],a5,c5,0,0⟩]:List Rn).length (flat rnV (o4++[⟨f1+1,u2-1,T,au2,cu2,0,0⟩]++[⟨u2-1,u2,[(sb,u2-(u2-1))],a5,c5,0,0⟩]:List Rn))::tfam w.heap.size (o4++[⟨f1+1,u2-1,T,au2,cu2,0,0⟩]++[⟨u2-1,u2,[(sb,u2-(u2-1))],a5,c5,0,0⟩]:List Rn)::.blk B5 27 [.slice a6 (o4++[⟨f1+1,u2-1,T,au2,cu2,0,0⟩]++[⟨u2-1,u2,[(sb,u2-(u2-1))],a5,c5,0,0⟩]:List Rn).length c6] 1::.blk B3 28 [.int .i64 0] 1::.blk B2 27 [.slice none 0 0] 1::M') ?_
   exact leaveG hrs hrp ((o4++[⟨f1+1,u2-1,T,au2,cu2,0,0⟩]++[⟨u2-1,u2,[(sb,u2-(u2-1))],a5,c5,0,0⟩],a6,c6),0) ⟨p+S.length,e2,by dsimp only;rw [← ho4,List.append_assoc,List.append_assoc];exact hnx _ (by rw [hS];rfl),(hs4.app (srcR.one (.inr (.inl hau)))).app (srcR.one (.inr (.inl hq5))),by dsimp only;rw [hln];omega,rfl⟩ rfl
  by_cases hlt2:f1+1 < u2
  ·have hS:smS f1 u2 sa sb T=[mkR f1 (f1+1) sa,mkR (u2-1) u2 sb]:=by rw [smS,if_neg hlt,if_pos hlt2];rfl
   clear hap1 hap2
   all_goals (refine goR ?_;and_intros<;>(try exact trivial)<;>repeat (first|refine fun (Bk:Nat)=>?_|intro h))
   repeat' ((first|(apply G.sliceL;rfl;rfl;rfl;rfl;rfl;rfl;rfl;rfl;intro Bs)|(apply J.regA (.q 0 <| .q 1 <| .q 2 <| .q 3 <| .q 4 <| .q 5 <| .q 6 <| .e 7 <| .e 8 <| .r 9 <| .r 10 <| .nil);exact Tryd.mixed;decide +kernel)|(apply G.cN (g:=20) (fun a' c'=>.agg #[.int .i64 (u2-1),.int .i64 u2,.slice a' 1 c',.int .i64 0,.int .i64 0]) ([(sb,u2-(u2-1))].map hoV);rfl;rfl;exact fun w' _=>hh2 w';intro a5 c5 hp5 hq5)|(apply G.apV (v:=.slice a4 (o.length+1) c4);rfl;rfl;rfl;(repeat (first|exact RAt.head|apply RAt.tail));exact SrcV.blk (by exact mm) rfl rfl;exact hap4 a5 c5;omega;omega;intro a6 c6)|(apply J.regQ;exact Tryd.mixed;decide +kernel)|(apply J.regL';exact Tryd.mixed;decide +kernel))<;>(refine goR ?_;and_intros<;>(try exact trivial)<;>repeat (first|refine fun (Bk:Nat)=>?_|intro h)))
   refine J.famAdd (r:=(⟨u2-1,u2,[(sb,u2-(u2-1))],a5,c5,0,0⟩:Rn)) (o:=o4) mm mm ?_
   have hln:(o4++[(⟨u2-1,u2,[(sb,u2-(u2-1))],a5,c5,0,0⟩:Rn)]).length=o.length+1+1:=by simp [hl4]
   rw [← hln]
   refine J.sel (T:=.obj L0 (.loop (busy rr))::.own 0 (.slice a6 (o4++[⟨u2-1,u2,[(sb,u2-(u2-1))],a5,c5,0,0⟩]:List Rn).length c6) 50 5 (o4++[⟨u2-1,u2,[(sb,u2-(u2-1))],a5,c5,0,0⟩]:List Rn).length (flat rnV (o4++[⟨u2-1,u2,[(sb,u2-(u2-1))],a5,c5,0,0⟩]:List Rn))::tfam w.heap.size (o4++[⟨u2-1,u2,[(sb,u2-(u2-1))],a5,c5,0,0⟩]:List Rn)::.blk B5 27 [.slice a6 (o4++[⟨u2-1,u2,[(sb,u2-(u2-1))],a5,c5,0,0⟩]:List Rn).length c6] 1::.blk B3 28 [.int .i64 0] 1::.blk B2 27 [.slice none 0 0] 1::M') ?_
   exact leaveG hrs hrp ((o4++[⟨u2-1,u2,[(sb,u2-(u2-1))],a5,c5,0,0⟩],a6,c6),0) ⟨p+S.length,e2,by dsimp only;rw [← ho4,List.append_assoc];exact hnx _ (by rw [hS];rfl),hs4.app (srcR.one (.inr (.inl hq5))),by dsimp only;rw [hln];omega,rfl⟩ rfl
  ·have hS:smS f1 u2 sa sb T=[mkR f1 (f1+1) sa]:=by rw [smS,if_neg hlt,if_neg hlt2];rfl
   clear hap1 hap2 hap4
   all_goals (refine go ?_;and_intros<;>(try exact trivial)<;>repeat (first|refine fun (Bk:Nat)=>?_|intro h))
   repeat' ((first|fail)<;>(refine go ?_;and_intros<;>(try exact trivial)<;>repeat (first|refine fun (Bk:Nat)=>?_|intro h)))
   rw [← hl4]
   refine J.sel (T:=.obj L0 (.loop (busy rr))::.own 0 (.slice a4 (o4).length c4) 50 5 (o4).length (flat rnV (o4))::tfam w.heap.size (o4)::.blk B5 27 [.slice a4 (o4).length c4] 1::.blk B3 28 [.int .i64 0] 1::.blk B2 27 [.slice none 0 0] 1::M') ?_
   exact leaveG hrs hrp ((o4,a4,c4),0) ⟨p+S.length,e2,by dsimp only;rw [← ho4];exact hnx _ (by rw [hS];rfl),hs4,by dsimp only;rw [hl4];omega,rfl⟩ rfl
 ·intro Bd ⟨⟨o,au,cu⟩,E⟩ ⟨p,hi0,hi1,hi2,hi3,hi4⟩
  dsimp only at hi1 hi2 hi3 hi4 ⊢
  subst hi4
  rw [List.drop_length] at hi0
  have hpl:=hi1.le
  obtain rfl:p=l.length:=by
   rcases Nat.lt_or_ge p l.length with h|h
   ·rw [stL_step (Nat.le_refl _) h] at hi0;cases hi0
   ·omega
  have hd:=hi1.done
  obtain ⟨e1,e2⟩:=sumE_ok hE0 hd
  rw [e1]
  obtain ⟨k1,k2,_⟩:=smF_ok l.length (o:=[]) (l:=l.map rbare) (f0:=f) (f:=f) (t:=t) (by rw [List.length_map];exact Nat.le_refl _) rfl (fun r hr=>by cases hr) (cn_bare.2 hC) (fun r hr=>by obtain ⟨x,hx,rfl⟩:=List.mem_map.1 hr;exact ok_bare.2 (hO x hx)) hd
  have k1:=cn_bare.1 k1
  have k2:∀ r∈o,OkR r:=fun r hr=>ok_bare.1 (k2 _ (List.mem_map_of_mem hr))
  have hjn:(joinL (o.map rbare)).length≤1200:=by
   have:=joinL_len (o.map rbare)
   rw [List.length_map] at this;omega
  clear hd hi1 hi0
  all_goals (refine go ?_;and_intros<;>(try exact trivial)<;>repeat (first|refine fun (Bk:Nat)=>?_|intro h))
  repeat' ((first|(refine G.cU (g:=31) (fun a' n c'=>.slice a' n c') (fun L=>L.map rbare=joinL (o.map rbare)) o (.inr mm) rfl rfl (fun w' hw'=>joined_holds _ o _ f t w' (own5R (N:=w.heap.size) hw' rfl) k1 k2 (by omega)) ?_;intro L a3 c3 hL ⟨hL1,hL2⟩ hL3;have hLl:L.length≤1200:=(by rw [← List.length_map (f:=rbare),hL];exact hjn)))<;>(refine go ?_;and_intros<;>(try exact trivial)<;>repeat (first|refine fun (Bk:Nat)=>?_|intro h)))
  refine J.sel (T:=[.obj Bd (.deferred (some [])),slRow w.heap.size a3 5 (L.map rnV),tfam w.heap.size L,.blk B3 28 [.int .i64 0] 1,.blk B2 27 [.slice a3 L.length c3] 1]) ?_
  refine leaveM (v:=.tuple #[.slice a3 L.length c3,.int .i64 0]) (ds:=[Bd]) Tryd.func8 rfl rfl rfl rfl (RunsTo.two Tryd.results8 (by (first|(apply ResV.tmp;rfl)|(apply ResV.cell;rfl;(first|(apply LdV.one;(first|exact CellV.row0 (by assumption) rfl|exact CellV.rowS (by assumption) rfl|exact CellV.rowSS (by assumption) rfl|(apply CellV.blk;exact mm;rfl)))|(apply LdV.aggBlk;exact mm;rfl)|(apply LdV.part;exact mm;rfl;rfl)|(apply LdV.aggRow;assumption;rfl)|(apply LdV.partRow;assumption;rfl;rfl))))) (by (first|(apply ResV.tmp;rfl)|(apply ResV.cell;rfl;(first|(apply LdV.one;(first|exact CellV.row0 (by assumption) rfl|exact CellV.rowS (by assumption) rfl|exact CellV.rowSS (by assumption) rfl|(apply CellV.blk;exact mm;rfl)))|(apply LdV.aggBlk;exact mm;rfl)|(apply LdV.part;exact mm;rfl;rfl)|(apply LdV.aggRow;assumption;rfl)|(apply LdV.partRow;assumption;rfl;rfl)))))) (List.Perm.refl _) fun w' hw'=>?_
  exact Sat.retS (fun a' n c'=>.tuple #[.slice a' n c',.int .i64 0]) hw' (e2 L hL) rfl hL2 (hL3.comp hi2)
 ·rintro Bd ⟨⟨o,au,cu⟩,E⟩ cc ⟨rfl,h2,h3⟩
  dsimp only at h2 h3 ⊢
  subst h2
  rw [sumE_no hE0 h3]
  refine leaveM (v:=.tuple #[.slice none 0 0,.int .i64 29]) (ds:=[Bd]) Tryd.func8 rfl rfl rfl rfl (RunsTo.two Tryd.results8 (by (first|(apply ResV.tmp;rfl)|(apply ResV.cell;rfl;(first|(apply LdV.one;(first|exact CellV.row0 (by assumption) rfl|exact CellV.rowS (by assumption) rfl|exact CellV.rowSS (by assumption) rfl|(apply CellV.blk;exact mm;rfl)))|(apply LdV.aggBlk;exact mm;rfl)|(apply LdV.part;exact mm;rfl;rfl)|(apply LdV.aggRow;assumption;rfl)|(apply LdV.partRow;assumption;rfl;rfl))))) (by (first|(apply ResV.tmp;rfl)|(apply ResV.cell;rfl;(first|(apply LdV.one;(first|exact CellV.row0 (by assumption) rfl|exact CellV.rowS (by assumption) rfl|exact CellV.rowSS (by assumption) rfl|(apply CellV.blk;exact mm;rfl)))|(apply LdV.aggBlk;exact mm;rfl)|(apply LdV.part;exact mm;rfl;rfl)|(apply LdV.aggRow;assumption;rfl)|(apply LdV.partRow;assumption;rfl;rfl)))))) (List.Perm.refl _) fun w' hw'=>?_
  exact RetU.nil (fun a' n c'=>.tuple #[.slice a' n c',.int .i64 29]) hw'.below rfl
end Go.Proofs.YtcdgibkbbcekhaaDoor
/-
 Contract: run.Finer.
-/
namespace Go.Proofs.YtcdgibkbbcekhaaDoor
open Go.RowKit Go.Sl Go.Num
theorem mem_erase_ne {α:Type}{R:List α}{j:Nat} (hj:j < R.length) {p:α} (h:p∈R) (hne:p≠R[j]):p∈R.eraseIdx j:=by
 obtain ⟨i,hi,e⟩:=List.mem_iff_getElem.1 h
 refine List.mem_eraseIdx_iff_getElem.2 ⟨i,hi,fun e2=>hne ?_,e⟩
 subst e2;exact e.symm
theorem all_take_succ {α:Type}{l:List α}{k:Nat} (hk:k < l.length) {P:α→Prop} (h:∀ x∈l.take k,P x) (h1:P l[k]):∀ x∈l.take (k+1),P x:=fun x hx=>by
 rw [List.take_succ_eq_append_getElem hk] at hx
 rcases List.mem_append.1 hx with hx|hx
 ·exact h x hx
 ·rw [List.mem_singleton.1 hx];exact h1
set_option maxHeartbeats 4000000 in
theorem vFin_holds (a:Option Addr) (la:List Rn) (ca:Nat) (b:Option Addr) (lb:List Rn) (cb:Nat) (w:World) (hA:RunsAt w a la) (hB:RunsAt w b lb) (hta:∀ r∈la,r.tab.length≤64) (htb:∀ r∈lb,r.tab.length≤64) (hla:la.length≤400) (hlb:lb.length≤400) :
  Calls Tryd.prog 16 #[.slice a la.length ca,.slice b lb.length cb] w (fun e w'=>e=.returned (.tuple #[.bool (finE la lb).1,.int .i64 (finE la lb).2])∧Below w.heap.size w w'):=by
 have hca:=fun w' (hb:Below w.heap.size w w')=>vRuns_holds a la ca w' (hA.below hb) hta
 have hcb:=fun w' (hb:Below w.heap.size w w')=>vRuns_holds b lb cb w' (hB.below hb) htb
 refine enterA [(0,.slice a la.length ca),(1,.slice b lb.length cb)] Tryd.func16 Tryd.ntmps16 ?_
 all_goals (refine go ?_;and_intros<;>(try exact trivial)<;>repeat (first|refine fun (Bk:Nat)=>?_|intro h))
 repeat' ((first|(apply G.sliceL;rfl;rfl;rfl;rfl;rfl;rfl;rfl;rfl;intro Bs))<;>(refine go ?_;and_intros<;>(try exact trivial)<;>repeat (first|refine fun (Bk:Nat)=>?_|intro h)))
 refine J.loop (c:=_) (0:Nat) (fun s=>2-s) (fun s=>[(0,.slice a la.length ca),(1,.slice b lb.length cb),(26,.slice (some ⟨Bs,0,none⟩) 2 2),(27,.int .i64 2),(28,.int .i64 s)]) (fun s=>[.blk Bs 27 [.slice a la.length ca,.slice b lb.length cb] 2]) (fun s=>s≤2∧(1≤s→runsErr la=0)∧(2≤s→runsErr lb=0)) ?_ sbT sbL ?_
 ·exact ⟨Nat.zero_le _,fun h=>absurd h (by decide),fun h=>absurd h (by decide)⟩
 intro n ⟨h1,h2,h3⟩ ih
 by_cases hn:n < 2
 ·rcases n with _|_|n
  ·by_cases hE:runsErr la=0
   ·rw [hE] at hca
    all_goals (refine go ?_;and_intros<;>(try exact trivial)<;>repeat (first|refine fun (Bk:Nat)=>?_|intro h))
    repeat' ((first|(apply G.ix (i:=0);rfl;rfl;exact rfl;omega;rfl)|(refine G.cvb hca ?_))<;>(refine go ?_;and_intros<;>(try exact trivial)<;>repeat (first|refine fun (Bk:Nat)=>?_|intro h)))
    exact J.fin (ih 1 ⟨by decide,fun _=>hE,fun h=>absurd h (by decide)⟩ (by decide))
   ·have hJ:finE la lb=(false,runsErr la):=by rw [finE,if_pos hE]
    clear ih
    rw [hJ]
    generalize runsErr la=E at *
    all_goals (refine go ?_;and_intros<;>(try exact trivial)<;>repeat (first|refine fun (Bk:Nat)=>?_|intro h))
    repeat' ((first|(apply G.ix (i:=0);rfl;rfl;exact rfl;omega;rfl)|(refine G.cvb hca ?_))<;>(refine go ?_;and_intros<;>(try exact trivial)<;>repeat (first|refine fun (Bk:Nat)=>?_|intro h)))
    all_goals refine ret2b Tryd.func16 Tryd.results16 ?_
    all_goals rfl
  ·by_cases hE:runsErr lb=0
   ·rw [hE] at hcb
    all_goals (refine go ?_;and_intros<;>(try exact trivial)<;>repeat (first|refine fun (Bk:Nat)=>?_|intro h))
    repeat' ((first|(apply G.ix (i:=1);rfl;rfl;exact rfl;omega;rfl)|(refine G.cvb hcb ?_))<;>(refine go ?_;and_intros<;>(try exact trivial)<;>repeat (first|refine fun (Bk:Nat)=>?_|intro h)))
    exact J.fin (ih 2 ⟨by decide,fun _=>h2 (by decide),fun _=>hE⟩ (by decide))
   ·have hJ:finE la lb=(false,runsErr lb):=by rw [finE,if_neg (by rw [h2 (by decide)];decide),if_pos hE]
    clear ih
    rw [hJ]
    generalize runsErr lb=E at *
    all_goals (refine go ?_;and_intros<;>(try exact trivial)<;>repeat (first|refine fun (Bk:Nat)=>?_|intro h))
    repeat' ((first|(apply G.ix (i:=1);rfl;rfl;exact rfl;omega;rfl)|(refine G.cvb hcb ?_))<;>(refine go ?_;and_intros<;>(try exact trivial)<;>repeat (first|refine fun (Bk:Nat)=>?_|intro h)))
    all_goals refine ret2b Tryd.func16 Tryd.results16 ?_
    all_goals rfl
  ·omega
 obtain rfl:n=2:=by omega
 have hEa:=h2 (by decide)
 have hEb:=h3 (by decide)
 clear ih h1 h2 h3 hn hca hcb
 obtain ⟨oA,_,ca3⟩:=runs_ok hEa
 obtain ⟨oB,_,cb3⟩:=runs_ok hEb
 by_cases a0:la.length=0
 ·rw [fin_nil hEa hEb (.inl a0)]
  by_cases b0:lb.length=0
  ·rw [decide_eq_true (a0.trans b0.symm)]
   all_goals (refine go ?_;and_intros<;>(try exact trivial)<;>repeat (first|refine fun (Bk:Nat)=>?_|intro h))
   repeat' ((first|fail)<;>(refine go ?_;and_intros<;>(try exact trivial)<;>repeat (first|refine fun (Bk:Nat)=>?_|intro h)))
   all_goals refine ret2b Tryd.func16 Tryd.results16 ?_
   all_goals rfl
  ·rw [decide_eq_false (fun e:la.length=lb.length=>b0 (e.symm.trans a0))]
   all_goals (refine go ?_;and_intros<;>(try exact trivial)<;>repeat (first|refine fun (Bk:Nat)=>?_|intro h))
   repeat' ((first|fail)<;>(refine go ?_;and_intros<;>(try exact trivial)<;>repeat (first|refine fun (Bk:Nat)=>?_|intro h)))
   all_goals refine ret2b Tryd.func16 Tryd.results16 ?_
   all_goals rfl
 by_cases b0:lb.length=0
 ·rw [fin_nil hEa hEb (.inr b0),decide_eq_false (fun e:la.length=lb.length=>a0 (e.trans b0))]
  all_goals (refine go ?_;and_intros<;>(try exact trivial)<;>repeat (first|refine fun (Bk:Nat)=>?_|intro h))
  repeat' ((first|fail)<;>(refine go ?_;and_intros<;>(try exact trivial)<;>repeat (first|refine fun (Bk:Nat)=>?_|intro h)))
  all_goals refine ret2b Tryd.func16 Tryd.results16 ?_
  all_goals rfl
 clear ca3 cb3
 have hFe:=fin_end hEa hEb a0 b0
 have hFy:=fin_yes hEa hEb a0 b0
 have hFn:=fun n hn=>fin_no hEa hEb a0 b0 (n:=n) hn
 clear hEa hEb
 have a0:0 < la.length:=by omega
 have b0:0 < lb.length:=by omega
 rw [headD_at a0,headD_at b0,lastD_at a0,lastD_at b0] at hFe hFy
 obtain ⟨ba,oa,rfl,hra⟩:=SlAt.all hA.1 (by omega)
 obtain ⟨bb,ob,rfl,hrb⟩:=SlAt.all hB.1 (by omega)
 have ra0:=hra 0 a0
 have ra1:=hra (la.length-1) (by omega)
 have rb0:=hrb 0 b0
 have rb1:=hrb (lb.length-1) (by omega)
 have hza:(la.length:Int)-1=((la.length-1:Nat):Int):=by omega
 have hzb:(lb.length:Int)-1=((lb.length-1:Nat):Int):=by omega
 have a1:la.length-1 < la.length:=by omega
 have b1:lb.length-1 < lb.length:=by omega
 generalize la[0]=x1 at ra0 hFe hFy
 generalize la[la.length-1]=x2 at ra1 hFe hFy
 generalize lb[0]=y1 at rb0 hFe hFy
 generalize lb[lb.length-1]=y2 at rb1 hFe hFy
 dsimp only [rnV] at ra0 ra1 rb0 rb1
 by_cases hd:x1.from_≠y1.from_∨x2.to_≠y2.to_
 ·rw [hFe hd]
  by_cases hd1:x1.from_=y1.from_
  ·have hd2:x2.to_≠y2.to_:=hd.resolve_left fun h=>h hd1
   clear hd hFe hFy hFn
   all_goals (refine go ?_;and_intros<;>(try exact trivial)<;>repeat (first|refine fun (Bk:Nat)=>?_|intro h))
   repeat' ((first|(apply G.ix (i:=la.length-1);rfl;rfl;exact hza;exact a1;rfl)|(apply G.ix (i:=lb.length-1);rfl;rfl;exact hzb;exact b1;rfl)|(apply G.ix (i:=0);rfl;rfl;exact rfl;first|exact a0|exact b0;rfl))<;>(refine go ?_;and_intros<;>(try exact trivial)<;>repeat (first|refine fun (Bk:Nat)=>?_|intro h)))
   all_goals refine ret2b Tryd.func16 Tryd.results16 ?_
   all_goals rfl
  ·clear hd hFe hFy hFn
   all_goals (refine go ?_;and_intros<;>(try exact trivial)<;>repeat (first|refine fun (Bk:Nat)=>?_|intro h))
   repeat' ((first|(apply G.ix (i:=la.length-1);rfl;rfl;exact hza;exact a1;rfl)|(apply G.ix (i:=lb.length-1);rfl;rfl;exact hzb;exact b1;rfl)|(apply G.ix (i:=0);rfl;rfl;exact rfl;first|exact a0|exact b0;rfl))<;>(refine go ?_;and_intros<;>(try exact trivial)<;>repeat (first|refine fun (Bk:Nat)=>?_|intro h)))
   all_goals refine ret2b Tryd.func16 Tryd.results16 ?_
   all_goals rfl
 have hd1:x1.from_=y1.from_:=Decidable.byContradiction fun h=>hd (.inl h)
 have hd2:x2.to_=y2.to_:=Decidable.byContradiction fun h=>hd (.inr h)
 have hFy:=hFy hd1 hd2
 clear hd hFe
 all_goals (refine go ?_;and_intros<;>(try exact trivial)<;>repeat (first|refine fun (Bk:Nat)=>?_|intro h))
 repeat' ((first|(apply G.ix (i:=la.length-1);rfl;rfl;exact hza;exact a1;rfl)|(apply G.ix (i:=lb.length-1);rfl;rfl;exact hzb;exact b1;rfl)|(apply G.ix (i:=0);rfl;rfl;exact rfl;first|exact a0|exact b0;rfl))<;>(refine go ?_;and_intros<;>(try exact trivial)<;>repeat (first|refine fun (Bk:Nat)=>?_|intro h)))
 clear ra0 ra1 rb0 rb1 hza hzb a1 b1 hd1 hd2
 refine J.loop (c:=_) (0:Nat) (fun s=>lb.length-s) (fun s=>[(0,.slice (some ⟨ba,oa,none⟩) la.length ca),(77,.slice (some ⟨bb,ob,none⟩) lb.length cb),(78,.int .i64 lb.length),(79,.int .i64 s)]) (fun s=>[]) (fun s=>s≤lb.length∧∀ y∈lb.take s,covB la y=true) ?_ sbT sbL ?_
 ·exact ⟨Nat.zero_le _,fun y hy=>by cases hy⟩
 intro n ⟨n1,n2⟩ ih
 by_cases hn:n < lb.length
 case neg =>
  obtain rfl:n=lb.length:=by omega
  rw [List.take_length] at n2
  rw [hFy n2]
  clear hFn hFy ih
  all_goals (refine go ?_;and_intros<;>(try exact trivial)<;>repeat (first|refine fun (Bk:Nat)=>?_|intro h))
  repeat' ((first|fail)<;>(refine go ?_;and_intros<;>(try exact trivial)<;>repeat (first|refine fun (Bk:Nat)=>?_|intro h)))
  all_goals refine ret2b Tryd.func16 Tryd.results16 ?_
  all_goals rfl
 have hrn:=hrb n hn
 have hmn:=List.getElem_mem hn
 have htn:=hB.2 _ hmn
 have hoy:=oB _ hmn
 have hly:=htb _ hmn
 have hF:=hFn n hn
 have ihn:=fun h=>ih (n+1) ⟨hn,all_take_succ hn n2 h⟩ (by omega)
 clear ih hFn hFy hmn hrb n2
 generalize lb[n]=y at *
 rw [TabAt] at htn
 have hyr:=hoy.rng
 obtain ⟨tb1,tb2⟩:=hoy.tabs
 have hgy:=fun w'=>gap_holds y w'
 have hby:=cnt_bd16 hoy
 have hnd:(y.tab.map (·.1)).Nodup:=by
  by_cases h0:y.tab.length=0
  ·rw [List.length_eq_zero_iff.1 h0];exact .nil
  ·exact (sorted_keys _ none (oneE_tab hoy.2 h0).2.1).1
 generalize hady:y.adr=ady at htn
 dsimp only [rnV] at hrn
 rw [hady] at hrn
 all_goals (refine go ?_;and_intros<;>(try exact trivial)<;>repeat (first|refine fun (Bk:Nat)=>?_|intro h))
 repeat' ((first|(apply G.mkm;rfl;intro bm))<;>(refine go ?_;and_intros<;>(try exact trivial)<;>repeat (first|refine fun (Bk:Nat)=>?_|intro h)))
 revert Bk
 intro By
 refine J.loop (c:=_) ((0,#[],0,[]):Nat×Array MapEntry×Nat×List (Int×Int)) (fun s=>y.tab.length-s.1) (fun s=>[(0,.slice (some ⟨ba,oa,none⟩) la.length ca),(77,.slice (some ⟨bb,ob,none⟩) lb.length cb),(78,.int .i64 lb.length),(79,.int .i64 (n:Nat)),(10,.pointer (some ⟨By,0,none⟩)),(11,.map (some bm)),(85,.slice ady y.tab.length y.cap),(86,.int .i64 y.tab.length),(87,.int .i64 (s.1:Nat))]) (fun s=>[.obj bm (.map s.2.1 s.2.2.1),.blk By 50 [.int .i64 y.from_,.int .i64 y.to_,.slice ady y.tab.length y.cap,.int .i64 y.lo,.int .i64 y.hi] 5]) (fun s=>s.1≤y.tab.length∧MapIs (Value.int .i64) s.2.1 s.2.2.1 (s.2.2.2.map iv)∧MpI s.2.2.2 (fun x=>sumAt x (y.tab.take s.1))) ?_ sbT sbL ?_
 ·exact ⟨Nat.zero_le _,MapIs.nil,MpI.nil⟩
 intro ⟨j,es,cl,L⟩ ⟨d1,d2,d3⟩ ih
 dsimp only at d1 d2 d3 ⊢
 by_cases hj:j < y.tab.length
 ·obtain ⟨bt,ot,rfl,hrt⟩:=SlAt.all htn (by omega)
  have hrj:=hrt j hj
  have hx:=tb1 _ (List.getElem_mem hj)
  have hsn:=sumAt_new hnd hj
  have hta2:=fun x=>sumAt_take (s:=x) hj
  have ih2:=fun es2 c2 L2 hI2 (h:MpI L2 fun x=>sumAt x (y.tab.take (j+1)))=>ih (j+1,es2,c2,L2) ⟨hj,hI2,h⟩ (by dsimp only;omega)
  dsimp only at ih2
  clear ih hrt htn tb1
  generalize y.tab[j]=z at *
  obtain ⟨zs,zn⟩:=z
  have ih3:=fun es2 c2 hI2=>ih2 es2 c2 (setC zs zn L) hI2 ((d3.set hx.1).eqD fun x=>by
   dsimp only
   rw [hta2 x]
   split
   ·rename_i e;subst e;dsimp only at hsn ⊢;rw [hsn,Int.zero_add]
   ·rw [Int.add_zero])
  clear ih2 d3 hta2 hsn hF ihn hby
  dsimp only [hoV] at *
  all_goals (refine go ?_;and_intros<;>(try exact trivial)<;>repeat (first|refine fun (Bk:Nat)=>?_|intro h))
  repeat' ((first|(apply G.mu (kf:=Value.int .i64) (a:=zs) d2 (put_setC zs zn L);rfl;rfl;rfl;rfl;(repeat (first|exact RAt.head|apply RAt.tail));intro es2 c2 hI2))<;>(refine go ?_;and_intros<;>(try exact trivial)<;>repeat (first|refine fun (Bk:Nat)=>?_|intro h)))
  exact J.finS (ih3 es2 c2 hI2)
 obtain rfl:j=y.tab.length:=by omega
 rw [List.take_length] at d3
 clear ih htn hnd tb1
 have d4:MpI L (fun x=>cnt x y.tab-covN y x (la.take 0)):=d3.eqD fun x=>by rw [tb2,List.take_zero,covN,Int.sub_zero]
 clear d3
 all_goals (refine go ?_;and_intros<;>(try exact trivial)<;>repeat (first|refine fun (Bk:Nat)=>?_|intro h))
 repeat' ((first|fail)<;>(refine go ?_;and_intros<;>(try exact trivial)<;>repeat (first|refine fun (Bk:Nat)=>?_|intro h)))
 refine J.loop (c:=_) ((0,es,cl,L):Nat×Array MapEntry×Nat×List (Int×Int)) (fun s=>la.length-s.1) (fun s=>[(0,.slice (some ⟨ba,oa,none⟩) la.length ca),(77,.slice (some ⟨bb,ob,none⟩) lb.length cb),(78,.int .i64 lb.length),(79,.int .i64 (n:Nat)),(10,.pointer (some ⟨By,0,none⟩)),(11,.map (some bm)),(97,.slice (some ⟨ba,oa,none⟩) la.length ca),(98,.int .i64 la.length),(99,.int .i64 (s.1:Nat))]) (fun s=>[.obj bm (.map s.2.1 s.2.2.1),.blk By 50 [.int .i64 y.from_,.int .i64 y.to_,.slice ady y.tab.length y.cap,.int .i64 y.lo,.int .i64 y.hi] 5]) (fun s=>s.1≤la.length∧MapIs (Value.int .i64) s.2.1 s.2.2.1 (s.2.2.2.map iv)∧MpI s.2.2.2 (fun x=>cnt x y.tab-covN y x (la.take s.1))∧∀ x∈la.take s.1,covOk y x=true) ?_ sbT sbL ?_
 ·exact ⟨Nat.zero_le _,d2,d4,fun x hx=>by cases hx⟩
 clear d2 d4
 intro ⟨k,es,cl,L⟩ ⟨d1,d2,d3,d4⟩ ih
 dsimp only at d1 d2 d3 d4 ⊢
 by_cases hk:k < la.length
 ·have hrk:=hra k hk
  have hmk:=List.getElem_mem hk
  have hok:=oA _ hmk
  have htk:=hA.2 _ hmk
  have hlk:=hta _ hmk
  have hbn:=fun w' (hb:Below w.heap.size w w')=>bnds16_holds la[k] w' (SlAt.below htk hb) (Nat.le_trans hlk (by decide))
  have hgx:=fun w'=>gap_holds la[k] w'
  have hbd:=fun s=>covN_bd (y:=y) s (a:=la.take k) fun r hr=>oA r (List.mem_of_mem_take hr)
  have hkl:(la.take k).length=k:=by rw [List.length_take];omega
  rw [hkl] at hbd
  have hc:=fun s=>covN_take (y:=y) hk s
  have hF2:=fun h=>hF (cov_no (y:=y) hk h)
  have ih2:=fun h es2 cl2 L2 hI2 (hM2:MpI L2 fun x=>cnt x y.tab-covN y x (la.take k)-covT y x la[k])=>ih (k+1,es2,cl2,L2) ⟨hk,hI2,hM2.eqD fun x=>by rw [hc x];omega,all_take_succ hk d4 h⟩ (by dsimp only;omega)
  have hct:=fun s=>covT_bd (y:=y) hok s
  have hcb:=cnt_bd16 hok
  obtain ⟨ta1,ta2⟩:=hok.tabs
  have hxr:=hok.rng
  have hle:=ls_le' hok
  clear ih hF hra hmk hc ihn d4 hkl
  dsimp only at ih2
  generalize la[k]=x at *
  rw [TabAt] at htk
  generalize hadx:x.adr=adx at htk
  dsimp only [rnV] at hrk
  rw [hadx] at hrk
  rw [rnA,hadx] at hgx hbn
  rw [rnA,hady] at hgy
  have ihF:=fun es2 cl2 L2 h1 h2=>ih2 h1 es2 cl2 L2 h2
  by_cases hov:ovT x y≤ovF x y
  ·have e1:covOk y x=true:=by rw [covOk,if_pos hov]
   have ih3:=ih2 e1 es cl L d2 (d3.eqD fun s=>by rw [covT,if_pos (.inl hov),Int.sub_zero])
   clear ih2 ihF hF2
   rw [ovF,ovT] at hov
   all_goals (refine go ?_;and_intros<;>(try exact trivial)<;>repeat (first|refine fun (Bk:Nat)=>?_|intro h))
   repeat' ((first|fail)<;>(refine go ?_;and_intros<;>(try exact trivial)<;>repeat (first|refine fun (Bk:Nat)=>?_|intro h)))
   exact J.finS ih3
  have hov':ovF x y < ovT x y:=by omega
  by_cases h0:y.tab.length=0
  ·rw [decide_eq_true h0] at hgy
   by_cases hin:y.lo≤lstR x∧mstR x≤y.hi
   ·have e1:covOk y x=true:=by rw [covOk,if_neg hov,if_pos h0];exact decide_eq_true hin
    have ih3:=ih2 e1 es cl L d2 (d3.eqD fun s=>by rw [covT,if_pos (.inr h0),Int.sub_zero])
    clear ih2 ihF hF2 hov
    rw [ovF,ovT] at hov'
    generalize lstR x=xl at *
    generalize mstR x=xm at *
    all_goals (refine go ?_;and_intros<;>(try exact trivial)<;>repeat (first|refine fun (Bk:Nat)=>?_|intro h))
    repeat' ((first|(apply G.cV (g:=40);rfl;rfl;exact fun w' hw'=>hbn w' hw'.below)|(apply G.cV (g:=24) (d:=138);rfl;rfl;exact fun w' _=>hgy w'))<;>(refine go ?_;and_intros<;>(try exact trivial)<;>repeat (first|refine fun (Bk:Nat)=>?_|intro h)))
    exact J.finS ih3
   ·have e1:covOk y x=false:=by rw [covOk,if_neg hov,if_pos h0];exact decide_eq_false hin
    rw [hF2 e1]
    clear ih2 ihF hF2 hov
    rw [ovF,ovT] at hov'
    generalize lstR x=xl at *
    generalize mstR x=xm at *
    by_cases hin1:y.lo≤xl
    ·have hin2:¬ xm≤y.hi:=fun h=>hin ⟨hin1,h⟩
     clear hin
     all_goals (refine go ?_;and_intros<;>(try exact trivial)<;>repeat (first|refine fun (Bk:Nat)=>?_|intro h))
     repeat' ((first|(apply G.cV (g:=40);rfl;rfl;exact fun w' hw'=>hbn w' hw'.below)|(apply G.cV (g:=24) (d:=138);rfl;rfl;exact fun w' _=>hgy w'))<;>(refine go ?_;and_intros<;>(try exact trivial)<;>repeat (first|refine fun (Bk:Nat)=>?_|intro h)))
     all_goals refine ret2b Tryd.func16 Tryd.results16 ?_
     all_goals rfl
    ·clear hin
     all_goals (refine go ?_;and_intros<;>(try exact trivial)<;>repeat (first|refine fun (Bk:Nat)=>?_|intro h))
     repeat' ((first|(apply G.cV (g:=40);rfl;rfl;exact fun w' hw'=>hbn w' hw'.below)|(apply G.cV (g:=24) (d:=138);rfl;rfl;exact fun w' _=>hgy w'))<;>(refine go ?_;and_intros<;>(try exact trivial)<;>repeat (first|refine fun (Bk:Nat)=>?_|intro h)))
     all_goals refine ret2b Tryd.func16 Tryd.results16 ?_
     all_goals rfl
  rw [decide_eq_false h0] at hgy
  have hcT:=fun s=>show covT y s x=_ from if_neg fun h=>h.elim hov h0
  by_cases h3:lstR x=mstR x
  ·have e1:covOk y x=true:=by rw [covOk,if_neg hov,if_neg h0,decide_eq_true h3];rfl
   have hv:=d3.val (lstR x)
   have hb1:=hby (lstR x)
   have hb2:=hbd (lstR x)
   have hlk2:=get_iv (lstR x) L
   have hpt:=put_setC (lstR x) (cnt (lstR x) L-(ovT x y-ovF x y)) L
   have ih3:=fun es2 cl2 hI2=>ih2 e1 es2 cl2 (setC (lstR x) (cnt (lstR x) L-(ovT x y-ovF x y)) L) hI2 ((d3.set (v:=cnt (lstR x) L-(ovT x y-ovF x y)) ⟨hle.1,by omega⟩).eqD fun s=>by
    rw [hcT,if_pos h3]
    by_cases e:s=lstR x
    ·subst e;rw [if_pos rfl,if_pos rfl,hv]
    ·rw [if_neg e,if_neg fun e2=>e e2.symm,Int.sub_zero])
   have hN:-(1402560*400)≤cnt (lstR x) L∧cnt (lstR x) L≤1402560:=by rw [hv];omega
   clear ih2 ihF hF2 hov hcT d3 hby hbd hct hcb hv hb1 hb2
   rw [← h3] at hbn
   generalize cnt (lstR x) L=N at *
   generalize lstR x=xl at *
   dsimp only [ovF,ovT] at *
   all_goals (refine go ?_;and_intros<;>(try exact trivial)<;>repeat (first|refine fun (Bk:Nat)=>?_|intro h))
   repeat' ((first|(apply G.cV (g:=40);rfl;rfl;exact fun w' hw'=>hbn w' hw'.below)|(apply G.cV (g:=24) (d:=138);rfl;rfl;exact fun w' _=>hgy w')|(apply G.lk (kf:=Value.int .i64) (a:=xl) d2;rfl;rfl;exact mm;exact hlk2;rfl)|(apply G.mu (kf:=Value.int .i64) (a:=xl) d2 hpt;rfl;rfl;rfl;rfl;(repeat (first|exact RAt.head|apply RAt.tail));intro es3 c4 hI3))<;>(refine go ?_;and_intros<;>(try exact trivial)<;>repeat (first|refine fun (Bk:Nat)=>?_|intro h)))
   exact J.finS (ih3 es3 c4 hI3)
  by_cases hno:x.tab.length=0∨ovF x y≠x.from_∨ovT x y≠x.to_
  ·have e1:covOk y x=false:=by
    rw [covOk,if_neg hov,if_neg h0,decide_eq_false h3,Bool.false_or]
    exact decide_eq_false fun h=>hno.elim (fun q=>h.1 q) fun q=>q.elim (fun q=>q h.2.1) fun q=>q h.2.2
   rw [hF2 e1]
   clear ih2 ihF hF2 hov hcT d3 hby hbd hct hcb hle
   generalize lstR x=xl at *
   generalize mstR x=xm at *
   by_cases hg0:x.tab.length=0
   ·rw [decide_eq_true hg0] at hgx
    clear hno
    dsimp only [ovF,ovT] at *
    all_goals (refine go ?_;and_intros<;>(try exact trivial)<;>repeat (first|refine fun (Bk:Nat)=>?_|intro h))
    repeat' ((first|(apply G.cV (g:=40);rfl;rfl;exact fun w' hw'=>hbn w' hw'.below)|(apply G.cV (g:=24) (d:=138);rfl;rfl;exact fun w' _=>hgy w')|(apply G.cV (g:=24) (d:=162);rfl;rfl;exact fun w' _=>hgx w'))<;>(refine go ?_;and_intros<;>(try exact trivial)<;>repeat (first|refine fun (Bk:Nat)=>?_|intro h)))
    all_goals refine ret2b Tryd.func16 Tryd.results16 ?_
    all_goals rfl
   ·rw [decide_eq_false hg0] at hgx
    have hno:=hno.resolve_left hg0
    dsimp only [ovF,ovT] at *
    by_cases hf:max x.from_ y.from_=x.from_
    ·have hno:=hno.resolve_left fun q=>q hf
     all_goals (refine go ?_;and_intros<;>(try exact trivial)<;>repeat (first|refine fun (Bk:Nat)=>?_|intro h))
     repeat' ((first|(apply G.cV (g:=40);rfl;rfl;exact fun w' hw'=>hbn w' hw'.below)|(apply G.cV (g:=24) (d:=138);rfl;rfl;exact fun w' _=>hgy w')|(apply G.cV (g:=24) (d:=162);rfl;rfl;exact fun w' _=>hgx w'))<;>(refine go ?_;and_intros<;>(try exact trivial)<;>repeat (first|refine fun (Bk:Nat)=>?_|intro h)))
     all_goals refine ret2b Tryd.func16 Tryd.results16 ?_
     all_goals rfl
    ·clear hno
     all_goals (refine go ?_;and_intros<;>(try exact trivial)<;>repeat (first|refine fun (Bk:Nat)=>?_|intro h))
     repeat' ((first|(apply G.cV (g:=40);rfl;rfl;exact fun w' hw'=>hbn w' hw'.below)|(apply G.cV (g:=24) (d:=138);rfl;rfl;exact fun w' _=>hgy w')|(apply G.cV (g:=24) (d:=162);rfl;rfl;exact fun w' _=>hgx w'))<;>(refine go ?_;and_intros<;>(try exact trivial)<;>repeat (first|refine fun (Bk:Nat)=>?_|intro h)))
     all_goals refine ret2b Tryd.func16 Tryd.results16 ?_
     all_goals rfl
  have hg0:x.tab.length≠0:=fun h=>hno (.inl h)
  have hf:ovF x y=x.from_:=Decidable.byContradiction fun h=>hno (.inr (.inl h))
  have ht:ovT x y=x.to_:=Decidable.byContradiction fun h=>hno (.inr (.inr h))
  have e1:covOk y x=true:=by
   rw [covOk,if_neg hov,if_neg h0,decide_eq_false h3,Bool.false_or]
   exact decide_eq_true ⟨hg0,hf,ht⟩
  rw [decide_eq_false hg0] at hgx
  have ih3:=fun es2 cl2 L2 hI2 (hM2:MpI L2 fun s=>cnt s y.tab-covN y s (la.take k)-cnt s x.tab)=>ih2 e1 es2 cl2 L2 hI2 (hM2.eqD fun s=>by rw [hcT,if_neg h3])
  clear ih2 ihF hF2 hov hcT hct hno e1
  generalize lstR x=xl at *
  generalize mstR x=xm at *
  dsimp only [ovF,ovT] at *
  all_goals (refine go ?_;and_intros<;>(try exact trivial)<;>repeat (first|refine fun (Bk:Nat)=>?_|intro h))
  repeat' ((first|(apply G.cV (g:=40);rfl;rfl;exact fun w' hw'=>hbn w' hw'.below)|(apply G.cV (g:=24) (d:=138);rfl;rfl;exact fun w' _=>hgy w')|(apply G.cV (g:=24) (d:=162);rfl;rfl;exact fun w' _=>hgx w'))<;>(refine go ?_;and_intros<;>(try exact trivial)<;>repeat (first|refine fun (Bk:Nat)=>?_|intro h)))
  refine J.loop (c:=_) ((0,es,cl,L):Nat×Array MapEntry×Nat×List (Int×Int)) (fun s=>x.tab.length-s.1) (fun s=>[(0,.slice (some ⟨ba,oa,none⟩) la.length ca),(77,.slice (some ⟨bb,ob,none⟩) lb.length cb),(78,.int .i64 lb.length),(79,.int .i64 (n:Nat)),(10,.pointer (some ⟨By,0,none⟩)),(11,.map (some bm)),(97,.slice (some ⟨ba,oa,none⟩) la.length ca),(98,.int .i64 la.length),(99,.int .i64 (k:Nat)),(122,.slice adx x.tab.length x.cap),(123,.int .i64 x.tab.length),(124,.int .i64 (s.1:Nat))]) (fun s=>[.obj bm (.map s.2.1 s.2.2.1),.blk By 50 [.int .i64 y.from_,.int .i64 y.to_,.slice ady y.tab.length y.cap,.int .i64 y.lo,.int .i64 y.hi] 5]) (fun s=>s.1≤x.tab.length∧MapIs (Value.int .i64) s.2.1 s.2.2.1 (s.2.2.2.map iv)∧MpI s.2.2.2 (fun z=>cnt z y.tab-covN y z (la.take k)-sumAt z (x.tab.take s.1))) ?_ sbT sbL ?_
  ·exact ⟨Nat.zero_le _,d2,d3.eqD fun s=>(Int.sub_zero _).symm⟩
  clear d2 d3
  intro ⟨j,es2,cl2,L2⟩ ⟨d1',d2,d3⟩ ih
  dsimp only at d1' d2 d3 ⊢
  by_cases hj:j < x.tab.length
  ·obtain ⟨b9,o9,rfl,tr9⟩:=SlAt.all htk (by omega)
   have tr9:=tr9 j hj
   have hx:=ta1 _ (List.getElem_mem hj)
   have hta2:=fun s=>sumAt_take (s:=s) hj
   have hbs:=fun s=>sumAt_le (s:=s) (fun x hx=>(ta1 x hx).2.1) j
   generalize x.tab[j]=z at *
   obtain ⟨zs,zn⟩:=z
   have hv:=d3.val zs
   have hN:-(1402560*402)≤cnt zs L2∧cnt zs L2≤1402560:=by
    have q1:=hby zs
    have q2:=hbd zs
    have q3:=hbs zs
    have q4:=hcb zs
    rw [ta2] at q3
    rw [hv];omega
   have hlk2:=get_iv zs L2
   have hpt:=put_setC zs (cnt zs L2-zn) L2
   have ih4:=fun es3 c4 hI3=>ih (j+1,es3,c4,setC zs (cnt zs L2-zn) L2) ⟨hj,hI3,(d3.set hx.1).eqD fun s=>by
    dsimp only
    rw [hta2 s]
    by_cases e:s=zs
    ·subst e;rw [if_pos rfl,if_pos rfl,hv];omega
    ·rw [if_neg e,if_neg e,Int.add_zero]⟩ (by dsimp only;omega)
   clear ih d3 hta2 hbs hbd ta1 ta2 hcb ih3 hv hby
   dsimp only [hoV] at *
   generalize cnt zs L2=N at *
   all_goals (refine go ?_;and_intros<;>(try exact trivial)<;>repeat (first|refine fun (Bk:Nat)=>?_|intro h))
   repeat' ((first|(apply G.lk (kf:=Value.int .i64) (a:=zs) d2;rfl;rfl;exact mm;exact hlk2;rfl)|(apply G.mu (kf:=Value.int .i64) (a:=zs) d2 hpt;rfl;rfl;rfl;rfl;(repeat (first|exact RAt.head|apply RAt.tail));intro es3 c4 hI3))<;>(refine go ?_;and_intros<;>(try exact trivial)<;>repeat (first|refine fun (Bk:Nat)=>?_|intro h)))
   exact J.finS (ih4 es3 c4 hI3)
  obtain rfl:j=x.tab.length:=by omega
  rw [List.take_length] at d3
  have ih4:=ih3 es2 cl2 L2 d2 (d3.eqD fun s=>by rw [ta2])
  clear ih ih3
  all_goals (refine go ?_;and_intros<;>(try exact trivial)<;>repeat (first|refine fun (Bk:Nat)=>?_|intro h))
  repeat' ((first|fail)<;>(refine go ?_;and_intros<;>(try exact trivial)<;>repeat (first|refine fun (Bk:Nat)=>?_|intro h)))
  exact J.finS ih4
 obtain rfl:k=la.length:=by omega
 rw [List.take_length] at d3 d4
 clear ih hra hA hta
 have hF2:=fun s hs h=>hF (cov_ne (s:=s) hs h)
 have hT2:=fun h=>ihn (cov_yes d4 h)
 clear hF ihn
 have hkn:=d2.keys
 rw [iv_keys] at hkn
 all_goals (refine go ?_;and_intros<;>(try exact trivial)<;>repeat (first|refine fun (Bk:Nat)=>?_|intro h))
 repeat' ((first|(apply G.rg;rfl;exact mm;rfl;intro br))<;>(refine go ?_;and_intros<;>(try exact trivial)<;>repeat (first|refine fun (Bk:Nat)=>?_|intro h)))
 refine J.loop (c:=_) ((L.map iv,#[]):List (Int×Value)×Array Nat) (fun s=>s.1.length) (fun s=>[(0,.slice (some ⟨ba,oa,none⟩) la.length ca),(77,.slice (some ⟨bb,ob,none⟩) lb.length cb),(78,.int .i64 lb.length),(79,.int .i64 (n:Nat)),(177,.pointer (some ⟨br,0,none⟩))]) (fun s=>[.obj br (.mapIter (some bm) cl s.2 cl),.obj bm (.map es cl)]) (fun s=>Rem (Value.int .i64) es s.2 s.1∧(∀ p∈s.1,p∈L.map iv)∧∀ p∈L.map iv,p.2≠.int .i64 0→p∈s.1) ?_ sbT sbL ?_
 ·exact ⟨Rem.start d2,fun p hp=>hp,fun p hp _=>hp⟩
 intro ⟨R,seen⟩ ⟨r1',r2,r3⟩ ih
 dsimp only at r1' r2 r3 ⊢
 by_cases hR0:R=[]
 ·subst hR0
  have hz:∀ p∈L,p.2=0:=fun p hp=>by
   refine Decidable.byContradiction fun h=>?_
   have:=r3 (iv p) (List.mem_map_of_mem hp) fun e=>h (by injection e)
   cases this
  have hT3:=hT2 fun s=>by rw [← d3.val];exact cnt_zero hz s
  clear ih hF2 hT2 r3 r2
  all_goals (refine go ?_;and_intros<;>(try exact trivial)<;>repeat (first|refine fun (Bk:Nat)=>?_|intro h))
  repeat' ((first|(apply G.nx0 d2 r1';rfl;rfl;exact mm;exact mm))<;>(refine go ?_;and_intros<;>(try exact trivial)<;>repeat (first|refine fun (Bk:Nat)=>?_|intro h)))
  exact J.finS hT3
 have hel:∀ j (hj:j < R.length),∃ kx v:Int,R[j]=(kx,.int .i64 v)∧(kx,v)∈L:=fun j hj=>by
  obtain ⟨⟨kx,v⟩,h1,h2⟩:=List.mem_map.1 (r2 _ (List.getElem_mem hj))
  exact ⟨kx,v,h2.symm,h1⟩
 have hbad:∀ kx v:Int,(kx,v)∈L→v≠0→finE la lb=(false,0):=fun kx v hkm hv0=>hF2 kx (d3.keys kx (List.mem_map.2 ⟨_,hkm,rfl⟩)) (by rw [← d3.val,cnt_mem hkn hkm];exact hv0)
 have hgood:∀ j (hj:j < R.length) seen' (kx:Int),Rem (Value.int .i64) es seen' (R.eraseIdx j)→R[j]=(kx,.int .i64 0)→_:=fun j hj seen' kx hR' hRj=>ih (R.eraseIdx j,seen') ⟨hR',fun p hp=>r2 p (List.mem_of_mem_eraseIdx hp),fun p hp hne=>mem_erase_ne hj (r3 p hp hne) fun e=>hne (by rw [e,hRj])⟩ (by dsimp only;rw [List.length_eraseIdx,if_pos hj];omega)
 dsimp only at hgood
 clear ih hF2 hT2 r2 r3 d3
 all_goals (refine go ?_;and_intros<;>(try exact trivial)<;>repeat (first|refine fun (Bk:Nat)=>?_|intro h))
 repeat' ((first|(apply G.nx1 d2 r1' hR0;rfl;rfl;(repeat (first|exact RAt.head|apply RAt.tail));exact mm;intro j hj seen' hR' ⟨e,he,hsn,hek,hev⟩;obtain ⟨kx,v,hRj,hkm⟩:=hel j hj;rw [hRj] at hek hev;by_cases hv0:v=0;all_goals try (rw [hbad kx v hkm hv0]))|(apply G.en d2 he hsn hek hev;rfl;rfl;exact mm;exact mm))<;>(refine go ?_;and_intros<;>(try exact trivial)<;>repeat (first|refine fun (Bk:Nat)=>?_|intro h)))
 ·subst hv0
  exact J.finS (hgood _ hj _ kx hR' hRj)
 ·skip
  all_goals refine ret2b Tryd.func16 Tryd.results16 ?_
  all_goals rfl
end Go.Proofs.YtcdgibkbbcekhaaDoor
/-
 Contracts: nat.Text,nat.Value.
-/
namespace Go.Proofs.YtcdgibkbbcekhaaDoor
open Go.RowKit Go.Sl Go.Num
def dec10 (n:Nat):List Nat:=(dgs 10 n).map (48+·)
def decT (n:Nat):List UInt8:=if n=0 then [48] else ((dec10 n).reverse).map UInt8.ofNat
theorem dec10_pos {n:Nat} (h:n≠0):dec10 n=(48+n % 10)::dec10 (n / 10):=by rw [dec10,dgs_pos (by decide) h];rfl
theorem dec10_lt (n:Nat):∀ d∈dec10 n,d < 256:=fun d hd=>by
 obtain ⟨x,hx,rfl⟩:=List.mem_map.1 hd
 have:=dgs_lt (b:=10) (by decide) n x hx
 show 48+x < 256
 omega
theorem dgs_le10 {n m:Nat} (h:n≤m):(dgs B32 n).length≤(dgs B32 m).length:=dgs_len_mono (by decide) h
theorem natText_holds (l:List UInt8) (w:World) (hl:l.length≤4000):Calls Tryd.prog 10 #[.string (bs l)] w fun e w'=>e=.returned (.string (bs (decT (vB l))))∧Below w.heap.size w w':=by
 have hn4:(dgs B32 (vB l)).length≤1073741824 :=
  Nat.le_trans (dgs_bound (by decide) l.length _ (Nat.lt_of_lt_of_le (vB_lt l) (Nat.pow_le_pow_left (by decide) _))) (by omega)
 have hd4:(dec10 (vB l)).length≤100000:=by
  rw [dec10,List.length_map]
  refine Nat.le_trans (dgs_bound (by decide) (3*l.length) _ ?_) (by omega)
  refine Nat.lt_of_lt_of_le (vB_lt l) ?_
  rw [Nat.pow_mul]
  exact Nat.pow_le_pow_left (by decide) _
 generalize hv:vB l=n at *
 have hld:=fun w'=>load_holds l w' (by omega)
 rw [hv] at hld
 refine enterA [(0,.string (bs l))] Tryd.func10 Tryd.ntmps10 ?_
 all_goals (refine go ?_;and_intros<;>(try exact trivial)<;>repeat (first|refine fun (Bk:Nat)=>?_|intro h))
 repeat' ((first|(apply G.cN (g:=33) (vs:=[.string (bs l)]) (fun a' c'=>.slice a' (dgs B32 n).length c') ((dgs B32 n).map lmV);rfl;rfl;exact fun w' _=>hld w';intro a1 c1 hp1 hq1))<;>(refine go ?_;and_intros<;>(try exact trivial)<;>repeat (first|refine fun (Bk:Nat)=>?_|intro h)))
 apply J.nilOwn (E:=5) (size:=1)
 refine J.loop (c:=_) ((n,[],.slice none 0 0,a1,c1):Nat×List Nat×Value×Option Addr×Nat) (fun s=>s.1) (fun s=>[(3,s.2.2.1),(4,.slice s.2.2.2.1 (dgs B32 s.1).length s.2.2.2.2)]) (fun s=>[.own 0 s.2.2.1 5 1 s.2.1.length (flat bV s.2.1),slRow w.heap.size s.2.2.2.1 1 ((dgs B32 s.1).map lmV)]) (fun s=>s.2.1++dec10 s.1=dec10 n∧s.1≤n) ?_ sbT sbL ?_
 ·exact ⟨rfl,Nat.le_refl _⟩
 intro ⟨m,o,u,xa,xc⟩ ⟨d1,d2⟩ ih
 dsimp only at d1 d2 ⊢
 have hml:=Nat.le_trans (dgs_le10 d2) hn4
 by_cases hm:m=0
 ·subst hm
  have hdn:dec10 n=o:=by rw [← d1,dec10,dgs_zero,List.map_nil,List.append_nil]
  clear ih d1
  rw [show (dgs B32 0).length=0 by rw [dgs_zero];rfl,dgs_zero]
  by_cases hn0:n=0
  ·subst hn0
   obtain rfl:[]=o:=by rw [← hdn,dec10,dgs_zero];rfl
   apply J.ownForm (i:=0) rfl
   intro a3 c3 hu
   subst hu
   simp only [List.length_nil]
   all_goals (refine go ?_;and_intros<;>(try exact trivial)<;>repeat (first|refine fun (Bk:Nat)=>?_|intro h))
   repeat' ((first|fail)<;>(refine go ?_;and_intros<;>(try exact trivial)<;>repeat (first|refine fun (Bk:Nat)=>?_|intro h)))
   all_goals refine ret1b Tryd.func10 Tryd.results10 ?_
   all_goals rfl
  have ho:0 < o.length:=by rw [← hdn,dec10_pos hn0];exact Nat.succ_pos _
  have hT:decT n=(o.reverse).map UInt8.ofNat:=by rw [decT,if_neg hn0,hdn]
  rw [hT]
  rw [hdn] at hd4
  obtain ⟨e1,e2⟩:=bv_u8 o.reverse fun d hd=>dec10_lt n d (hdn ▸ List.mem_reverse.1 hd)
  have hl8:(o.reverse.map UInt8.ofNat).length=o.length:=by rw [List.length_map,List.length_reverse]
  generalize o.reverse.map UInt8.ofNat=l8 at *
  apply J.open (i:=0) rfl (by omega)
  intro g cap hcap hu
  subst hu
  have hrv:=fun (w':World) (M1:List Row) (tot:Nat) (hw:Sat w (.blk g 5 (flat bV o) tot::M1) w')=>rev_holds w M1 g 5 tot cap o w' (by omega) hw
  simp only [List.set_cons_zero]
  all_goals (refine go ?_;and_intros<;>(try exact trivial)<;>repeat (first|refine fun (Bk:Nat)=>?_|intro h))
  repeat' ((first|(apply G.cM (g:=35) (X:=Unit) (fun _=>.tuple #[]) (fun _=>[.blk g 5 (flat bV o.reverse) (cap*1),slRow w.heap.size xa 1 (([]:List Nat).map lmV)]);rfl;rfl;exact fun w' hw=>hrv w' _ _ hw;intro _)|(apply G.ofBytes (E:=5) (l:=l8);rfl;exact hl8;exact fun w' hw=>(e1 ▸ SlAt.ofBlk bV_len hw (.head _));rfl;rfl;rfl))<;>(refine go ?_;and_intros<;>(try exact trivial)<;>repeat (first|refine fun (Bk:Nat)=>?_|intro h)))
  all_goals refine ret1b Tryd.func10 Tryd.results10 ?_
  all_goals rfl
 have hsm:=fun {M} w' (hw':Sat w (M) w') (hm:slRow w.heap.size xa 1 ((dgs B32 m).map lmV)∈M)=>small_holds xa m xc 10 w' hml (hw'.sl hm) (by decide) (by decide)
 rw [dec10_pos hm] at d1
 have hol:o.length+1≤100000:=by
  have:=congrArg List.length d1
  rw [List.length_append,List.length_cons] at this;omega
 have hlp:0 < (dgs B32 m).length:=dgs_pos_len hm
 have ih2:=fun u a2 c2=>ih (m / 10,o++[48+m % 10],u,a2,c2) ⟨by dsimp only;rw [List.append_assoc];exact d1,by dsimp only;omega⟩ (by dsimp only;omega)
 dsimp only at ih2
 have hlo:(o++[48+m % 10]).length=o.length+1:=by simp
 rw [hlo] at ih2
 have hap:flat bV o++bV (48+m % 10)=flat bV (o++[48+m % 10]):=flat1 bV _ _
 have hmm:=Nat.mod_lt m (show 0 < 10 by decide)
 have had:IntKind.u32.wrap (48+((m % 10:Nat):Int))=((48+m % 10:Nat):Int):=by rw [wrap_u32];omega
 have hcv:IntKind.u8.wrap ((48+m % 10:Nat):Int)=((48+m % 10:Nat):Int):=by rw [u8_of];congr 1;omega
 clear ih d1
 generalize m % 10=r at *
 generalize m / 10=m2 at *
 dsimp only [bV] at hap
 all_goals (refine go ?_;and_intros<;>(try exact trivial)<;>repeat (first|refine fun (Bk:Nat)=>?_|intro h))
 repeat' ((first|(apply G.cN (g:=34) (fun a' c'=>.tuple #[.slice a' (dgs B32 m2).length c',.int .u32 (r:Int)]) ((dgs B32 m2).map lmV);rfl;rfl;exact fun w' hw'=>hsm w' hw' (by exact mm);intro a2 c2 hp2 hq2)|(apply G.addK;rfl;rfl;exact had;rfl;rfl;rfl)|(apply G.convK;rfl;exact hcv;rfl;rfl;rfl)|(apply G.sliceL;rfl;rfl;rfl;rfl;rfl;rfl;rfl;rfl;intro Bs)|(apply G.ap;rfl;rfl;rfl;(repeat (first|exact RAt.head|apply RAt.tail));exact SrcV.blk (by exact mm) rfl rfl;exact hap;omega;omega;intro v2))<;>(refine go ?_;and_intros<;>(try exact trivial)<;>repeat (first|refine fun (Bk:Nat)=>?_|intro h)))
 exact J.finS (ih2 _ _ _)
end Go.Proofs.YtcdgibkbbcekhaaDoor
/-
 Plain: where the tables lie does not matter;the example's values.
-/
namespace Go.Proofs.YtcdgibkbbcekhaaDoor
open Go.RowKit Go.Sl Go.Num
theorem length_bare {l m:List Rn} (h:l.map rbare=m.map rbare):l.length=m.length:=by rw [← List.length_map (f:=rbare),h,List.length_map]
theorem tabs_bare {l m:List Rn} (h:l.map rbare=m.map rbare) {n:Nat} (hm:∀ r∈m,r.tab.length≤n):∀ r∈l,r.tab.length≤n:=fun r hr=>by
 have h1:=List.mem_map_of_mem (f:=rbare) hr
 rw [h] at h1
 obtain ⟨x,hx,e⟩:=List.mem_map.1 h1
 have:=hm x hx
 have h2:(rbare x).tab=(rbare r).tab:=congrArg (fun y:Rn=>y.tab) e
 have h3:x.tab=r.tab:=h2
 rw [← h3];exact this
theorem sumE_bare (l:List Rn):sumE (l.map rbare)=((sumE l).1.map rbare,(sumE l).2):=by
 rw [sumE,sumE,runsErr_bare]
 split
 ·rfl
 ·have:=smF_bare l.length [] l
  rw [List.map_nil] at this
  rw [List.length_map,this]
  cases smF l.length [] l with
  | none=>rfl
  | some o=>show (joinL (o.map rbare),(0:Int))=_;rw [joinL_bare]
theorem joinE_bare (a b:List Rn):joinE (a.map rbare) (b.map rbare)=((joinE a b).1.map rbare,(joinE a b).2):=by
 rw [joinE,joinE,runsErr_bare,runsErr_bare,List.length_map,List.length_map,lastD_bare,lastD_bare,headD_bare,headD_bare,← List.map_append,joinL_bare,List.length_map]
 split
 ·rfl
 split
 ·rfl
 split
 ·rename_i h
  rw [if_pos (show a.length≠0∧b.length≠0∧(lastD a).to_≠(headD' b).from_ from h)];rfl
 rename_i h1
 rw [if_neg (show ¬ (a.length≠0∧b.length≠0∧(lastD a).to_≠(headD' b).from_) from h1)]
 split
 ·rename_i h
  rw [if_pos (show a.length≠0∧b.length≠0∧40000 < (lastD b).to_-(headD' a).from_ from h)];rfl
 rename_i h2
 rw [if_neg (show ¬ (a.length≠0∧b.length≠0∧40000 < (lastD b).to_-(headD' a).from_) from h2)]
 split<;>rfl
theorem cutE_bare' (l:List Rn) (t:Int):cutE' (l.map rbare) t=(((cutE' l t).1.1.map rbare,(cutE' l t).1.2.map rbare),(cutE' l t).2):=by
 rw [cutE',cutE',runsErr_bare,List.length_map,headD_bare,lastD_bare]
 split
 ·rfl
 split
 ·rename_i h
  rw [if_pos (show l.length=0∨t < (headD' l).from_∨(lastD l).to_ < t from h)];rfl
 rename_i h
 rw [if_neg (show ¬ (l.length=0∨t < (headD' l).from_∨(lastD l).to_ < t) from h)]
 have:=cutF_bare t l ([],[])
 rw [show (([]:List Rn).map rbare,([]:List Rn).map rbare)=(([],[]):List Rn×List Rn) from rfl] at this
 rw [this]
 cases cutF t ([],[]) l with
 | none=>rfl
 | some o=>rfl
theorem covN_bare (y:Rn) (s:Int):∀ a:List Rn,covN (rbare y) s (a.map rbare)=covN y s a
 | []=>rfl
 | x::a=>by rw [List.map_cons,covN,covN,covN_bare y s a];rfl
theorem covB_bare (a:List Rn) (y:Rn):covB (a.map rbare) (rbare y)=covB a y:=by
 rw [covB,covB,List.all_map]
 simp only [covN_bare]
 rfl
theorem finE_bare (a b:List Rn):finE (a.map rbare) (b.map rbare)=finE a b:=by
 rw [finE,finE,runsErr_bare,runsErr_bare,List.length_map,List.length_map,lastD_bare,lastD_bare,headD_bare,headD_bare,List.all_map]
 simp only [Function.comp_def,covB_bare]
 rfl
theorem cntL_bare:∀ l:List Rn,cntL (l.map rbare)=cntL l
 | []=>rfl
 | r::l=>by rw [List.map_cons,cntL,cntL,cntL_bare l];rfl
theorem cntE_bare (l:List Rn):cntE (l.map rbare)=cntE l:=by
 rw [cntE,cntE,runsErr_bare,List.length_map,headD_bare,lastD_bare,cntL_bare];rfl
theorem agrL_bare (f:Int) (hs:List Int):∀ l:List Rn,agrL f hs (l.map rbare)=agrL f hs l
 | []=>rfl
 | r::l=>by rw [List.map_cons,agrL,agrL,agrL_bare f hs l];rfl
theorem agreeB_bare (l:List Rn) (f:Int) (hs:List Int):agreeB (l.map rbare) f hs=agreeB l f hs:=by
 rw [agreeB,agreeB,runsErr_bare,List.length_map,List.getElem?_map,List.getElem?_map]
 split
 ·rfl
 cases h1:l[0]? with
 | none=>rfl
 | some a =>
  cases h2:l[l.length-1]? with
  | none=>rfl
  | some b =>
   show (if f≠a.from_∨(hs.length:Int)≠b.to_-f then false else agrL f hs (l.map rbare))=_
   rw [agrL_bare]
def exA:List Rn:=[mkR 10 12 5,⟨12,15,[(5,1),(7,2)],none,0,0,0⟩,mkR 15 16 9,⟨16,18,[],none,0,0,1⟩]
def exZ:List Rn:=[mkR 10 11 5,⟨11,15,[(5,2),(7,2)],none,0,0,0⟩,mkR 15 16 9,⟨16,18,[],none,0,0,1⟩]
def exR:List Rn:=[mkR 10 12 5,mkR 12 13 7]
theorem ex_chk:runsErr exA=0:=by decide +kernel
theorem ex_agr:agreeB exA 10 [5,5,7,5,7,9,1,0]=true:=by decide +kernel
theorem ex_agn:agreeB exA 10 [5,5,7,7,7,9,1,0]=false:=by decide +kernel
theorem ex_cnt:cntE exA=(nB 12,0):=by decide +kernel
theorem ex_12:decT (vB (nB 12))=[49,50]:=by decide +kernel
theorem ex_fst:firstS exA=[5,5,5,7,7,9,0,0]∧firstF exA=10:=by decide +kernel
theorem ex_cut1:cutE' exA 11=(([mkR 10 11 5],[mkR 11 12 5,⟨12,15,[(5,1),(7,2)],none,0,0,0⟩,mkR 15 16 9,⟨16,18,[],none,0,0,1⟩]),0):=by decide +kernel
theorem ex_cut2:cutE' exA 13=(([],[]),29):=by decide +kernel
theorem ex_cut3:cutE' exA 17=(([mkR 10 12 5,⟨12,15,[(5,1),(7,2)],none,0,0,0⟩,mkR 15 16 9,⟨16,17,[],none,0,0,1⟩],[⟨17,18,[],none,0,0,1⟩]),0):=by decide +kernel
theorem ex_sum:sumE exA=(exZ,0):=by decide +kernel
theorem ex_of:ofE 10 [5,5,7]=(exR,0):=by decide +kernel
theorem ex_sum2:sumE exR=(exR,0):=by decide +kernel
theorem ex_fin1:finE exA exZ=(true,0):=by decide +kernel
theorem ex_fin2:finE exZ exA=(false,0):=by decide +kernel
theorem ex_join:joinE [mkR 10 11 5] [mkR 11 12 5,⟨12,15,[(5,1),(7,2)],none,0,0,0⟩,mkR 15 16 9,⟨16,18,[],none,0,0,1⟩]=(exA,0):=by decide +kernel
end Go.Proofs.YtcdgibkbbcekhaaDoor
/-
 A rule for calls that make two lists of runs;contract: the law's example.
-/
namespace Go.Proofs.YtcdgibkbbcekhaaDoor
open Go.RowKit Go.Sl Go.Num
section
variable {C:Ctx}{st:List (Nat×Value)}{M:List Row}{k:List Item}{q q':Md}{all rest:List Oper}{d:Nat}{ty:TypeId}{pos:String}{after:Array Edge}{gd:Option (Nat×Bool)}
theorem Sat.addR {w0 w':World}{n:Nat}{L0 L:List Rn}{a:Option Addr} (hw:Sat w0 M w') (h1:RunsAt w' a L) (h2:∀ p,a=some p→n≤p.block) (h3:srcR n L0 L) (h0:L0=[]∨tfam w0.heap.size L0∈M) (hf:∀ b,n≤b→w0.heap.size≤b→∀ r∈M,¬ r.lock b):Sat w0 (slRow w0.heap.size a 5 (L.map rnV)::tfam w0.heap.size L::M) w':=by
 have hw2:Sat w0 (tfam w0.heap.size L::M) w':=Sat.tfamNew hw h1.2 h3 h0 hf
 refine hw2.addFact (Nat.le_refl _) h1.1 fun b hb=>?_
 obtain ⟨h5,p,h6,h7,h8⟩:=hb
 have hlt:=SlAt.lt h1.1 h5 p h6
 have:=h2 p h6
 subst h7
 refine ⟨h8,hlt,fun r hr=>?_⟩
 rcases List.mem_cons.1 hr with rfl|hr
 ·exact fun h=>h
 ·exact hf _ this h8 r hr
theorem G.cU2 {g:FuncId}{args:List Operand}{vs:List Value}{at_:Array TypeId} (v:Option Addr→Nat→Nat→Option Addr→Nat→Nat→Value) (P:List Rn→List Rn→Prop) (L0:List Rn) (h0:L0=[]∨tfam C.w0.heap.size L0∈M) (ha:evL st args=some vs) (hs:sideB all st gd d C.N q.ext=some q') [hF:Fun C.P g]
  (hc:∀ w,Sat C.w0 M w→Calls C.P g vs.toArray w (RetU2 L0 P v w))
  (h:∀ A a' c' B b' d',P A B→((0 < A.length→∃ b off,a'=some ⟨b,off,none⟩)∧A.length≤c')→((0 < B.length→∃ b off,b'=some ⟨b,off,none⟩)∧B.length≤d')→G q' C all ((d,v a' A.length c' b' B.length d')::st) (slRow C.w0.heap.size b' 5 (B.map rnV)::tfam C.w0.heap.size B::slRow C.w0.heap.size a' 5 (A.map rnV)::tfam C.w0.heap.size A::M) rest k) :
  G q C all st M ({ dst:=some d,op:=.call { callee:=.value (.func g),args:=args.toArray,argTypes:=at_ },type:=ty,pos,after,guard:=gd }::rest) k:=by
 obtain ⟨g1,g2,g3⟩:=sideB_ok hs
 refine G.call0 (X:={ x:(List Rn×Option Addr×Nat)×(List Rn×Option Addr×Nat) // P x.1.1 x.2.1∧((0 < x.1.1.length→∃ b off,x.1.2.1=some ⟨b,off,none⟩)∧x.1.1.length≤x.1.2.2)∧((0 < x.2.1.length→∃ b off,x.2.2.1=some ⟨b,off,none⟩)∧x.2.1.length≤x.2.2.2) }) (v:=fun x=>v x.1.1.2.1 x.1.1.1.length x.1.1.2.2 x.1.2.2.1 x.1.2.1.length x.1.2.2.2) (Mn:=fun x=>[slRow C.w0.heap.size x.1.2.2.1 5 (x.1.2.1.map rnV),tfam C.w0.heap.size x.1.2.1,slRow C.w0.heap.size x.1.1.2.1 5 (x.1.1.1.map rnV),tfam C.w0.heap.size x.1.1.1]) g1 g2 g3 ha (fun w hw=>(hc w hw).mono fun e w' he=>?_) fun x=>h x.1.1.1 x.1.1.2.1 x.1.1.2.2 x.1.2.1 x.1.2.2.1 x.1.2.2.2 x.2.1 x.2.2.1 x.2.2.2
 obtain ⟨A,a',ca,B,b',cb,hP,rfl,⟨h1,⟨h2,h2c⟩,h3⟩,⟨h4,⟨h5,h5c⟩,h6⟩,h7⟩:=he
 have hw':=hw.ext h7
 have hf:∀ b,w.heap.size≤b→C.w0.heap.size≤b→∀ r∈M,¬ r.lock b:=fun b hb h7=>hw.free (.inr (.inl hb)) h7
 have hw2:=Sat.addR hw' h1 h2 h3 h0 hf
 have hw3:=Sat.addR (L0:=L0) hw2 h4 h5 h6 (h0.imp id fun h=>.tail _ (.tail _ h)) fun b hb h8 r hr=>by
  rcases List.mem_cons.1 hr with rfl|hr
  ·exact fun h=>h
  rcases List.mem_cons.1 hr with rfl|hr
  ·exact fun h=>h
  ·exact hf b hb h8 r hr
 exact ⟨⟨((A,a',ca),(B,b',cb)),hP,⟨fun h0=>(let ⟨b,off,e,_⟩:=h1.1 (by rw [List.length_map];exact h0);⟨b,off,e⟩),h2c⟩,⟨fun h0=>(let ⟨b,off,e,_⟩:=h4.1 (by rw [List.length_map];exact h0);⟨b,off,e⟩),h5c⟩⟩,rfl,hw3⟩
end
theorem blkSlC {w0 w:World}{M:List Row}{A:Type}{f:A→List Value}{sz b tot:Nat}{e:TypeId}{l:List A}{cs:List Value} (hw:Sat w0 M w) (hf:∀ x,(f x).length=sz) (hm:Row.blk b e cs tot∈M) (hcs:cs=flat f l):SlAt w (some ⟨b,0,none⟩) sz (l.map f)∧w0.heap.size≤b:=by
 subst hcs
 exact blkSlA hw hf hm
set_option maxHeartbeats 4000000 in
theorem ex16_holds (w:World):Calls Tryd.prog 13 #[] w (RetU [] (fun L=>L.map rbare=exA) (fun a' n c'=>.slice a' n c') w):=by
 refine enterA [] Tryd.func13 Tryd.ntmps13 ?_
 all_goals (refine go ?_;and_intros<;>(try exact trivial)<;>repeat (first|refine fun (Bk:Nat)=>?_|intro h))
 repeat' ((first|(apply G.sliceL;rfl;rfl;rfl;rfl;rfl;rfl;rfl;rfl;intro Bs))<;>(refine go ?_;and_intros<;>(try exact trivial)<;>repeat (first|refine fun (Bk:Nat)=>?_|intro h)))
 rename_i b1 b2 b3
 refine ret1 Tryd.func13 Tryd.results13 ?_
 intro w' hw'
 have k1:=blkSlA (b:=b1) (f:=hoV) (sz:=2) (l:=[(5,2)]) hw' hoV_len (.tail _ (.tail _ (.tail _ (.head _))))
 have k2:=blkSlA (b:=b2) (f:=hoV) (sz:=2) (l:=[(5,1),(7,2)]) hw' hoV_len (.tail _ (.tail _ (.head _)))
 have k3:=blkSlA (b:=b3) (f:=hoV) (sz:=2) (l:=[(9,1)]) hw' hoV_len (.tail _ (.head _))
 have k4:=blkSlC (f:=rnV) (l:=[⟨10,12,[(5,2)],some ⟨b1,0,none⟩,1,0,0⟩,⟨12,15,[(5,1),(7,2)],some ⟨b2,0,none⟩,2,0,0⟩,⟨15,16,[(9,1)],some ⟨b3,0,none⟩,1,0,0⟩,⟨16,18,[],none,0,0,1⟩]) hw' rnV_len (.head _) (by kernel_rfl)
 refine ⟨[⟨10,12,[(5,2)],some ⟨b1,0,none⟩,1,0,0⟩,⟨12,15,[(5,1),(7,2)],some ⟨b2,0,none⟩,2,0,0⟩,⟨15,16,[(9,1)],some ⟨b3,0,none⟩,1,0,0⟩,⟨16,18,[],none,0,0,1⟩],some ⟨Bs,0,none⟩,4,rfl,rfl,⟨k4.1,fun r hr=>?_⟩,⟨fun p hp=>by cases hp;exact k4.2,Nat.le_refl _⟩,fun r hr=>?_,hw'.below⟩
 ·simp only [List.mem_cons,List.not_mem_nil,or_false] at hr
  rcases hr with rfl|rfl|rfl|rfl
  ·exact k1.1
  ·exact k2.1
  ·exact k3.1
  ·exact SlAt.nil
 ·simp only [List.mem_cons,List.not_mem_nil,or_false] at hr
  rcases hr with rfl|rfl|rfl|rfl
  ·exact .inr (.inl fun p hp=>by cases hp;exact k1.2)
  ·exact .inr (.inl fun p hp=>by cases hp;exact k2.2)
  ·exact .inr (.inl fun p hp=>by cases hp;exact k3.2)
  ·exact .inl rfl
end Go.Proofs.YtcdgibkbbcekhaaDoor
/-
 Contract: the law's examples hold.
-/
namespace Go.Proofs.YtcdgibkbbcekhaaDoor
open Go.RowKit Go.Sl Go.Num
def exB:List Rn:=[mkR 11 12 5,⟨12,15,[(5,1),(7,2)],none,0,0,0⟩,mkR 15 16 9,⟨16,18,[],none,0,0,1⟩]
def exC:List Rn:=[mkR 10 12 5,⟨12,15,[(5,1),(7,2)],none,0,0,0⟩,mkR 15 16 9,⟨16,17,[],none,0,0,1⟩]
def exD:List Rn:=[⟨17,18,[],none,0,0,1⟩]
theorem pair_of {l X A B:List Rn}{t e:Int} (h:l.map rbare=X) (h2:cutE' X t=((A,B),e)):(cutE' l t).1.1.map rbare=A∧(cutE' l t).1.2.map rbare=B∧(cutE' l t).2=e:=by
 have h3:=cutE_bare' l t
 rw [h,h2] at h3
 exact ⟨(congrArg (fun x=>x.1.1) h3).symm,(congrArg (fun x=>x.1.2) h3).symm,(congrArg (fun x=>x.2) h3).symm⟩
theorem sum_of {l X A:List Rn}{e:Int} (h:l.map rbare=X) (h2:sumE X=(A,e)):(sumE l).1.map rbare=A∧(sumE l).2=e:=by
 have h3:=sumE_bare l
 rw [h,h2] at h3
 exact ⟨(congrArg (fun x=>x.1) h3).symm,(congrArg (fun x=>x.2) h3).symm⟩
theorem join_of {l m X Y A:List Rn}{e:Int} (h:l.map rbare=X) (h':m.map rbare=Y) (h2:joinE X Y=(A,e)):(joinE l m).1.map rbare=A∧(joinE l m).2=e:=by
 have h3:=joinE_bare l m
 rw [h,h',h2] at h3
 exact ⟨(congrArg (fun x=>x.1) h3).symm,(congrArg (fun x=>x.2) h3).symm⟩
theorem tabs_of {l m:List Rn} (h:l.map rbare=m) {n:Nat} (hm:∀ r∈m,r.tab.length≤n):∀ r∈l,r.tab.length≤n:=fun r hr=>by
 have h1:=List.mem_map_of_mem (f:=rbare) hr
 rw [h] at h1
 have h2:(rbare r).tab.length≤n:=hm _ h1
 exact h2
theorem len_of {l m:List Rn} (h:l.map rbare=m):l.length=m.length:=by rw [← h,List.length_map]
theorem RunsAt.take {w:World}{a:Option Addr}{l:List Rn} (h:RunsAt w a l) (n:Nat):RunsAt w a (l.take n):=by
 refine ⟨fun h0=>?_,fun r hr=>h.2 r (List.mem_of_mem_take hr)⟩
 rw [List.length_map,List.length_take] at h0
 obtain ⟨b,off,e,hr⟩:=h.1 (by rw [List.length_map];omega)
 refine ⟨b,off,e,fun i cs hi=>hr i cs ?_⟩
 rw [List.map_take,List.getElem?_take] at hi
 split at hi
 ·exact hi
 ·cases hi
theorem RunsAt.drop {w:World}{b o:Nat}{l:List Rn} (h:RunsAt w (some ⟨b,o,none⟩) l) (n:Nat):RunsAt w (some ⟨b,o+n*5,none⟩) (l.drop n):=by
 refine ⟨fun h0=>?_,fun r hr=>h.2 r (List.mem_of_mem_drop hr)⟩
 rw [List.length_map,List.length_drop] at h0
 obtain ⟨b',off,e,hr⟩:=h.1 (by rw [List.length_map];omega)
 cases e
 refine ⟨b,o+n*5,rfl,fun i cs hi=>?_⟩
 rw [List.map_drop,List.getElem?_drop] at hi
 have:=hr (n+i) cs hi
 rwa [show o+(n+i)*5=o+n*5+i*5 by omega] at this
theorem gapLit {w0 w:World}{M:List Row}{b tot e:Nat}{cs:List Value} (hw:Sat w0 M w) (x:Rn) (hx:x.tab=[]) (hm:Row.blk b e cs tot∈M) (hcs:cs=flat rnV [x]):RunsAt w (some ⟨b,0,none⟩) [x]:=⟨(blkSlC (f:=rnV) (l:=[x]) hw rnV_len hm hcs).1,fun r hr=>by
 rw [List.mem_singleton.1 hr,TabAt,hx]
 exact SlAt.nil⟩
theorem same_yes (a b:Option Addr) (l m:List Rn) (n c k d:Nat) (w:World) (hA:RunsAt w a l) (hB:RunsAt w b m) (he:l.map rbare=m.map rbare) (hn:l.length=n) (hs:n≤1000000) (hk:n=k) (ht:∀ r∈m,r.tab.length≤1000000) :
  Calls Tryd.prog 18 #[.slice a n c,.slice b k d] w fun e w'=>e=.returned (.bool true)∧Below w.heap.size w w':=by
 subst hk
 have hk:m.length=n:=by rw [← length_bare he];exact hn
 subst hn
 have h:=same16_holds a b l m c d w hA hB ⟨hs,by omega⟩ (tabs_bare he ht) ht
 rw [decide_eq_true he,hk] at h
 exact h
theorem TbLe1 {x:Rn} (h:x.tab.length≤1000000):∀ r∈[x],r.tab.length≤1000000:=fun r hr=>by rw [List.mem_singleton.1 hr];exact h
theorem J.blkEq {C:Ctx}{st:List (Nat×Value)}{M:List Row}{k:List Item}{b E tot tot':Nat}{cs cs':List Value}{F:Row→List Row} (hm:RAt (.blk b E cs tot) M F) (h:cs=cs') (ht:tot=tot') (hk:J C st (F (.blk b E cs' tot')) k):J C st M k:=by
 subst h ht
 obtain ⟨i,h1,h2⟩:=hm.idx
 have h3:M.set i (.blk b E cs tot)=M:=by
  apply List.ext_getElem?
  intro j
  by_cases e:i=j
  ·subst e;rw [List.getElem?_set_self (List.getElem?_eq_some_iff.1 h1).1,h1]
  ·rw [List.getElem?_set_ne e]
 rw [← h2,h3] at hk
 exact hk
theorem G.cutC {C:Ctx}{st:List (Nat×Value)}{M:List Row}{k:List Item}{q:Md}{all rest:List Oper}{k2:List Item}{X:Type} (stF:X→List (Nat×Value)) (MF:X→List Row) (h:(∀ x,J C (stF x) (MF x) k2)→G q C all st M rest k) (hk:∀ x,J C (stF x) (MF x) k2):G q C all st M rest k:=h hk
set_option maxHeartbeats 4000000 in
theorem sanity16_holds (w:World):Calls Tryd.prog 5 #[] w fun e w'=>e=.returned (.bool true)∧Below w.heap.size w w':=by
 refine enterA [] Tryd.func5 Tryd.ntmps5 ?_
 all_goals (refine go ?_;and_intros<;>(try exact trivial)<;>repeat (first|refine fun (Bk:Nat)=>?_|intro h))
 repeat' ((first|(refine G.cU (g:=13) (fun a' n c'=>.slice a' n c') (fun L=>L.map rbare=exA) [] (.inl rfl) rfl rfl (fun w' _=>ex16_holds w') ?_;intro L a1 c1 hL ⟨hL1,hL2⟩ _;rw [show L.length=4 from len_of hL])|fail)<;>(refine go ?_;and_intros<;>(try exact trivial)<;>repeat (first|refine fun (Bk:Nat)=>?_|intro h)))
 have hl:L.length=4:=len_of hL
 obtain ⟨ba,oa,rfl⟩:=hL1 (by rw [hl];decide)
 have h2L:2 < L.length:=by rw [hl];decide
 have h3L:3 < L.length:=by rw [hl];decide
 have ht:=tabs_of hL (n:=64) (by decide +kernel)
 obtain ⟨k1,k2,k3⟩:=pair_of hL ex_cut1
 obtain ⟨k4,k5,k6⟩:=pair_of hL ex_cut2
 obtain ⟨k7,k8,k9⟩:=pair_of hL ex_cut3
 obtain ⟨s1,s2⟩:=sum_of hL ex_sum
 have hag:=agreeB_bare L 10 [5,5,7,5,7,9,1,0]
 have han:=agreeB_bare L 10 [5,5,7,7,7,9,1,0]
 have hct:=cntE_bare L
 have hf1:=firstS_bare L
 have hf2:=firstF_bare L
 rw [hL] at hag han hct hf1 hf2
 rw [ex_agr] at hag
 rw [ex_agn] at han
 rw [ex_cnt] at hct
 rw [ex_fst.1] at hf1
 rw [ex_fst.2] at hf2
 have hE:runsErr L=0:=by rw [← runsErr_bare,hL];exact ex_chk
 have HA:=fun b w' (h:RunsAt w' (some ⟨ba,oa,none⟩) L) hB=>agree_holds (some ⟨ba,oa,none⟩) (some ⟨b,0,none⟩) L 10 [5,5,7,5,7,9,1,0] c1 8 w' h hB ht (by decide) (by decide)
 have HN:=fun b w' (h:RunsAt w' (some ⟨ba,oa,none⟩) L) hB=>agree_holds (some ⟨ba,oa,none⟩) (some ⟨b,0,none⟩) L 10 [5,5,7,7,7,9,1,0] c1 8 w' h hB ht (by decide) (by decide)
 have HC:=fun w' (h:RunsAt w' (some ⟨ba,oa,none⟩) L)=>vCount_holds (some ⟨ba,oa,none⟩) L c1 w' h ht (by omega)
 have HF:=fun w' (h:RunsAt w' (some ⟨ba,oa,none⟩) L)=>vFirst_holds (some ⟨ba,oa,none⟩) L c1 w' h ht hE (by omega)
 have H11:=fun w' (h:RunsAt w' (some ⟨ba,oa,none⟩) L)=>runCut_holds (some ⟨ba,oa,none⟩) L c1 11 w' h ht (by omega)
 have H13:=fun w' (h:RunsAt w' (some ⟨ba,oa,none⟩) L)=>runCut_holds (some ⟨ba,oa,none⟩) L c1 13 w' h ht (by omega)
 have H17:=fun w' (h:RunsAt w' (some ⟨ba,oa,none⟩) L)=>runCut_holds (some ⟨ba,oa,none⟩) L c1 17 w' h ht (by omega)
 have HS:=fun w' (h:RunsAt w' (some ⟨ba,oa,none⟩) L)=>vSum_holds (some ⟨ba,oa,none⟩) L c1 w' h ht (by omega) hL2.2
 have HO:=fun b w' hB=>vOf_holds 10 (some ⟨b,0,none⟩) [5,5,7] 3 w' hB (by decide)
 have HK:=fun w' (h:RunsAt w' (some ⟨ba,oa,none⟩) L)=>vRuns_holds (some ⟨ba,oa,none⟩) L c1 w' h ht
 rw [← hag] at HA
 rw [← han] at HN
 rw [← hct] at HC
 rw [← hf1,← hf2] at HF
 rw [hE] at HK
 simp only [k1,k2,k3] at H11
 simp only [k4,k5,k6] at H13
 simp only [k7,k8,k9] at H17
 simp only [s1,s2] at HS
 simp only [ex_of] at HO
 simp only [hl] at HA HN HC HF H11 H13 H17 HS HK
 clear k1 k2 k3 k4 k5 k6 k7 k8 k9 s1 s2 hag han hct hf1 hf2
 have HS2:∀ (aR:Option Addr) (LR:List Rn) (cR:Nat),LR.map rbare=exR→LR.length≤cR→∀ w',RunsAt w' aR LR→Calls Tryd.prog 8 #[.slice aR 2 cR] w' (RetU [] (fun X=>X.map rbare=exR) (fun a' n c'=>.tuple #[.slice a' n c',.int .i64 0]) w'):=fun aR LR cR hR hc w' h=>by
  have h2:=vSum_holds aR LR cR w' h (tabs_of hR (by decide +kernel)) (by rw [len_of hR];decide) hc
  obtain ⟨e1,e2⟩:=sum_of hR ex_sum2
  simp only [e1,e2,show LR.length=2 from len_of hR] at h2
  exact h2
 have HF1:∀ (aS:Option Addr) (LS:List Rn) (cS:Nat),LS.map rbare=exZ→∀ w',RunsAt w' (some ⟨ba,oa,none⟩) L→RunsAt w' aS LS→Calls Tryd.prog 16 #[.slice (some ⟨ba,oa,none⟩) 4 c1,.slice aS 4 cS] w' fun e w2=>e=.returned (.tuple #[.bool true,.int .i64 0])∧Below w'.heap.size w' w2:=fun aS LS cS hS w' h1 h=>by
  have h2:=vFin_holds (some ⟨ba,oa,none⟩) L c1 aS LS cS w' h1 h ht (tabs_of hS (by decide +kernel)) (by omega) (by rw [len_of hS];decide)
  have e:=finE_bare L LS
  rw [hL,hS,ex_fin1] at e
  simp only [← e,hl,show LS.length=4 from len_of hS] at h2
  exact h2
 have HF2:∀ (aS:Option Addr) (LS:List Rn) (cS:Nat),LS.map rbare=exZ→∀ w',RunsAt w' (some ⟨ba,oa,none⟩) L→RunsAt w' aS LS→Calls Tryd.prog 16 #[.slice aS 4 cS,.slice (some ⟨ba,oa,none⟩) 4 c1] w' fun e w2=>e=.returned (.tuple #[.bool false,.int .i64 0])∧Below w'.heap.size w' w2:=fun aS LS cS hS w' h1 h=>by
  have h2:=vFin_holds aS LS cS (some ⟨ba,oa,none⟩) L c1 w' h h1 (tabs_of hS (by decide +kernel)) ht (by rw [len_of hS];decide) (by omega)
  have e:=finE_bare LS L
  rw [hL,hS,ex_fin2] at e
  simp only [← e,hl,show LS.length=4 from len_of hS] at h2
  exact h2
 have HJ:∀ (aA:Option Addr) (LA:List Rn) (cA:Nat) (aB:Option Addr) (LB:List Rn) (cB:Nat),LA.map rbare=[mkR 10 11 5]→LB.map rbare=exB→∀ w',RunsAt w' aA LA→RunsAt w' aB LB→Calls Tryd.prog 17 #[.slice aA 1 cA,.slice aB 4 cB] w' (RetU [] (fun X=>X.map rbare=exA) (fun a' n c'=>.tuple #[.slice a' n c',.int .i64 0]) w'):=fun aA LA cA aB LB cB hA hB w' h1 h=>by
  have h2:=vJoin_holds aA LA cA aB LB cB w' h1 h (tabs_of hA (by decide +kernel)) (tabs_of hB (by decide +kernel)) (by rw [len_of hA];decide) (by rw [len_of hB];decide)
  obtain ⟨e1,e2⟩:=join_of hA hB ex_join
  simp only [e1,e2,show LA.length=1 from len_of hA,show LB.length=4 from len_of hB] at h2
  exact h2
 clear hE ht
 all_goals (refine goR ?_;and_intros<;>(try exact trivial)<;>repeat (first|refine fun (Bk:Nat)=>?_|intro h))
 repeat' ((first|(apply J.regA (.q 0 <| .q 3 <| .q 4 <| .q 7 <| .q 8 <| .q 9 <| .q 10 <| .q 11 <| .q 12 <| .f 1 (.q 2 <| .e 5 <| .q 6 <| .r 13 <| .q 14 <| .nil) 5 (.q 6 <| .e 1 <| .q 2 <| .r 13 <| .q 14 <| .nil));exact Tryd.mixed;decide +kernel)|(apply G.sliceL;rfl;rfl;rfl;rfl;rfl;rfl;rfl;rfl;intro Bs)|(apply G.ix (i:=2);rfl;rfl;exact rfl;decide;rfl)|(apply G.ix (i:=3);rfl;rfl;exact rfl;decide;rfl)|(apply G.ld;rfl;exact LdV.aggSl (f:=rnV) (l:=L) (i:=2) (N:=w.heap.size) (by exact mm) h2L rfl;rfl)|(apply G.ld;rfl;exact LdV.aggSl (f:=rnV) (l:=L) (i:=3) (N:=w.heap.size) (by exact mm) h3L rfl;rfl)|(apply G.cV (g:=11) (d:=37);rfl;rfl;exact fun w' hw'=>HA Bs w' (RunsAt.of hw') (blkSlC (f:=isV) (l:=[5,5,7,5,7,9,1,0]) hw' isV_len mm (by kernel_rfl)).1)|(apply G.cV (g:=11) (d:=41);rfl;rfl;exact fun w' hw'=>HN Bs w' (RunsAt.of hw') (blkSlC (f:=isV) (l:=[5,5,7,7,7,9,1,0]) hw' isV_len mm (by kernel_rfl)).1)|(apply G.cV (g:=7);rfl;rfl;exact fun w' hw'=>HC w' (RunsAt.of hw'))|(apply G.cO (g:=14) (fun u=>.tuple #[.agg #[.int .i64 10,u],.int .i64 0]);rfl;rfl;exact fun w' hw'=>HF w' (RunsAt.of hw');intro u;refine G.ownForm' RAt.au ?_;intro aF cF hv;subst hv)|(refine G.cU2 (g:=15) (vs:=[.slice (some ⟨ba,oa,none⟩) 4 c1,.int .i64 11]) (fun a' n c' b' m d'=>.tuple #[.slice a' n c',.slice b' m d',.int .i64 0]) (fun A B=>A.map rbare=[mkR 10 11 5]∧B.map rbare=exB) [] (.inl rfl) rfl rfl (fun w' hw'=>H11 w' (RunsAt.of hw')) ?_;intro LA aA cA LB aB cB ⟨hA,hB⟩ hA2 hB2;rw [show LA.length=1 from len_of hA,show LB.length=4 from len_of hB])|(refine G.cU2 (g:=15) (vs:=[.slice (some ⟨ba,oa,none⟩) 4 c1,.int .i64 13]) (fun a' n c' b' m d'=>.tuple #[.slice a' n c',.slice b' m d',.int .i64 29]) (fun A B=>A.map rbare=[]∧B.map rbare=[]) [] (.inl rfl) rfl rfl (fun w' hw'=>H13 w' (RunsAt.of hw')) ?_;intro LE aE cE LG aG cG ⟨hLE,hLG⟩ hE2 hG2;rw [show LE.length=0 from len_of hLE,show LG.length=0 from len_of hLG])|(refine G.cU2 (g:=15) (vs:=[.slice (some ⟨ba,oa,none⟩) 4 c1,.int .i64 17]) (fun a' n c' b' m d'=>.tuple #[.slice a' n c',.slice b' m d',.int .i64 0]) (fun A B=>A.map rbare=exC∧B.map rbare=exD) [] (.inl rfl) rfl rfl (fun w' hw'=>H17 w' (RunsAt.of hw')) ?_;intro LC aC cC LD aD cD ⟨hC,hD⟩ hC2 hD2;rw [show LC.length=4 from len_of hC,show LD.length=1 from len_of hD])|(refine G.cU (g:=8) (d:=72) (fun a' n c'=>.tuple #[.slice a' n c',.int .i64 0]) (fun L=>L.map rbare=exZ) [] (.inl rfl) rfl rfl (fun w' hw'=>HS w' (RunsAt.of hw')) ?_;intro LS aS cS hS hS2 _;rw [show LS.length=4 from len_of hS])|(refine G.cU (g:=6) (fun a' n c'=>.tuple #[.slice a' n c',.int .i64 0]) (fun L=>L.map rbare=exR) [] (.inl rfl) rfl rfl (fun w' hw'=>HO Bs w' (blkSlC (f:=isV) (l:=[5,5,7]) hw' isV_len mm (by kernel_rfl)).1) ?_;intro LR aR cR hR hR2 _;rw [show LR.length=2 from len_of hR])|(refine G.cU (g:=8) (d:=83) (fun a' n c'=>.tuple #[.slice a' n c',.int .i64 0]) (fun L=>L.map rbare=exR) [] (.inl rfl) rfl rfl (fun w' hw'=>HS2 aR LR cR hR hR2.2.2 w' (RunsAt.of hw')) ?_;intro LT aT cT hT hT2 _;rw [show LT.length=2 from len_of hT])|(apply G.cV (g:=16) (d:=89);rfl;rfl;exact fun w' hw'=>HF1 aS LS cS hS w' (RunsAt.of hw') (RunsAt.of hw'))|(apply G.cV (g:=16) (d:=95);rfl;rfl;exact fun w' hw'=>HF2 aS LS cS hS w' (RunsAt.of hw') (RunsAt.of hw'))|(refine G.cU (g:=17) (fun a' n c'=>.tuple #[.slice a' n c',.int .i64 0]) (fun L=>L.map rbare=exA) [] (.inl rfl) rfl rfl (fun w' hw'=>HJ aA LA cA aB LB cB hA hB w' (RunsAt.of hw') (RunsAt.of hw')) ?_;intro LJ aJ cJ hJ hJ2 _;rw [show LJ.length=4 from len_of hJ])|(apply J.regQ;exact Tryd.mixed;decide +kernel)|(apply J.regL';exact Tryd.mixed;decide +kernel))<;>(refine goR ?_;and_intros<;>(try exact trivial)<;>repeat (first|refine fun (Bk:Nat)=>?_|intro h)))
 apply G.cutC (X:=Nat×Nat×Nat) (fun x=>[(0,.bool false),(1,.slice (some ⟨ba,oa,none⟩) 4 c1),(2,.bool true),(3,.bool false),(4,.string (bs (nB 12))),(5,.int .i64 0),(6,.pointer (some ⟨Bk,0,none⟩)),(7,.int .i64 0),(8,.slice aA 1 cA),(9,.slice aB 4 cB),(10,.int .i64 0),(13,.int .i64 29),(14,.slice aC 4 cC),(15,.slice aD 1 cD),(16,.int .i64 0),(17,.slice aS 4 cS),(18,.int .i64 0),(19,.slice aR 2 cR),(20,.int .i64 0),(21,.slice aT 2 cT),(22,.int .i64 0),(23,.bool true),(24,.int .i64 0),(25,.bool false),(26,.int .i64 0),(27,.slice aJ 4 cJ),(28,.int .i64 0),(29,.slice (some ⟨x.2.2,0,none⟩) 4 4)]) (fun x=>.blk x.2.2 50 (flat rnV [⟨10,11,[(5,1)],some ⟨x.1,0,none⟩,1,0,0⟩,⟨11,15,[(5,2),(7,2)],some ⟨x.2.1,0,none⟩,2,0,0⟩,L[2],L[3]]) 20::.blk x.1 47 (flat hoV [(5,1)]) 2::.blk x.2.1 47 (flat hoV [(5,2),(7,2)]) 4::slRow w.heap.size aJ 5 (LJ.map rnV)::tfam w.heap.size LJ::slRow w.heap.size aT 5 (LT.map rnV)::tfam w.heap.size LT::slRow w.heap.size aR 5 (LR.map rnV)::tfam w.heap.size LR::slRow w.heap.size aS 5 (LS.map rnV)::tfam w.heap.size LS::slRow w.heap.size aD 5 (LD.map rnV)::tfam w.heap.size LD::slRow w.heap.size aC 5 (LC.map rnV)::tfam w.heap.size LC::slRow w.heap.size aA 5 (LA.map rnV)::tfam w.heap.size LA::slRow w.heap.size (some ⟨ba,oa,none⟩) 5 (L.map rnV)::tfam w.heap.size L::.own 0 (.slice aF 8 cF) 3 1 8 (flat isV [5,5,5,7,7,9,0,0])::[.blk Bk 24 [.int .i64 10,.slice aF 8 cF] 2])
 ·intro hk2
  have hk2:=fun a b c=>hk2 ⟨a,b,c⟩
  dsimp only at hk2
  all_goals (refine goG ?_;and_intros<;>(try exact trivial)<;>repeat (first|refine fun (Bk:Nat)=>?_|intro h))
  repeat' ((first|(apply G.fork)|(apply G.sliceL;rfl;rfl;rfl;rfl;rfl;rfl;rfl;rfl;intro Bs))<;>(refine goG ?_;and_intros<;>(try exact trivial)<;>repeat (first|refine fun (Bk:Nat)=>?_|intro h)))
  ·rename_i p1 p2
   refine J.blkEq (b:=Bs) (cs':=flat rnV [⟨10,11,[(5,1)],some ⟨p1,0,none⟩,1,0,0⟩,⟨11,15,[(5,2),(7,2)],some ⟨p2,0,none⟩,2,0,0⟩,L[2],L[3]]) (tot':=20) RAt.au (by kernel_rfl) (by kernel_rfl) ?_
   exact J.finS (hk2 p1 p2 Bs)
  ·rename_i p2 p1
   refine J.blkEq (b:=Bs) (cs':=flat rnV [⟨10,11,[(5,1)],some ⟨p1,0,none⟩,1,0,0⟩,⟨11,15,[(5,2),(7,2)],some ⟨p2,0,none⟩,2,0,0⟩,L[2],L[3]]) (tot':=20) RAt.au (by kernel_rfl) (by kernel_rfl) ?_
   exact J.finS (hk2 p1 p2 Bs)
 intro ⟨b1,b2,bw⟩
 dsimp only
 clear HO HA HN HC HF H11 H13 H17 HS HS2 HF1 HF2 HJ
 have HT:=fun w'=>natText_holds (nB 12) w' (by decide +kernel)
 rw [ex_12] at HT
 have HH:=fun b w' (h1:SlAt w' aF 1 (([5,5,5,7,7,9,0,0]:List Int).map isV)) h2=>sameH_holds 10 10 aF (some ⟨b,0,none⟩) [5,5,5,7,7,9,0,0] [5,5,5,7,7,9,0,0] cF 8 w' h1 h2 ⟨by decide,by decide⟩
 rw [decide_eq_true (⟨rfl,rfl⟩:([5,5,5,7,7,9,0,0]:List Int)=[5,5,5,7,7,9,0,0]∧(10:Int)=10)] at HH
 have hcC:4≤cC:=by have:=hC2.2;rw [len_of hC] at this;exact this
 obtain ⟨bc,oc,rfl⟩:=hC2.1 (by rw [len_of hC];decide)
 have hL2:rbare L[2]=mkR 15 16 9:=by
  have h:=congrArg (·[2]?) hL
  simp only [List.getElem?_map,List.getElem?_eq_getElem h2L] at h
  exact Option.some.inj h
 have hL3:rbare L[3]=⟨16,18,[],none,0,0,1⟩:=by
  have h:=congrArg (·[3]?) hL
  simp only [List.getElem?_map,List.getElem?_eq_getElem h3L] at h
  exact Option.some.inj h
 have hmL2:=List.getElem_mem h2L
 have hmL3:=List.getElem_mem h3L
 have hW:∀ M w',Sat w M w'→Row.blk bw 50 (flat rnV [⟨10,11,[(5,1)],some ⟨b1,0,none⟩,1,0,0⟩,⟨11,15,[(5,2),(7,2)],some ⟨b2,0,none⟩,2,0,0⟩,L[2],L[3]]) 20∈M→Row.blk b1 47 (flat hoV [(5,1)]) 2∈M→Row.blk b2 47 (flat hoV [(5,2),(7,2)]) 4∈M→RunsAt w' (some ⟨ba,oa,none⟩) L→RunsAt w' (some ⟨bw,0,none⟩) [⟨10,11,[(5,1)],some ⟨b1,0,none⟩,1,0,0⟩,⟨11,15,[(5,2),(7,2)],some ⟨b2,0,none⟩,2,0,0⟩,L[2],L[3]]:=fun M w' hw' m1 m2 m3 hR=>⟨(blkSlA hw' rnV_len m1).1,fun r hr=>by
  simp only [List.mem_cons,List.not_mem_nil,or_false] at hr
  rcases hr with rfl|rfl|rfl|rfl
  ·exact (blkSlA (f:=hoV) (l:=[(5,1)]) hw' hoV_len m2).1
  ·exact (blkSlA (f:=hoV) (l:=[(5,2),(7,2)]) hw' hoV_len m3).1
  ·exact hR.2 _ hmL2
  ·exact hR.2 _ hmL3⟩
 have hWb:([⟨10,11,[(5,1)],some ⟨b1,0,none⟩,1,0,0⟩,⟨11,15,[(5,2),(7,2)],some ⟨b2,0,none⟩,2,0,0⟩,L[2],L[3]]:List Rn).map rbare=exZ:=by
  simp only [List.map_cons,List.map_nil,hL2,hL3]
  rfl
 generalize L[2]=x2 at *
 generalize L[3]=x3 at *
 have hWs:=hW
 all_goals (refine goR ?_;and_intros<;>(try exact trivial)<;>repeat (first|refine fun (Bk:Nat)=>?_|intro h))
 repeat' ((first|(apply G.sliceL;rfl;rfl;rfl;rfl;rfl;rfl;rfl;rfl;intro Bs)|(apply G.slH (len:=1);rfl;rfl;exact rfl;decide;decide;rfl)|(apply G.slF (l:=3);rfl;rfl;exact rfl;decide;omega;rfl;rfl)|(apply G.cV (g:=18) (d:=185);rfl;rfl;exact fun w' hw'=>same_yes _ _ LA [⟨10,11,[(5,1)],some ⟨b1,0,none⟩,1,0,0⟩] 1 _ 1 _ w' (RunsAt.of hw') ((hW _ w' hw' (by exact mm) (by exact mm) (by exact mm) (RunsAt.of hw')).take 1) hA (len_of hA) (by decide) rfl (TbLe1 (Nat.le_of_ble_eq_true rfl)))|(apply G.cV (g:=18) (d:=191);rfl;rfl;exact fun w' hw'=>same_yes _ _ (LC.drop 3) [⟨16,17,[],none,0,0,1⟩] (4-3) _ 1 _ w' ((RunsAt.of (a:=some ⟨bc,oc,none⟩) (L:=LC) hw').drop 3) (gapLit (b:=Bs) hw' _ rfl mm (by kernel_rfl)) (by rw [List.map_drop,hC];rfl) (by rw [List.length_drop,len_of hC];rfl) (by decide) rfl (TbLe1 (Nat.le_of_ble_eq_true rfl)))|(apply G.cV (g:=18) (d:=197);rfl;rfl;exact fun w' hw'=>same_yes _ _ LD [⟨17,18,[],none,0,0,1⟩] 1 _ 1 _ w' (RunsAt.of hw') (gapLit (b:=Bs) hw' _ rfl mm (by kernel_rfl)) hD (len_of hD) (by decide) rfl (TbLe1 (Nat.le_of_ble_eq_true rfl)))|(apply G.cV (g:=18) (d:=202);rfl;rfl;exact fun w' hw'=>same_yes _ _ LJ L 4 _ 4 _ w' (RunsAt.of hw') (RunsAt.of hw') (hJ.trans hL.symm) (len_of hJ) (by decide) rfl (tabs_of hL (by decide +kernel))))<;>(refine goR ?_;and_intros<;>(try exact trivial)<;>repeat (first|refine fun (Bk:Nat)=>?_|intro h)))
 rename_i q1 q2
 apply G.cV (g:=18) (d:=212);rfl;rfl
 ·exact fun w' hw'=>same_yes _ _ LR [⟨10,12,[(5,2)],some ⟨q1,0,none⟩,1,0,0⟩,⟨12,13,[(7,1)],some ⟨q2,0,none⟩,1,0,0⟩] 2 _ 2 _ w' (RunsAt.of hw') ⟨(blkSlC (b:=Bs) (f:=rnV) (l:=[⟨10,12,[(5,2)],some ⟨q1,0,none⟩,1,0,0⟩,⟨12,13,[(7,1)],some ⟨q2,0,none⟩,1,0,0⟩]) hw' rnV_len mm (by kernel_rfl)).1,fun r hr=>by
   simp only [List.mem_cons,List.not_mem_nil,or_false] at hr
   rcases hr with rfl|rfl
   ·exact (blkSlC (b:=q1) (f:=hoV) (l:=[(5,2)]) hw' hoV_len mm (by kernel_rfl)).1
   ·exact (blkSlC (b:=q2) (f:=hoV) (l:=[(7,1)]) hw' hoV_len mm (by kernel_rfl)).1⟩ hR (len_of hR) (by decide) rfl (fun r hr=>by
   simp only [List.mem_cons,List.not_mem_nil,or_false] at hr
   rcases hr with rfl|rfl<;>exact Nat.le_of_ble_eq_true rfl)
 all_goals (refine goR ?_;and_intros<;>(try exact trivial)<;>repeat (first|refine fun (Bk:Nat)=>?_|intro h))
 repeat' ((first|(apply G.sliceL;rfl;rfl;rfl;rfl;rfl;rfl;rfl;rfl;intro Bs)|(apply G.eqlStr;rfl;rfl;rfl;rfl;rfl;all_goals intro h;all_goals try (exact absurd rfl h))|(apply G.cV (g:=18) (d:=216);rfl;rfl;exact fun w' hw'=>same_yes _ _ LT LR 2 _ 2 _ w' (RunsAt.of hw') (RunsAt.of hw') (hT.trans hR.symm) (len_of hT) (by decide) rfl (tabs_of hR (by decide +kernel)))|(apply G.cV (g:=10);rfl;rfl;exact fun w' _=>HT w')|(apply G.cV (g:=12) (vs:=[.agg #[.int .i64 10,.slice aF 8 cF],.agg #[.int .i64 10,.slice (some ⟨Bs,0,none⟩) 8 8]]);rfl;rfl;exact fun w' hw'=>HH Bs w' (SlAt.ofOwn isV_len (hw'.hold (.own 0 (.slice aF 8 cF) 3 1 8 (flat isV [5,5,5,7,7,9,0,0])) mm) rfl) (blkSlC (b:=Bs) (f:=isV) (l:=[5,5,5,7,7,9,0,0]) hw' isV_len mm (by kernel_rfl)).1)|(apply G.cV (g:=18) (d:=240);rfl;rfl;exact fun w' hw'=>same_yes _ _ LS [⟨10,11,[(5,1)],some ⟨b1,0,none⟩,1,0,0⟩,⟨11,15,[(5,2),(7,2)],some ⟨b2,0,none⟩,2,0,0⟩,x2,x3] 4 _ 4 _ w' (RunsAt.of hw') (hW _ w' hw' (by exact mm) (by exact mm) (by exact mm) (RunsAt.of hw')) (hS.trans hWb.symm) (len_of hS) (by decide) rfl (tabs_of hWb (by decide +kernel)))|(apply G.cV (g:=9);rfl;rfl;exact fun w' hw'=>HK w' (RunsAt.of hw')))<;>(refine goR ?_;and_intros<;>(try exact trivial)<;>repeat (first|refine fun (Bk:Nat)=>?_|intro h)))
 all_goals refine ret1b Tryd.func5 Tryd.results5 ?_
 all_goals rfl
end Go.Proofs.YtcdgibkbbcekhaaDoor
/-
 Plain: Finer is exact.
-/
namespace Go.Proofs.YtcdgibkbbcekhaaDoor
open Go.RowKit Go.Sl Go.Num
def sg (f:Int) (S:List Int) (u v:Int):List Int:=(S.drop (u-f).toNat).take (v-max u f).toNat
theorem sg_app (f:Int) (A B:List Int) (u v:Int):sg f (A++B) u v=sg f A u v++sg (f+A.length) B u v:=by
 rw [sg,sg,sg,List.drop_append,List.take_append,List.length_drop]
 congr 2
 ·omega
 ·rw [show (u-f).toNat-A.length=(u-(f+A.length)).toNat by omega]
theorem sg_len (f:Int) (S:List Int) (u v:Int):(sg f S u v).length=min (v-max u f).toNat (S.length-(u-f).toNat):=by rw [sg,List.length_take,List.length_drop]
theorem sg_mem {f:Int}{S:List Int}{u v x:Int} (h:x∈sg f S u v):x∈S:=List.mem_of_mem_drop (List.mem_of_mem_take h)
theorem sg_no {f:Int}{S:List Int}{u v:Int} (h:v≤max u f∨f+S.length≤u):sg f S u v=[]:=by
 refine List.length_eq_zero_iff.1 ?_
 rw [sg_len];omega
theorem sg_all {f:Int}{S:List Int}{u v:Int} (h1:u≤f) (h2:f+S.length≤v):sg f S u v=S:=by
 rw [sg,show (u-f).toNat=0 by omega,List.drop_zero,List.take_of_length_le (by omega)]
theorem Cn.inn:∀ {l:List Rn}{f t:Int},Cn f l t→(∀ r∈l,OkR r)→∀ r∈l,f≤r.from_∧r.to_≤t
 | x::l,f,t,h,ho,r,hr=>by
  have hx:=(ho x (List.mem_cons_self ..)).rng
  have ho':=fun y hy=>ho y (List.mem_cons_of_mem x hy)
  have h1:=h.2.le ho'
  have h2:=h.1
  rcases List.mem_cons.1 hr with rfl|hr
  ·omega
  ·have:=h.2.inn ho' r hr
   omega
theorem AgS_sg:∀ {l:List Rn}{f t:Int}{S:List Int},Cn f l t→(∀ r∈l,OkR r)→f+S.length=t→(AgS l S ↔ ∀ y∈l,AgP y (sg f S y.from_ y.to_))
 | [],f,t,S,hC,_,hl=>by
  rw [Cn] at hC
  rw [AgS]
  exact ⟨fun _ y hy=>(by cases hy),fun _=>List.length_eq_zero_iff.1 (by omega)⟩
 | r::l,f,t,S,hC,hO,hl=>by
  have hr:=hO r (List.mem_cons_self ..)
  have hO':=fun y hy=>hO y (List.mem_cons_of_mem r hy)
  have h1:=hr.rng
  have h2:=hC.2.le hO'
  have h3:=hC.1
  have hi:=hC.2.inn hO'
  obtain ⟨A,B,hS,hA⟩:∃ A B,S=A++B∧(A.length:Int)=r.to_-r.from_:=⟨_,_,(List.take_append_drop (r.to_-r.from_).toNat S).symm,by rw [List.length_take];omega⟩
  subst hS
  rw [List.length_append] at hl
  have ih:=AgS_sg (S:=B) hC.2 hO' (by omega)
  have e1:sg f (A++B) r.from_ r.to_=A:=by
   rw [sg_app,sg_all (by omega) (by omega),sg_no (S:=B) (by omega),List.append_nil]
  have e2:∀ y∈l,sg f (A++B) y.from_ y.to_=sg r.to_ B y.from_ y.to_:=fun y hy=>by
   have:=hi y hy
   rw [sg_app,sg_no (S:=A) (by omega),List.nil_append,show f+A.length=r.to_ by omega]
  constructor
  ·rintro ⟨A',B',e,a1,a2⟩
   have a3:=AgP.len hr a1
   obtain ⟨rfl,rfl⟩:=List.append_inj e (by omega)
   intro y hy
   rcases List.mem_cons.1 hy with rfl|hy
   ·rw [e1];exact a1
   ·rw [e2 y hy];exact ih.1 a2 y hy
  ·intro h
   refine ⟨A,B,rfl,by have:=h r (List.mem_cons_self ..);rwa [e1] at this,ih.2 fun y hy=>?_⟩
   have:=h y (List.mem_cons_of_mem _ hy)
   rwa [e2 y hy] at this
theorem last_le:∀ (t:List (Int×Int)) (q:Option (Int×Int)) (d:Int×Int),sortedT q t=true→∀ x∈t,x.1≤(t.getLastD d).1
 | y::t,q,d,h,x,hx=>by
  have h:((match q with|none=>true|some q=>decide (q.1 < y.1)) && sortedT (some y) t)=true:=by cases q<;>exact h
  rw [Bool.and_eq_true] at h
  rw [List.getLastD_cons]
  cases t with
  | nil =>
   rw [List.mem_singleton.1 hx];exact Int.le_refl _
  | cons z t =>
   have ih:=last_le (z::t) (some y) y h.2
   have h2:=(sorted_keys (z::t) (some y) h.2).2 y rfl
   rcases List.mem_cons.1 hx with rfl|hx
   ·have:=ih z (List.mem_cons_self ..)
    have:=h2 z (List.mem_cons_self ..)
    omega
   ·exact ih x hx
theorem mem_tabS {t:List (Int×Int)}{x:Int×Int} (h:x∈t) (h1:1≤x.2):x.1∈tabS t:=by
 rw [tabS,List.mem_flatMap]
 exact ⟨x,h,List.mem_replicate.2 ⟨by omega,rfl⟩⟩
theorem ls_mem {r:Rn} (h:OkR r) (h0:r.tab.length≠0):lstR r∈tabS r.tab∧mstR r∈tabS r.tab:=by
 obtain ⟨o1,_⟩:=oneE_tab h.2 h0
 rw [lstR,mstR,if_neg h0,if_neg h0]
 have hne:r.tab≠[]:=fun e=>h0 (by rw [e];rfl)
 refine ⟨?_,?_⟩
 ·have hm:r.tab.headD (0,0)∈r.tab:=by
   cases ht:r.tab with
   | nil=>exact absurd ht hne
   | cons x t=>exact List.mem_cons_self ..
  exact mem_tabS hm (o1 _ hm).2.1
 ·have hm:r.tab.getLastD (0,0)∈r.tab:=by
   rw [List.getLastD_eq_getLast?,List.getLast?_eq_some_getLast hne]
   exact List.getLast_mem hne
  exact mem_tabS hm (o1 _ hm).2.1
theorem AgP.bnd {r:Rn}{A:List Int} (h:OkR r) (ha:AgP r A):∀ v∈A,lstR r≤v∧v≤mstR r:=by
 intro v hv
 by_cases h0:r.tab.length=0
 ·rw [AgP,if_pos h0] at ha
  rw [lstR,mstR,if_pos h0,if_pos h0];exact ha.2 v hv
 ·obtain ⟨_,o2,_⟩:=oneE_tab h.2 h0
  rw [AgP,if_neg h0] at ha
  obtain ⟨n,hn⟩:=tabS_mem (ha.mem_iff.1 hv)
  rw [lstR,mstR,if_neg h0,if_neg h0]
  refine ⟨?_,last_le _ none _ o2 _ hn⟩
  rw [stg]
  cases ht:r.tab with
  | nil=>exact absurd (by rw [ht];rfl) h0
  | cons x t =>
   rw [ht] at hn o2
   have h2:=(sorted_keys t (some x) (by have:=o2;exact (Bool.and_eq_true ..).mp this |>.2)).2 x rfl
   rcases List.mem_cons.1 hn with e|hn
   ·rw [← e];exact Int.le_refl _
   ·exact Int.le_of_lt (h2 _ hn)
theorem put_at {L:List Int}{v:Int} (hv:v∈L) {p q:Nat} (hq:0 < q) (hp:p < L.length):∃ A:List Int,A.Perm L∧v∈(A.drop p).take q:=by
 have h1:=List.perm_cons_erase hv
 have hl:=h1.length_eq
 rw [List.length_cons] at hl
 refine ⟨(L.erase v).take p++v::(L.erase v).drop p,?_,?_⟩
 ·refine List.perm_middle.trans ?_
  rw [List.take_append_drop];exact h1.symm
 ·rw [List.drop_left' (by rw [List.length_take];omega)]
  obtain ⟨q,rfl⟩:∃ k,q=k+1:=⟨q-1,by omega⟩
  rw [List.take_succ_cons];exact List.mem_cons_self ..
theorem nIn_cons (x y:Int) (l:List Int):nIn x (y::l)=(if y=x then 1 else 0)+nIn x l:=rfl
theorem two_at {L:List Int}{v w:Int} (hv:v∈L) (hw:w∈L) (hvw:w≠v) {p q:Nat} (hq:0 < q) (hpq:p+q≤L.length) (hl:q < L.length):∃ A A':List Int,A.Perm L∧A'.Perm L∧nIn v ((A.drop p).take q)=nIn v ((A'.drop p).take q)+1:=by
 have h1:=List.perm_cons_erase hv
 have h2:=List.perm_cons_erase ((List.mem_erase_of_ne hvw).2 hw)
 obtain ⟨R,hR⟩:∃ R,L.Perm (v::w::R):=⟨_,h1.trans (.cons v h2)⟩
 clear h1 h2
 have hn:=hR.length_eq
 rw [List.length_cons,List.length_cons] at hn
 obtain ⟨q,rfl⟩:∃ k,q=k+1:=⟨q-1,by omega⟩
 cases p with
 | succ p =>
  obtain ⟨R1,R2,R3,rfl,l1,l2⟩:∃ R1 R2 R3,R=R1++(R2++R3)∧R1.length=p∧R2.length=q:=⟨R.take p,(R.drop p).take q,(R.drop p).drop q,by rw [List.take_append_drop,List.take_append_drop],by rw [List.length_take];omega,by rw [List.length_take,List.length_drop];omega⟩
  refine ⟨(w::R1)++((v::R2)++R3),(v::R1)++((w::R2)++R3),?_,?_,?_⟩
  ·refine List.Perm.trans ?_ hR.symm
   refine List.Perm.trans ?_ (List.Perm.swap v w _)
   exact .cons w List.perm_middle
  ·refine List.Perm.trans ?_ hR.symm
   exact .cons v List.perm_middle
  ·rw [List.drop_left' (by rw [List.length_cons,l1]),List.drop_left' (by rw [List.length_cons,l1]),List.take_left' (by rw [List.length_cons,l2]),List.take_left' (by rw [List.length_cons,l2]),nIn_cons,nIn_cons,if_pos rfl,if_neg hvw]
   omega
 | zero =>
  obtain ⟨R2,R3,rfl,l2⟩:∃ R2 R3,R=R2++R3∧R2.length=q:=⟨R.take q,R.drop q,by rw [List.take_append_drop],by rw [List.length_take];omega⟩
  refine ⟨(v::R2)++(w::R3),(w::R2)++(v::R3),?_,?_,?_⟩
  ·refine List.Perm.trans ?_ hR.symm
   exact .cons v List.perm_middle
  ·refine List.Perm.trans ?_ hR.symm
   refine List.Perm.trans ?_ (List.Perm.swap v w _)
   exact .cons w List.perm_middle
  ·rw [List.drop_zero,List.drop_zero,List.take_left' (by rw [List.length_cons,l2]),List.take_left' (by rw [List.length_cons,l2]),nIn_cons,nIn_cons,if_pos rfl,if_neg hvw]
   omega
theorem ov_win {x y:Rn}{A:List Int} (hA:(A.length:Int)=x.to_-x.from_) (hx:x.from_ < x.to_) (h:ovF x y < ovT x y):sg x.from_ A y.from_ y.to_=(A.drop (ovF x y-x.from_).toNat).take (ovT x y-ovF x y).toNat:=by
 rw [ovF,ovT] at *
 rw [sg,show (y.from_-x.from_).toNat=(max x.from_ y.from_-x.from_).toNat by omega]
 by_cases h1:y.to_≤x.to_
 ·congr 1;omega
 ·rw [List.take_of_length_le (by rw [List.length_drop];omega),List.take_of_length_le (by rw [List.length_drop];omega)]
theorem ov_no {x y:Rn}{A:List Int} (hA:(A.length:Int)=x.to_-x.from_) (hx:x.from_ < x.to_) (hy:y.from_ < y.to_) (h:ovT x y≤ovF x y):sg x.from_ A y.from_ y.to_=[]:=by
 rw [ovF,ovT] at h
 exact sg_no (by omega)
theorem nIn_repl (s v:Int):∀ n:Nat,nIn s (List.replicate n v)=if v=s then (n:Int) else 0
 | 0=>by split<;>rfl
 | n+1=>by
  rw [List.replicate_succ,nIn_cons,nIn_repl s v n]
  split<;>omega
theorem cov_term {x y:Rn}{A:List Int} (hx:OkR x) (hy:y.from_ < y.to_) (h0:y.tab.length≠0) (hc:covOk y x=true) (ha:AgP x A) (s:Int) :
  nIn s (sg x.from_ A y.from_ y.to_)=if ovT x y≤ovF x y∨y.tab.length=0 then 0 else if lstR x=mstR x then (if lstR x=s then ovT x y-ovF x y else 0) else cnt s x.tab:=by
 have hl:=AgP.len hx ha
 have hr:=hx.rng
 by_cases h1:ovT x y≤ovF x y
 ·rw [if_pos (.inl h1),ov_no hl hr.2.1 hy h1];rfl
 rw [if_neg fun h=>h.elim h1 h0]
 have h2:ovF x y < ovT x y:=by omega
 by_cases h3:lstR x=mstR x
 ·rw [if_pos h3]
  have e:A=List.replicate A.length (lstR x):=List.eq_replicate_of_mem fun v hv=>by have:=AgP.bnd hx ha v hv;omega
  rw [ov_win hl hr.2.1 h2,e,List.drop_replicate,List.take_replicate,nIn_repl]
  congr 1
  rw [ovF,ovT] at *
  omega
 ·rw [if_neg h3]
  rw [covOk,if_neg h1,if_neg h0,decide_eq_false h3,Bool.false_or,decide_eq_true_eq] at hc
  obtain ⟨c1,c2,c3⟩:=hc
  rw [sg_all (by rw [ovF] at c2;omega) (by rw [ovT] at c3;omega)]
  rw [AgP,if_neg c1] at ha
  rw [nIn_perm ha,tab_cnt hx c1]
theorem sg_cnt {y:Rn} (hy:y.from_ < y.to_) (h0:y.tab.length≠0) (s:Int):∀ {a:List Rn}{f t:Int}{S:List Int},Cn f a t→(∀ r∈a,OkR r)→(∀ x∈a,covOk y x=true)→AgS a S→nIn s (sg f S y.from_ y.to_)=covN y s a
 | [],f,t,S,_,_,_,h=>by
  rw [AgS] at h
  subst h
  rw [sg,List.drop_nil,List.take_nil];rfl
 | x::a,f,t,S,hC,hO,hc,⟨A,B,e,h1,h2⟩=>by
  subst e
  have hx:=hO x (List.mem_cons_self ..)
  have hl:=AgP.len hx h1
  have hf:=hC.1
  have ih:=sg_cnt hy h0 s hC.2 (fun r hr=>hO r (List.mem_cons_of_mem _ hr)) (fun r hr=>hc r (List.mem_cons_of_mem _ hr)) h2
  rw [sg_app,nIn_app,show f+A.length=x.to_ by omega,ih,covN,← cov_term hx hy h0 (hc x (List.mem_cons_self ..)) h1 s,hf]
theorem sg_bnd {y:Rn} (hy:y.from_ < y.to_) (h0:y.tab.length=0):∀ {a:List Rn}{f t:Int}{S:List Int},Cn f a t→(∀ r∈a,OkR r)→(∀ x∈a,covOk y x=true)→AgS a S→∀ v∈sg f S y.from_ y.to_,y.lo≤v∧v≤y.hi
 | [],f,t,S,_,_,_,h,v,hv=>by
  rw [AgS] at h
  subst h
  rw [sg,List.drop_nil,List.take_nil] at hv;cases hv
 | x::a,f,t,S,hC,hO,hc,⟨A,B,e,h1,h2⟩,v,hv=>by
  subst e
  have hx:=hO x (List.mem_cons_self ..)
  have hl:=AgP.len hx h1
  have hf:=hC.1
  have hr:=hx.rng
  rw [sg_app,show f+A.length=x.to_ by omega,← hf] at hv
  rcases List.mem_append.1 hv with hv|hv
  ·by_cases q:ovT x y≤ovF x y
   ·rw [ov_no hl hr.2.1 hy q] at hv;cases hv
   ·have hb:=AgP.bnd hx h1 v (sg_mem hv)
    have:=hc x (List.mem_cons_self ..)
    rw [covOk,if_neg q,if_pos h0,decide_eq_true_eq] at this
    omega
  ·exact sg_bnd hy h0 hC.2 (fun r hr=>hO r (List.mem_cons_of_mem _ hr)) (fun r hr=>hc r (List.mem_cons_of_mem _ hr)) h2 v hv
theorem ag_mid {a1 a2:List Rn}{x:Rn}{f t:Int}{A:List Int} (hC:Cn f (a1++x::a2) t) (hO:∀ r∈a1++x::a2,OkR r) (ha:AgP x A) (u v:Int):AgS (a1++x::a2) (firstS a1++(A++firstS a2))∧sg f (firstS a1++(A++firstS a2)) u v=sg f (firstS a1) u v++(sg x.from_ A u v++sg x.to_ (firstS a2) u v):=by
 obtain ⟨m,c1,c2⟩:=Cn.app.1 hC
 have o1:=fun r hr=>hO r (List.mem_append_left _ hr)
 have o2:=fun r hr=>hO r (List.mem_append_right _ (List.mem_cons_of_mem x hr))
 have hx:=hO x (by simp)
 have hl:=AgP.len hx ha
 have l1:=AgS.len c1 o1 (AgS.first o1)
 have:=c2.1
 refine ⟨AgS_app.2 ⟨_,_,rfl,AgS.first o1,A,_,rfl,ha,AgS.first o2⟩,?_⟩
 rw [sg_app,sg_app,show f+(firstS a1).length=x.from_ by omega,show x.from_+A.length=x.to_ by omega]
theorem nIn_mem1 {v:Int}:∀ {l:List Int},v∈l→1≤nIn v l
 | x::l,h=>by
  have hn:0≤nIn v l:=by rw [nIn_count];omega
  rw [nIn_cons]
  rcases List.mem_cons.1 h with rfl|h
  ·rw [if_pos rfl];omega
  ·have:=nIn_mem1 h
   split<;>omega
theorem cov_iff {a:List Rn}{f t:Int}{y:Rn} (hC:Cn f a t) (hO:∀ r∈a,OkR r) (hy:OkR y) (h1:f≤y.from_) (h2:y.to_≤t):covB a y=true ↔ ∀ S,AgS a S→AgP y (sg f S y.from_ y.to_):=by
 have hyr:=hy.rng
 have hlen:∀ S,AgS a S→(sg f S y.from_ y.to_).length=(y.to_-y.from_).toNat:=fun S hS=>by
  have:=AgS.len hC hO hS
  rw [sg_len];omega
 rw [covB,Bool.and_eq_true,Bool.or_eq_true,decide_eq_true_eq,List.all_eq_true]
 constructor
 ·rintro ⟨c1,c2⟩ S hS
  by_cases h0:y.tab.length=0
  ·rw [AgP,if_pos h0]
   exact ⟨hlen S hS,sg_bnd hyr.2.1 h0 hC hO c1 hS⟩
  ·rw [AgP,if_neg h0,perm_nIn_iff]
   intro s
   rw [tab_cnt hy h0,sg_cnt hyr.2.1 h0 s hC hO c1 hS]
   by_cases hs:0≤s∧s≤1000
   ·have c3:=List.all_eq_true.1 (c2.resolve_left h0) s.toNat (List.mem_range.2 (by omega))
    rw [decide_eq_true_eq,show ((s.toNat:Nat):Int)=s by omega] at c3
    exact c3
   ·rw [← sg_cnt hyr.2.1 h0 s hC hO c1 hS,cnt_no fun hm=>hs ?_,nIn_count,List.count_eq_zero.2 fun hm=>hs (AgS.bd' hO hS s (sg_mem hm))]
    ·rfl
    ·obtain ⟨z,hz,rfl⟩:=List.mem_map.1 hm
     exact ((oneE_tab hy.2 h0).1 z hz).1
 ·intro H
  have hco:∀ x∈a,covOk y x=true:=fun x hxm=>by
   obtain ⟨a1,a2,rfl⟩:=List.append_of_mem hxm
   have hx:=hO x hxm
   have hxr:=hx.rng
   have mid:=fun A (hA:AgP x A)=>ag_mid hC hO hA y.from_ y.to_
   by_cases q:ovT x y≤ovF x y
   ·rw [covOk,if_pos q]
   have q':ovF x y < ovT x y:=by omega
   have q1:x.from_≤ovF x y∧ovT x y≤x.to_:=by rw [ovF,ovT];omega
   rw [covOk,if_neg q]
   by_cases h0:y.tab.length=0
   ·rw [if_pos h0,decide_eq_true_eq]
    have key:∀ A,AgP x A→∀ v∈(A.drop (ovF x y-x.from_).toNat).take (ovT x y-ovF x y).toNat,y.lo≤v∧v≤y.hi:=fun A hA v hv=>by
     obtain ⟨m1,m2⟩:=mid A hA
     have:=H _ m1
     rw [AgP,if_pos h0,m2,ov_win (AgP.len hx hA) hxr.2.1 q'] at this
     exact this.2 v (List.mem_append_right _ (List.mem_append_left _ hv))
    by_cases hg:x.tab.length=0
    ·have gb:=hx.gap hg
     have hrep:∀ z,x.lo≤z→z≤x.hi→AgP x (List.replicate (x.to_-x.from_).toNat z):=fun z z1 z2=>by
      rw [AgP,if_pos hg]
      exact ⟨List.length_replicate,fun v hv=>by rw [List.eq_of_mem_replicate hv];exact ⟨z1,z2⟩⟩
     have hm:∀ z:Int,z∈((List.replicate (x.to_-x.from_).toNat z).drop (ovF x y-x.from_).toNat).take (ovT x y-ovF x y).toNat:=fun z=>by
      rw [List.drop_replicate,List.take_replicate]
      exact List.mem_replicate.2 ⟨by omega,rfl⟩
     rw [lstR,mstR,if_pos hg,if_pos hg]
     exact ⟨(key _ (hrep x.lo (Int.le_refl _) gb.2.1) _ (hm _)).1,(key _ (hrep x.hi gb.2.1 (Int.le_refl _)) _ (hm _)).2⟩
    ·have tl:=AgP.len hx (AgP.first' hx)
     rw [stagesR,if_neg hg] at tl
     have arr:∀ v∈tabS x.tab,y.lo≤v∧v≤y.hi:=fun v hv=>by
      obtain ⟨A,hA,hm⟩:=put_at hv (p:=(ovF x y-x.from_).toNat) (q:=(ovT x y-ovF x y).toNat) (by omega) (by omega)
      exact key A (by rw [AgP,if_neg hg];exact hA) v hm
     exact ⟨(arr _ (ls_mem hx hg).1).1,(arr _ (ls_mem hx hg).2).2⟩
   ·rw [if_neg h0,Bool.or_eq_true,decide_eq_true_eq,decide_eq_true_eq]
    by_cases h3:lstR x=mstR x
    ·exact .inl h3
    right
    have key:∀ A A',AgP x A→AgP x A'→∀ s,nIn s ((A.drop (ovF x y-x.from_).toNat).take (ovT x y-ovF x y).toNat)=nIn s ((A'.drop (ovF x y-x.from_).toNat).take (ovT x y-ovF x y).toNat):=fun A A' hA hA' s=>by
     have e:∀ B,AgP x B→nIn s (sg f (firstS a1) y.from_ y.to_)+(nIn s ((B.drop (ovF x y-x.from_).toNat).take (ovT x y-ovF x y).toNat)+nIn s (sg x.to_ (firstS a2) y.from_ y.to_))=cnt s y.tab:=fun B hB=>by
      obtain ⟨m1,m2⟩:=mid B hB
      have:=H _ m1
      rw [AgP,if_neg h0,m2,ov_win (AgP.len hx hB) hxr.2.1 q',perm_nIn_iff] at this
      have:=this s
      rwa [nIn_app,nIn_app,tab_cnt hy h0] at this
     have e1:=e A hA
     have e2:=e A' hA'
     omega
    by_cases hg:x.tab.length=0
    ·exfalso
     have gb:=hx.gap hg
     rw [lstR,mstR,if_pos hg,if_pos hg] at h3
     obtain ⟨A,hA,hm⟩:=put_at (L:=x.hi::List.replicate ((x.to_-x.from_).toNat-1) x.lo) (v:=x.hi) (List.mem_cons_self ..) (p:=(ovF x y-x.from_).toNat) (q:=(ovT x y-ovF x y).toNat) (by omega) (by rw [List.length_cons,List.length_replicate];omega)
     have a1:AgP x A:=by
      rw [AgP,if_pos hg]
      refine ⟨by rw [hA.length_eq,List.length_cons,List.length_replicate];omega,fun v hv=>?_⟩
      rcases List.mem_cons.1 (hA.mem_iff.1 hv) with rfl|hv
      ·exact ⟨gb.2.1,Int.le_refl _⟩
      ·rw [List.eq_of_mem_replicate hv];exact ⟨Int.le_refl _,gb.2.1⟩
     have a2:=AgP.first' hx
     have:=key A _ a1 a2 x.hi
     rw [stagesR,if_pos hg,List.drop_replicate,List.take_replicate,nIn_repl,if_neg h3] at this
     have:=nIn_mem1 hm
     omega
    ·refine ⟨hg,?_⟩
     refine Decidable.byContradiction fun hno=>?_
     have tl:=AgP.len hx (AgP.first' hx)
     rw [stagesR,if_neg hg] at tl
     obtain ⟨m1,m2⟩:=ls_mem hx hg
     obtain ⟨A,A',p1,p2,p3⟩:=two_at m1 m2 (fun e=>h3 e.symm) (p:=(ovF x y-x.from_).toNat) (q:=(ovT x y-ovF x y).toNat) (by omega) (by omega) (by omega)
     have:=key A A' (by rw [AgP,if_neg hg];exact p1) (by rw [AgP,if_neg hg];exact p2) (lstR x)
     omega
  refine ⟨hco,?_⟩
  by_cases h0:y.tab.length=0
  ·exact .inl h0
  ·right
   rw [List.all_eq_true]
   intro s _
   rw [decide_eq_true_eq]
   have hS:=AgS.first hO
   have:=H _ hS
   rw [AgP,if_neg h0,perm_nIn_iff] at this
   rw [← sg_cnt hyr.2.1 h0 (s:Int) hC hO hco hS,this,tab_cnt hy h0]
theorem finE_iff {a b:List Rn} (ha:runsErr a=0) (hb:runsErr b=0) (a0:a≠[]) (b0:b≠[]):(finE a b).1=true ↔ (headD' a).from_=(headD' b).from_∧(lastD a).to_=(lastD b).to_∧∀ S,AgS a S→AgS b S:=by
 obtain ⟨oA,_,cA⟩:=runs_ok ha
 obtain ⟨oB,_,cB⟩:=runs_ok hb
 obtain ⟨cA,_⟩:=cA a0
 obtain ⟨cB,_⟩:=cB b0
 rw [finE,if_neg (fun e=>e ha),if_neg (fun e=>e hb),if_neg (by rintro (e|e);exact a0 (List.length_eq_zero_iff.1 e);exact b0 (List.length_eq_zero_iff.1 e))]
 by_cases hd:(headD' a).from_≠(headD' b).from_∨(lastD a).to_≠(lastD b).to_
 ·rw [if_pos hd]
  exact ⟨fun h=>(by cases h),fun h=>(hd.elim (fun q=>q h.1) fun q=>q h.2.1).elim⟩
 ·rw [if_neg hd]
  have e1:(headD' a).from_=(headD' b).from_:=Decidable.byContradiction fun q=>hd (.inl q)
  have e2:(lastD a).to_=(lastD b).to_:=Decidable.byContradiction fun q=>hd (.inr q)
  show b.all (covB a)=true ↔ _
  rw [List.all_eq_true]
  have hin:=cB.inn oB
  have key:∀ S,AgS a S→(AgS b S ↔ ∀ y∈b,AgP y (sg (headD' a).from_ S y.from_ y.to_)):=fun S hS=>by
   have:=AgS.len cA oA hS
   rw [e1]
   exact AgS_sg cB oB (by omega)
  constructor
  ·exact fun h=>⟨e1,e2,fun S hS=>(key S hS).2 fun y hy=>(cov_iff cA oA (oB y hy) (by have:=hin y hy;omega) (by have:=hin y hy;omega)).1 (h y hy) S hS⟩
  ·exact fun h y hy=>(cov_iff cA oA (oB y hy) (by have:=hin y hy;omega) (by have:=hin y hy;omega)).2 fun S hS=>(key S hS).1 (h.2.2 S hS) y hy
end Go.Proofs.YtcdgibkbbcekhaaDoor
/-
 Plain: summaries of the parts of a history.
-/
namespace Go.Proofs.YtcdgibkbbcekhaaDoor
open Go.RowKit Go.Sl Go.Num
def Sd (f:Int) (hs:List Int) (S:List Rn):Prop:=∃ X,Ds f hs X∧S.map rbare=(sumE X).1.map rbare
theorem Sd.ds {f:Int}{hs:List Int}{S:List Rn} (h:Sd f hs S) (hn:hs.length≤2000):Ds f hs S:=by
 obtain ⟨X,h1,h2⟩:=h
 exact (h1.sum hn).2.eqB h2
theorem cn_in:∀ {l:List Rn}{f t:Int},Cn f l t→(∀ r∈l,OkR r)→∀ r∈l,f≤r.from_∧r.to_≤t
 | x::l,f,t,h,ho,r,hr=>by
  have hx:=(ho x (List.mem_cons_self ..)).rng
  have ho':=fun y hy=>ho y (List.mem_cons_of_mem x hy)
  have h1:=h.2.le ho'
  have h2:=h.1
  rcases List.mem_cons.1 hr with rfl|hr
  ·omega
  ·have:=cn_in h.2 ho' r hr
   omega
theorem sumT_ge:∀ t:List (Int×Int),(∀ x∈t,1≤x.2)→(t.length:Int)≤sumT t
 | [],_=>Int.le_refl _
 | x::t,h=>by
  have h1:=sumT_ge t fun y hy=>h y (List.mem_cons_of_mem x hy)
  have h2:=h x (List.mem_cons_self ..)
  rw [sumT,List.length_cons];omega
theorem OkR.tlen {r:Rn} (h:OkR r):(r.tab.length:Int)≤r.to_-r.from_:=by
 have hr:=h.rng
 by_cases h0:r.tab.length=0
 ·omega
 ·obtain ⟨h2,_,h4,_⟩:=oneE_tab h.2 h0
  have:=sumT_ge r.tab fun x hx=>(h2 x hx).2.1
  omega
theorem Ds.bd {f:Int}{hs:List Int}{l:List Rn} (h:Ds f hs l):l.length≤hs.length∧∀ r∈l,r.tab.length≤hs.length:=by
 have h1:=h.cn.le h.ok
 refine ⟨by omega,fun r hr=>?_⟩
 have h2:=cn_in h.cn h.ok r hr
 have h3:=(h.ok r hr).tlen
 omega
end Go.Proofs.YtcdgibkbbcekhaaDoor
