/-
  Contracts of the specification of runs: joined, Join.
-/
import Derived.Test.YtcdgibkbbcekhaaGreatDoorRA15
set_option linter.unusedVariables false
set_option linter.unusedSimpArgs false
set_option linter.unusedSectionVars false
namespace Go.Proofs.YtcdgibkbbcekhaaGreatDoor
open Go.RowKit Go.Sl Go.Num
theorem rJoined_holds (a:Option Addr) (l:List Rn) (c:Nat) (f t:Int) (w:World) (hA:RunsAt w a l) (hC:Cn f l t) (hO:∀ r∈l,OkR r) (hl:l.length≤100000) :
  Calls Tryz.prog 104 #[.slice a l.length c] w (RetU l (fun L=>L.map rbare=joinL (l.map rbare)) (fun a' n c'=>.slice a' n c') w):=by
 refine enterA [(0,.slice a l.length c)] Tryz.func104 Tryz.ntmps104 ?_
 all_goals (refine go ?_;and_intros<;>(try exact trivial)<;>repeat (first|refine fun (Bk:Nat)=>?_|intro h))
 apply J.nilOwn (E:=90) (size:=5)
 refine J.tfamOld hA ?_
 apply J.fam0 Rn.adr 2 (fun r=>r.tab.map hoV)
 refine J.loop (c:=_) ((0,none,0,[]):Nat×Option Addr×Nat×List Rn) (fun s=>l.length-s.1) (fun s=>[(0,.slice a l.length c),(3,.slice s.2.1 s.2.2.2.length s.2.2.1),(4,.int .i64 s.1)]) (fun s=>[tfam w.heap.size s.2.2.2,tfam w.heap.size l,.own 0 (.slice s.2.1 s.2.2.2.length s.2.2.1) 90 5 s.2.2.2.length (flat rnV s.2.2.2)]) (fun s=>JnAt l s.1 s.2.2.2∧srcR w.heap.size l s.2.2.2) ?_ sbT sbL ?_
 ·exact ⟨⟨Nat.zero_le _,rfl⟩,srcR.nil⟩
 intro ⟨n,au,cu,o⟩ ⟨h1,h2⟩ ih
 dsimp only at h1 h2 ⊢
 have hlen:=h1.len
 by_cases hn:n < l.length
 ·obtain ⟨ba,oa,rfl,hra⟩:=SlAt.all hA.1 (by omega)
  have hrn:=hra n hn
  have hmem:=List.getElem_mem hn
  obtain ⟨ho1,ho2⟩:=h1.ok hC hO hn
  have hxo:=(hO _ hmem).rng
  have ih1:=fun (o':List Rn) a' c' (q:o'.map rbare=putL (o.map rbare) (rbare l[n])) (q2:srcR w.heap.size l o')=>ih (n+1,a',c',o') ⟨h1.step hn q,q2⟩ (by dsimp only;omega)
  dsimp only at ih1
  have hpu:=fun M w' hw'=>put_holds w w' M au cu o l l[n] hw' hmem (by omega) (fun r hr=>by have:=(ho1 r hr).rng;omega) (by omega)
  clear ih hra h1 hA hC hO ho1 ho2
  generalize l[n]=x at *
  obtain ⟨xf,xt,tab,adr,cap,lo,hi⟩:=x
  dsimp only [rnV,rnA] at *
  all_goals (refine go ?_;and_intros<;>(try exact trivial)<;>repeat (first|refine fun (Bk:Nat)=>?_|intro h))
  repeat' ((first|(refine G.cP (g:=86) (X:={ y:List Rn×Option Addr×Nat // y.1.map rbare=putL (o.map rbare) (rbare ⟨xf,xt,tab,adr,cap,lo,hi⟩)∧srcR w.heap.size (o++l) y.1 }) (fun y=>.slice y.1.2.1 y.1.1.length y.1.2.2) [.own 0 (.slice au o.length cu) 90 5 o.length (flat rnV o),tfam w.heap.size o,tfam w.heap.size l] (fun y=>[.own 0 (.slice y.1.2.1 y.1.1.length y.1.2.2) 90 5 y.1.1.length (flat rnV y.1.1),tfam w.heap.size y.1.1,tfam w.heap.size l]) rfl rfl (by (repeat (first|exact List.Perm.refl _|(refine pickT (by (repeat (first|exact Pick.head|apply Pick.tail))) ?_)))) (fun w' hw'=>hpu _ w' hw') ?_;rintro ⟨⟨o2,a2,c2⟩,ho2,ho3⟩;dsimp only at ho2 ho3 ⊢))<;>(refine go ?_;and_intros<;>(try exact trivial)<;>repeat (first|refine fun (Bk:Nat)=>?_|intro h)))
  exact J.finS (ih1 o2 a2 c2 ho2 (ho3.comp (h2.app (srcR.self fun _ h=>h))))
 ·obtain rfl:n=l.length:=by have:=h1.le;omega
  have h3:=h1.eq
  rw [List.take_length] at h3
  clear ih
  all_goals (refine go ?_;and_intros<;>(try exact trivial)<;>repeat (first|refine fun (Bk:Nat)=>?_|intro h))
  refine ret1 Tryz.func104 Tryz.results104 ?_
  exact fun w' hw'=>Sat.retU (fun a' n c'=>.slice a' n c') hw' h3 rfl h2
theorem own5R {w0 w:World}{M:List Row}{N n c:Nat}{a:Option Addr}{L:List Rn} (hw:Sat w0 M w) (hn:L.length=n) (h1:Row.own 0 (.slice a n c) 90 5 n (flat rnV L)∈M:=by (repeat (first|exact List.Mem.head _|apply List.Mem.tail))) (h2:tfam N L∈M:=by (repeat (first|exact List.Mem.head _|apply List.Mem.tail))):RunsAt w a L:=⟨SlAt.ofOwn rnV_len (hw.hold _ h1) hn,fun r hr=>hw.fam h2 r hr⟩
set_option maxHeartbeats 4000000 in
theorem rJoin_holds (a:Option Addr) (la:List Rn) (ca:Nat) (b:Option Addr) (lb:List Rn) (cb:Nat) (w:World) (hA:RunsAt w a la) (hB:RunsAt w b lb) (hta:∀ r∈la,r.tab.length≤64) (htb:∀ r∈lb,r.tab.length≤64) (hla:la.length≤400) (hlb:lb.length≤400) :
  Calls Tryz.prog 38 #[.slice a la.length ca,.slice b lb.length cb] w (RetU (la++lb) (fun L=>L.map rbare=(joinE la lb).1.map rbare) (fun a' n c'=>.agg #[.slice a' n c',.int .i64 (joinE la lb).2]) w):=by
 have hca:=fun w' (hb:Below w.heap.size w w')=>rRuns_holds a la ca w' (hA.below hb) hta
 have hcb:=fun w' (hb:Below w.heap.size w w')=>rRuns_holds b lb cb w' (hB.below hb) htb
 by_cases hEa:runsErr la=0
 case neg =>
  have hJ:joinE la lb=([],runsErr la):=by rw [joinE,if_pos hEa]
  rw [hJ]
  generalize runsErr la=E at *
  refine enterA [(0,.slice a la.length ca),(1,.slice b lb.length cb)] Tryz.func38 Tryz.ntmps38 ?_
  all_goals (refine go ?_;and_intros<;>(try exact trivial)<;>repeat (first|refine fun (Bk:Nat)=>?_|intro h))
  repeat' ((first|(apply G.cV (g:=28) (d:=8);rfl;rfl;exact fun w' hw'=>hca w' hw'.below))<;>(refine go ?_;and_intros<;>(try exact trivial)<;>repeat (first|refine fun (Bk:Nat)=>?_|intro h)))
  all_goals refine ret1 Tryz.func38 Tryz.results38 ?_
  all_goals exact fun w' hw'=>RetU.nil (fun a' n c'=>.agg #[.slice a' n c',.int .i64 E]) hw'.below rfl
 by_cases hEb:runsErr lb=0
 case neg =>
  have hJ:joinE la lb=([],runsErr lb):=by rw [joinE,if_neg (by rw [hEa];decide),if_pos hEb]
  rw [hJ]
  rw [hEa] at hca
  generalize runsErr lb=E at *
  refine enterA [(0,.slice a la.length ca),(1,.slice b lb.length cb)] Tryz.func38 Tryz.ntmps38 ?_
  all_goals (refine go ?_;and_intros<;>(try exact trivial)<;>repeat (first|refine fun (Bk:Nat)=>?_|intro h))
  repeat' ((first|(apply G.cV (g:=28) (d:=8);rfl;rfl;exact fun w' hw'=>hca w' hw'.below)|(apply G.cV (g:=28) (d:=12);rfl;rfl;exact fun w' hw'=>hcb w' hw'.below))<;>(refine go ?_;and_intros<;>(try exact trivial)<;>repeat (first|refine fun (Bk:Nat)=>?_|intro h)))
  all_goals refine ret1 Tryz.func38 Tryz.results38 ?_
  all_goals exact fun w' hw'=>RetU.nil (fun a' n c'=>.agg #[.slice a' n c',.int .i64 E]) hw'.below rfl
 rw [hEa] at hca
 rw [hEb] at hcb
 obtain ⟨oa',_,ca3⟩:=runs_ok hEa
 obtain ⟨ob',_,cb3⟩:=runs_ok hEb
 have hap:flat rnV la++flat rnV lb=flat rnV (la++lb):=(flat_append ..).symm
 have hlab:(la++lb).length=0+la.length+lb.length:=by rw [List.length_append];omega
 have hjn:(joinL ((la++lb).map rbare)).length≤800:=by
  have:=joinL_len ((la++lb).map rbare)
  rw [List.length_map,hlab] at this;omega
 have hbig:¬ 2000 < (joinL (la++lb)).length:=by
  have:=joinL_len (la++lb)
  rw [List.length_append] at this;omega
 have hP:∀ L:List Rn,L.map rbare=joinL ((la++lb).map rbare)→L.map rbare=(joinL (la++lb)).map rbare:=fun L h=>by rw [h,joinL_bare]
 have hOk:∀ r∈la++lb,OkR r:=fun r hr=>(List.mem_append.1 hr).elim (oa' r) (ob' r)
 have hjd:=fun f t hC w' (a2:Option Addr) c2 hR=>rJoined_holds a2 (la++lb) c2 f t w' hR hC hOk (by omega)
 rw [hlab] at hjd
 by_cases h0a:la.length=0
 ·have hJ:joinE la lb=(joinL (la++lb),0):=by
   rw [joinE,if_neg (by rw [hEa];decide),if_neg (by rw [hEb];decide),if_neg (fun h=>h.1 h0a),if_neg (fun h=>h.1 h0a),if_neg hbig]
  obtain ⟨f,t,hC⟩:∃ f t,Cn f (la++lb) t:=by
   obtain rfl:=List.length_eq_zero_iff.1 h0a
   by_cases h0b:lb=[]
   ·subst h0b;exact ⟨0,0,rfl⟩
   ·exact ⟨_,_,(cb3 h0b).1⟩
  rw [hJ]
  refine enterA [(0,.slice _ la.length ca),(1,.slice _ lb.length cb)] Tryz.func38 Tryz.ntmps38 ?_
  refine J.tfamOld hA ?_
  refine J.tfamOld hB ?_
  refine J.tfamTo (o:=la) (l:=lb) (la++lb) (by exact mm) (by exact mm) (fun r hr=>List.mem_append.1 hr) ?_
  change J _ _ (tfam w.heap.size (la++lb)::_) _
  all_goals (refine go ?_;and_intros<;>(try exact trivial)<;>repeat (first|refine fun (Bk:Nat)=>?_|intro h))
  repeat' ((first|(apply G.cV (g:=28) (d:=8);rfl;rfl;exact fun w' hw'=>hca w' hw'.below)|(apply G.cV (g:=28) (d:=12);rfl;rfl;exact fun w' hw'=>hcb w' hw'.below)|(apply G.slE;rfl;intro Be)|(apply G.apV;rfl;rfl;rfl;(repeat (first|exact RAt.head|apply RAt.tail));exact SrcV.old rnV_len rnV_one hA.1;exact List.nil_append _;omega;omega;intro a2 c2)|(apply G.apV;rfl;rfl;rfl;(repeat (first|exact RAt.head|apply RAt.tail));exact SrcV.old rnV_len rnV_one hB.1;exact hap;omega;omega;intro a2 c2)|(refine G.cU (g:=104) (fun a' n c'=>.slice a' n c') (fun L=>L.map rbare=joinL ((la++lb).map rbare)) (la++lb) (.inr mm) rfl rfl (fun w' hw'=>hjd f t hC w' _ _ (own5R (N:=w.heap.size) hw' hlab)) ?_;intro L a3 c3 hL ⟨hL1,hL2⟩ hL3;have hLl:L.length≤800:=by rw [← List.length_map (f:=rbare),hL];exact hjn)|fail)<;>(refine go ?_;and_intros<;>(try exact trivial)<;>repeat (first|refine fun (Bk:Nat)=>?_|intro h)))
  refine ret1 Tryz.func38 Tryz.results38 ?_
  exact fun w' hw'=>Sat.retS (fun a' n c'=>.agg #[.slice a' n c',.int .i64 0]) hw' (hP L hL) rfl hL2 hL3
 by_cases h0b:lb.length=0
 ·have hJ:joinE la lb=(joinL (la++lb),0):=by
   rw [joinE,if_neg (by rw [hEa];decide),if_neg (by rw [hEb];decide),if_neg (fun h=>h.2.1 h0b),if_neg (fun h=>h.2.1 h0b),if_neg hbig]
  obtain ⟨f,t,hC⟩:∃ f t,Cn f (la++lb) t:=by
   obtain rfl:=List.length_eq_zero_iff.1 h0b
   rw [List.append_nil]
   exact ⟨_,_,(ca3 (fun e=>h0a (by rw [e];rfl))).1⟩
  rw [hJ]
  refine enterA [(0,.slice _ la.length ca),(1,.slice _ lb.length cb)] Tryz.func38 Tryz.ntmps38 ?_
  refine J.tfamOld hA ?_
  refine J.tfamOld hB ?_
  refine J.tfamTo (o:=la) (l:=lb) (la++lb) (by exact mm) (by exact mm) (fun r hr=>List.mem_append.1 hr) ?_
  change J _ _ (tfam w.heap.size (la++lb)::_) _
  all_goals (refine go ?_;and_intros<;>(try exact trivial)<;>repeat (first|refine fun (Bk:Nat)=>?_|intro h))
  repeat' ((first|(apply G.cV (g:=28) (d:=8);rfl;rfl;exact fun w' hw'=>hca w' hw'.below)|(apply G.cV (g:=28) (d:=12);rfl;rfl;exact fun w' hw'=>hcb w' hw'.below)|(apply G.slE;rfl;intro Be)|(apply G.apV;rfl;rfl;rfl;(repeat (first|exact RAt.head|apply RAt.tail));exact SrcV.old rnV_len rnV_one hA.1;exact List.nil_append _;omega;omega;intro a2 c2)|(apply G.apV;rfl;rfl;rfl;(repeat (first|exact RAt.head|apply RAt.tail));exact SrcV.old rnV_len rnV_one hB.1;exact hap;omega;omega;intro a2 c2)|(refine G.cU (g:=104) (fun a' n c'=>.slice a' n c') (fun L=>L.map rbare=joinL ((la++lb).map rbare)) (la++lb) (.inr mm) rfl rfl (fun w' hw'=>hjd f t hC w' _ _ (own5R (N:=w.heap.size) hw' hlab)) ?_;intro L a3 c3 hL ⟨hL1,hL2⟩ hL3;have hLl:L.length≤800:=by rw [← List.length_map (f:=rbare),hL];exact hjn)|fail)<;>(refine go ?_;and_intros<;>(try exact trivial)<;>repeat (first|refine fun (Bk:Nat)=>?_|intro h)))
  refine ret1 Tryz.func38 Tryz.results38 ?_
  exact fun w' hw'=>Sat.retS (fun a' n c'=>.agg #[.slice a' n c',.int .i64 0]) hw' (hP L hL) rfl hL2 hL3
 obtain ⟨ba,oa,rfl,hra⟩:=SlAt.all hA.1 (by omega)
 obtain ⟨bb,ob,rfl,hrb⟩:=SlAt.all hB.1 (by omega)
 have ra0:=hra 0 (by omega)
 have ra1:=hra (la.length-1) (by omega)
 have rb0:=hrb 0 (by omega)
 have rb1:=hrb (lb.length-1) (by omega)
 have hza:(la.length:Int)-1=((la.length-1:Nat):Int):=by omega
 have hzb:(lb.length:Int)-1=((lb.length-1:Nat):Int):=by omega
 have g1:=ca3 (fun e=>h0a (by rw [e];rfl))
 have g2:=cb3 (fun e=>h0b (by rw [e];rfl))
 have i1:=(oa' _ (List.getElem_mem (l:=la) (n:=0) (by omega))).rng
 have i2:=(oa' _ (List.getElem_mem (l:=la) (n:=la.length-1) (by omega))).rng
 have i3:=(ob' _ (List.getElem_mem (l:=lb) (n:=0) (by omega))).rng
 have i4:=(ob' _ (List.getElem_mem (l:=lb) (n:=lb.length-1) (by omega))).rng
 have hJ0:joinE la lb=if (lastD la).to_≠(headD' lb).from_ then ([],1) else if 40000 < (lastD lb).to_-(headD' la).from_ then ([],2) else (joinL (la++lb),0):=by
  rw [joinE,if_neg (by rw [hEa];decide),if_neg (by rw [hEb];decide),if_neg hbig]
  by_cases h1:(lastD la).to_≠(headD' lb).from_
  ·rw [if_pos ⟨h0a,h0b,h1⟩,if_pos h1]
  ·rw [if_neg (fun h=>h1 h.2.2),if_neg h1]
   by_cases h2:40000 < (lastD lb).to_-(headD' la).from_
   ·rw [if_pos ⟨h0a,h0b,h2⟩,if_pos h2]
   ·rw [if_neg (fun h=>h2 h.2.2),if_neg h2]
 rw [lastD_at (by omega),headD_at (by omega),lastD_at (l:=lb) (by omega),headD_at (l:=la) (by omega)] at hJ0
 rw [lastD_at (by omega),headD_at (by omega)] at g1 g2
 clear hra hrb ca3 cb3 hEa hEb hbig
 generalize la[0]=x1 at *
 generalize la[la.length-1]=x2 at *
 generalize lb[0]=x3 at *
 generalize lb[lb.length-1]=x4 at *
 obtain ⟨f1,t1,tb1,ad1,cp1,lo1,hi1⟩:=x1
 obtain ⟨f2,t2,tb2,ad2,cp2,lo2,hi2⟩:=x2
 obtain ⟨f3,t3,tb3,ad3,cp3,lo3,hi3⟩:=x3
 obtain ⟨f4,t4,tb4,ad4,cp4,lo4,hi4⟩:=x4
 dsimp only at g1 g2 hJ0 i1 i2 i3 i4
 dsimp only [rnV] at ra0 ra1 rb0 rb1
 by_cases h1:t2≠f3
 ·rw [if_pos h1] at hJ0
  rw [hJ0]
  refine enterA [(0,.slice _ la.length ca),(1,.slice _ lb.length cb)] Tryz.func38 Tryz.ntmps38 ?_
  refine J.tfamOld hA ?_
  refine J.tfamOld hB ?_
  refine J.tfamTo (o:=la) (l:=lb) (la++lb) (by exact mm) (by exact mm) (fun r hr=>List.mem_append.1 hr) ?_
  change J _ _ (tfam w.heap.size (la++lb)::_) _
  all_goals (refine go ?_;and_intros<;>(try exact trivial)<;>repeat (first|refine fun (Bk:Nat)=>?_|intro h))
  repeat' ((first|(apply G.cV (g:=28) (d:=8);rfl;rfl;exact fun w' hw'=>hca w' hw'.below)|(apply G.cV (g:=28) (d:=12);rfl;rfl;exact fun w' hw'=>hcb w' hw'.below)|(apply G.ix (i:=la.length-1);rfl;rfl;exact hza;omega;rfl)|(apply G.ix (i:=lb.length-1);rfl;rfl;exact hzb;omega;rfl)|(apply G.ix (i:=0);rfl;rfl;exact rfl;omega;rfl))<;>(refine go ?_;and_intros<;>(try exact trivial)<;>repeat (first|refine fun (Bk:Nat)=>?_|intro h)))
  all_goals refine ret1 Tryz.func38 Tryz.results38 ?_
  all_goals exact fun w' hw'=>RetU.nil (fun a' n c'=>.agg #[.slice a' n c',.int .i64 1]) hw'.below rfl
 rw [if_neg h1] at hJ0
 rw [Decidable.not_not] at h1
 by_cases h2:40000 < t4-f1
 ·rw [if_pos h2] at hJ0
  rw [hJ0]
  refine enterA [(0,.slice _ la.length ca),(1,.slice _ lb.length cb)] Tryz.func38 Tryz.ntmps38 ?_
  refine J.tfamOld hA ?_
  refine J.tfamOld hB ?_
  refine J.tfamTo (o:=la) (l:=lb) (la++lb) (by exact mm) (by exact mm) (fun r hr=>List.mem_append.1 hr) ?_
  change J _ _ (tfam w.heap.size (la++lb)::_) _
  all_goals (refine go ?_;and_intros<;>(try exact trivial)<;>repeat (first|refine fun (Bk:Nat)=>?_|intro h))
  repeat' ((first|(apply G.cV (g:=28) (d:=8);rfl;rfl;exact fun w' hw'=>hca w' hw'.below)|(apply G.cV (g:=28) (d:=12);rfl;rfl;exact fun w' hw'=>hcb w' hw'.below)|(apply G.ix (i:=la.length-1);rfl;rfl;exact hza;omega;rfl)|(apply G.ix (i:=lb.length-1);rfl;rfl;exact hzb;omega;rfl)|(apply G.ix (i:=0);rfl;rfl;exact rfl;omega;rfl))<;>(refine go ?_;and_intros<;>(try exact trivial)<;>repeat (first|refine fun (Bk:Nat)=>?_|intro h)))
  all_goals refine ret1 Tryz.func38 Tryz.results38 ?_
  all_goals exact fun w' hw'=>RetU.nil (fun a' n c'=>.agg #[.slice a' n c',.int .i64 2]) hw'.below rfl
 rw [if_neg h2] at hJ0
 rw [hJ0]
 obtain ⟨f,t,hC⟩:∃ f t,Cn f (la++lb) t:=⟨f1,t4,Cn.app.2 ⟨t2,g1.1,h1 ▸ g2.1⟩⟩
 refine enterA [(0,.slice _ la.length ca),(1,.slice _ lb.length cb)] Tryz.func38 Tryz.ntmps38 ?_
 refine J.tfamOld hA ?_
 refine J.tfamOld hB ?_
 refine J.tfamTo (o:=la) (l:=lb) (la++lb) (by exact mm) (by exact mm) (fun r hr=>List.mem_append.1 hr) ?_
 change J _ _ (tfam w.heap.size (la++lb)::_) _
 all_goals (refine go ?_;and_intros<;>(try exact trivial)<;>repeat (first|refine fun (Bk:Nat)=>?_|intro h))
 repeat' ((first|(apply G.cV (g:=28) (d:=8);rfl;rfl;exact fun w' hw'=>hca w' hw'.below)|(apply G.cV (g:=28) (d:=12);rfl;rfl;exact fun w' hw'=>hcb w' hw'.below)|(apply G.slE;rfl;intro Be)|(apply G.apV;rfl;rfl;rfl;(repeat (first|exact RAt.head|apply RAt.tail));exact SrcV.old rnV_len rnV_one hA.1;exact List.nil_append _;omega;omega;intro a2 c2)|(apply G.apV;rfl;rfl;rfl;(repeat (first|exact RAt.head|apply RAt.tail));exact SrcV.old rnV_len rnV_one hB.1;exact hap;omega;omega;intro a2 c2)|(refine G.cU (g:=104) (fun a' n c'=>.slice a' n c') (fun L=>L.map rbare=joinL ((la++lb).map rbare)) (la++lb) (.inr mm) rfl rfl (fun w' hw'=>hjd f t hC w' _ _ (own5R (N:=w.heap.size) hw' hlab)) ?_;intro L a3 c3 hL ⟨hL1,hL2⟩ hL3;have hLl:L.length≤800:=by rw [← List.length_map (f:=rbare),hL];exact hjn)|(apply G.ix (i:=la.length-1);rfl;rfl;exact hza;omega;rfl)|(apply G.ix (i:=lb.length-1);rfl;rfl;exact hzb;omega;rfl)|(apply G.ix (i:=0);rfl;rfl;exact rfl;omega;rfl))<;>(refine go ?_;and_intros<;>(try exact trivial)<;>repeat (first|refine fun (Bk:Nat)=>?_|intro h)))
 refine ret1 Tryz.func38 Tryz.results38 ?_
 exact fun w' hw'=>Sat.retS (fun a' n c'=>.agg #[.slice a' n c',.int .i64 0]) hw' (hP L hL) rfl hL2 hL3
end Go.Proofs.YtcdgibkbbcekhaaGreatDoor
