/-
  Contracts of the specification of runs: factorial, Count.
-/
import Derived.Test.YtcdgibkbbcekhaaGreatDoorRA18
set_option linter.unusedVariables false
set_option linter.unusedSimpArgs false
set_option linter.unusedSectionVars false
namespace Go.Proofs.YtcdgibkbbcekhaaGreatDoor
open Go.RowKit Go.Sl Go.Num
theorem rmul_v {x y:Nat} (hx:(nB x).length≤536870000) (hy:(nB y).length≤536870000) (w:World):Calls Tryz.prog 89 #[.string (bs (nB x)),.string (bs (nB y))] w fun e w'=>e=.returned (.string (bs (nB (x*y))))∧Below w.heap.size w w':=by
 have h:=rMul_holds (nB x) (nB y) w (by omega) (by omega)
 rwa [vB_nB,vB_nB] at h
theorem rdiv_v {x y:Nat} (hx:(nB x).length≤536870000) (hy:(nB y).length≤536870000) (h0:y≠0) (w:World):Calls Tryz.prog 91 #[.string (bs (nB x)),.string (bs (nB y))] w fun e w'=>e=.returned (.agg #[.string (bs (nB (x / y))),.string (bs (nB (x % y))),.int .i64 0])∧Below w.heap.size w w':=by
 have h:=rDivMod_holds (nB x) (nB y) w (by omega) (by omega) (by rw [vB_nB];exact h0)
 rwa [vB_nB,vB_nB] at h
theorem fct_len:∀ n,n < 65536→(nB (fct n)).length≤2*n+1
 | 0,_=>by have:=nB_small (n:=1) (by decide);rw [fct];rw [nB_one];decide
 | n+1,h=>by
  have h1:=nB_mul (nB_small (n:=n+1) (by omega)) (fct_len n (by omega))
  rw [fct];omega
theorem rFct_holds (n:Nat) (w:World) (h:n≤60000):Calls Tryz.prog 90 #[.int .i64 n] w fun e w'=>e=.returned (.string (bs (nB (fct n))))∧Below w.heap.size w w':=by
 have h1:∀ w',Calls Tryz.prog 88 #[.int .i64 1] w' fun e w2=>e=.returned (.agg #[.string (bs (nB 1)),.int .i64 0])∧Below w'.heap.size w' w2:=fun w'=>rInt_holds 1 w' (by decide)
 generalize hT:fct n=T
 refine enterA [(0,.int .i64 n)] Tryz.func90 Tryz.ntmps90 ?_
 all_goals (refine go ?_;and_intros<;>(try exact trivial)<;>repeat (first|refine fun (Bk:Nat)=>?_|intro h))
 repeat' ((first|(apply G.cV (g:=88);rfl;rfl;exact fun w' _=>h1 w'))<;>(refine go ?_;and_intros<;>(try exact trivial)<;>repeat (first|refine fun (Bk:Nat)=>?_|intro h)))
 clear h1
 refine J.loop (c:=_) ((0,1):Nat×Nat) (fun s=>n-s.1) (fun s=>[(0,.int .i64 n),(3,.string (bs (nB s.2))),(4,.int .i64 ((s.1:Int)+2))]) (fun s=>[]) (fun s=>s.2=fct (s.1+1)∧(s.1+1≤n∨(n=0∧s.1=0))) ?_ sbT sbL ?_
 ·refine ⟨rfl,?_⟩
  rcases Nat.eq_zero_or_pos n with h0|h0
  ·exact .inr ⟨h0,rfl⟩
  ·exact .inl h0
 intro ⟨k,v⟩ ⟨q1,q2⟩ ih
 dsimp only at q1 q2 ⊢
 by_cases hk:k+2≤n
 ·have e1:v*(k+2)=fct (k+1+1):=by rw [q1,fct.eq_2 (k+1),Nat.mul_comm]
  have l1:=fct_len (k+1) (by omega)
  rw [← q1] at l1
  have l2:=nB_small (n:=k+2) (by omega)
  have hml:=fun w'=>rmul_v (x:=v) (y:=k+2) (by omega) (by omega) w'
  have hin:∀ w',Calls Tryz.prog 88 #[.int .i64 ((k:Int)+2)] w' fun e w2=>e=.returned (.agg #[.string (bs (nB (k+2))),.int .i64 0])∧Below w'.heap.size w' w2:=fun w'=>by
   have h:=rInt_holds (k+2) w' (by omega)
   rwa [show ((k+2:Nat):Int)=(k:Int)+2 by omega] at h
  have ih:=ih (k+1,v*(k+2)) ⟨e1,by dsimp only;omega⟩ (by dsimp only;omega)
  dsimp only at ih
  rw [show ((k+1:Nat):Int)+2=(k:Int)+2+1 by omega] at ih
  clear e1 l1 l2 q1
  generalize nB (v*(k+2))=B1 at *
  generalize nB (k+2)=B2 at *
  generalize nB v=B3 at *
  all_goals (refine go ?_;and_intros<;>(try exact trivial)<;>repeat (first|refine fun (Bk:Nat)=>?_|intro h))
  repeat' ((first|(apply G.cV (g:=88);rfl;rfl;exact fun w' _=>hin w')|(apply G.cV (g:=89);rfl;rfl;exact fun w' _=>hml w'))<;>(refine go ?_;and_intros<;>(try exact trivial)<;>repeat (first|refine fun (Bk:Nat)=>?_|intro h)))
  exact J.fin ih
 ·have e1:v=T:=by
   rw [q1,← hT]
   rcases q2 with h2|⟨h2,h3⟩
   ·rw [show n=k+1 by omega]
   ·rw [h2,h3];rfl
  subst e1
  clear ih q1 hT
  all_goals (refine go ?_;and_intros<;>(try exact trivial)<;>repeat (first|refine fun (Bk:Nat)=>?_|intro h))
  all_goals refine ret1b Tryz.func90 Tryz.results90 ?_
  all_goals rfl
def prd:List (Int×Int)→Nat
 | []=>1
 | (_,c)::r=>fct c.toNat*prd r
theorem mnl_prd:∀ (t:List (Int×Int)) (m n:Nat),(∀ x∈t,1≤x.2)→(m:Int)+sumT t=n→mnl m t*prd t*fct m=fct n
 | [],m,n,_,h=>by rw [sumT] at h;rw [mnl,prd,show m=n by omega,Nat.one_mul]
 | (s,c)::r,m,n,hp,h=>by
  have hc:=hp (s,c) (List.mem_cons_self ..)
  have ih:=mnl_prd r (m+c.toNat) n (fun x hx=>hp x (List.mem_cons_of_mem _ hx)) (by rw [sumT] at h;dsimp only at h hc;omega)
  rw [← ih,← chs_fct m c.toNat,mnl,prd]
  simp only [Nat.mul_comm,Nat.mul_left_comm,Nat.mul_assoc]
theorem sumT_app:∀ a b:List (Int×Int),sumT (a++b)=sumT a+sumT b
 | [],b=>by rw [List.nil_append,sumT,Int.zero_add]
 | x::a,b=>by rw [List.cons_append,sumT,sumT,sumT_app a b,Int.add_assoc]
set_option maxHeartbeats 4000000 in
theorem rCount_holds (a:Option Addr) (l:List Rn) (c:Nat) (w:World) (hA:RunsAt w a l) (hta:∀ r∈l,r.tab.length≤64) (hl:l.length≤2000) :
  Calls Tryz.prog 26 #[.slice a l.length c] w fun e w'=>e=.returned (.agg #[.string (bs (cntE l).1),.int .i64 (cntE l).2])∧Below w.heap.size w w':=by
 have hck:=fun w' (hb:Below w.heap.size w w')=>rRuns_holds a l c w' (hA.below hb) hta
 by_cases hE:runsErr l=0
 case neg =>
  have hJ:cntE l=([],runsErr l):=by rw [cntE,if_pos hE]
  rw [hJ]
  generalize runsErr l=E at *
  refine enterA [(0,.slice a l.length c)] Tryz.func26 Tryz.ntmps26 ?_
  all_goals (refine go ?_;and_intros<;>(try exact trivial)<;>repeat (first|refine fun (Bk:Nat)=>?_|intro h))
  repeat' ((first|(refine G.cvb hck ?_))<;>(refine go ?_;and_intros<;>(try exact trivial)<;>repeat (first|refine fun (Bk:Nat)=>?_|intro h)))
  all_goals refine ret1b Tryz.func26 Tryz.results26 ?_
  all_goals rfl
 rw [hE] at hck
 obtain ⟨ho,_,hc3⟩:=runs_ok hE
 have hn1:∀ w',Calls Tryz.prog 88 #[.int .i64 1] w' fun e w2=>e=.returned (.agg #[.string (bs (nB 1)),.int .i64 0])∧Below w'.heap.size w' w2:=fun w'=>rInt_holds 1 w' (by decide)
 by_cases hbig:l.length≠0∧400 < (lastD l).to_-(headD' l).from_
 ·have hJ:cntE l=([],2):=by rw [cntE,if_neg (by rw [hE];decide),if_pos hbig]
  rw [hJ]
  obtain ⟨ba,oa,rfl,hra⟩:=SlAt.all hA.1 (by omega)
  have r0:=hra 0 (by omega)
  have r1:=hra (l.length-1) (by omega)
  have hz:(l.length:Int)-1=((l.length-1:Nat):Int):=by omega
  have i1:=(ho _ (List.getElem_mem (l:=l) (n:=0) (by omega))).rng
  have i2:=(ho _ (List.getElem_mem (l:=l) (n:=l.length-1) (by omega))).rng
  obtain ⟨b1,b2⟩:=hbig
  rw [lastD_at (by omega),headD_at (by omega)] at b2
  clear hra hc3 ho hta hn1
  generalize l[0]=x1 at *
  generalize l[l.length-1]=x2 at *
  obtain ⟨f1,t1,tb1,ad1,cp1,lo1,hi1⟩:=x1
  obtain ⟨f2,t2,tb2,ad2,cp2,lo2,hi2⟩:=x2
  dsimp only [rnV] at *
  refine enterA [(0,.slice (some ⟨ba,oa,none⟩) l.length c)] Tryz.func26 Tryz.ntmps26 ?_
  all_goals (refine go ?_;and_intros<;>(try exact trivial)<;>repeat (first|refine fun (Bk:Nat)=>?_|intro h))
  repeat' ((first|(refine G.cvb hck ?_)|(apply G.ix (i:=l.length-1);rfl;rfl;exact hz;omega;rfl)|(apply G.ix (i:=0);rfl;rfl;exact rfl;omega;rfl))<;>(refine go ?_;and_intros<;>(try exact trivial)<;>repeat (first|refine fun (Bk:Nat)=>?_|intro h)))
  all_goals refine ret1b Tryz.func26 Tryz.results26 ?_
  all_goals rfl
 have hJ:cntE l=(nB (cntL l),0):=by rw [cntE,if_neg (by rw [hE];decide),if_neg hbig]
 rw [hJ]
 have htk:tks l≤400:=by
  by_cases h0:l=[]
  ·subst h0;exact Nat.zero_le _
  ·have:=tks_cn (hc3 h0).1 ho
   have:¬ 400 < (lastD l).to_-(headD' l).from_:=fun h=>hbig ⟨fun e=>h0 (List.length_eq_zero_iff.1 e),h⟩
   omega
 clear hJ hbig
 generalize hT:cntL l=T
 rcases Nat.eq_zero_or_pos l.length with h0|h0
 ·obtain rfl:=List.length_eq_zero_iff.1 h0
  rw [cntL] at hT
  subst hT
  refine enterA [(0,.slice a 0 c)] Tryz.func26 Tryz.ntmps26 ?_
  all_goals (refine go ?_;and_intros<;>(try exact trivial)<;>repeat (first|refine fun (Bk:Nat)=>?_|intro h))
  repeat' ((first|(refine G.cvb hck ?_)|(apply G.cV (g:=88);rfl;rfl;exact fun w' _=>hn1 w'))<;>(refine go ?_;and_intros<;>(try exact trivial)<;>repeat (first|refine fun (Bk:Nat)=>?_|intro h)))
  refine J.loop (c:=_) (0:Nat) (fun s=>0) (fun s=>[(0,.slice a 0 c),(2,.pointer (some ⟨_,0,none⟩)),(4,.string (bs (nB 1))),(5,.int .i64 0)]) (fun s=>[.blk _ 61 [.string (bs []),.int .i64 0] 2]) (fun s=>True) ?_ sbT sbL ?_
  ·exact trivial
  intro _ _ _
  all_goals (refine go ?_;and_intros<;>(try exact trivial)<;>repeat (first|refine fun (Bk:Nat)=>?_|intro h))
  all_goals refine ret1b Tryz.func26 Tryz.results26 ?_
  all_goals rfl
 obtain ⟨ba,oa,rfl,hra⟩:=SlAt.all hA.1 (by omega)
 have r0:=hra 0 (by omega)
 have r1:=hra (l.length-1) (by omega)
 have hz:(l.length:Int)-1=((l.length-1:Nat):Int):=by omega
 have i1:=(ho _ (List.getElem_mem (l:=l) (n:=0) (by omega))).rng
 have i2:=(ho _ (List.getElem_mem (l:=l) (n:=l.length-1) (by omega))).rng
 have hcn:=hc3 (fun e=>by rw [e] at h0;exact absurd h0 (Nat.lt_irrefl _))
 have htk2:=tks_cn hcn.1 ho
 rw [lastD_at h0,headD_at h0] at hcn htk2
 clear hc3
 refine enterA [(0,.slice (some ⟨ba,oa,none⟩) l.length c)] Tryz.func26 Tryz.ntmps26 ?_
 have r0':=r0
 have r1':=r1
 rw [show rnV l[0]=[.int .i64 l[0].from_,.int .i64 l[0].to_,.slice l[0].adr l[0].tab.length l[0].cap,.int .i64 l[0].lo,.int .i64 l[0].hi] from rfl] at r0'
 rw [show rnV l[l.length-1]=[.int .i64 (l[l.length-1]).from_,.int .i64 (l[l.length-1]).to_,.slice (l[l.length-1]).adr (l[l.length-1]).tab.length (l[l.length-1]).cap,.int .i64 (l[l.length-1]).lo,.int .i64 (l[l.length-1]).hi] from rfl] at r1'
 all_goals (refine go ?_;and_intros<;>(try exact trivial)<;>repeat (first|refine fun (Bk:Nat)=>?_|intro h))
 repeat' ((first|(refine G.cvb hck ?_)|(apply G.ix (i:=l.length-1);rfl;rfl;exact hz;omega;rfl)|(apply G.ix (i:=0);rfl;rfl;exact rfl;omega;rfl)|(apply G.cV (g:=88);rfl;rfl;exact fun w' _=>hn1 w'))<;>(refine go ?_;and_intros<;>(try exact trivial)<;>repeat (first|refine fun (Bk:Nat)=>?_|intro h)))
 clear hck r0 r1 r0' r1' i1 i2 hcn htk2 hn1
 refine J.loop (c:=_) ((0,1):Nat×Nat) (fun s=>l.length-s.1) (fun s=>[(0,.slice (some ⟨ba,oa,none⟩) l.length c),(2,.pointer (some ⟨_,0,none⟩)),(4,.string (bs (nB s.2))),(5,.int .i64 s.1)]) (fun s=>[.blk _ 61 [.string (bs []),.int .i64 0] 2]) (fun s=>s.1≤l.length∧s.2*cntL (l.drop s.1)=T∧(nB s.2).length+3*tks (l.drop s.1)≤1202) ?_ sbT sbL ?_
 ·exact ⟨Nat.zero_le _,by dsimp only;rw [Nat.one_mul];exact hT,by have:=nB_small (n:=1) (by decide);show (nB 1).length+3*tks (l.drop 0)≤1202;rw [List.drop_zero];omega⟩
 clear hT htk
 intro ⟨k,v⟩ ⟨h1,h2,h3⟩ ih
 dsimp only at h1 h2 h3 ⊢
 by_cases hk:k < l.length
 ·have hr:=hra k hk
  have hmem:=List.getElem_mem hk
  have hok:=ho _ hmem
  have htb:=hA.2 _ hmem
  have hlk:=hta _ hmem
  rw [List.drop_eq_getElem_cons hk,cntL] at h2
  rw [List.drop_eq_getElem_cons hk,tks] at h3
  have ihN:=fun v' e1 e2=>ih (k+1,v') ⟨hk,e1,e2⟩ (by dsimp only;omega)
  dsimp only at ihN
  clear ih hra hA ho hta
  generalize cntL (l.drop (k+1))=R at *
  generalize tks (l.drop (k+1))=K at *
  generalize l[k]=x at *
  have hrg:=hok.rng
  by_cases hq:x.tab.length=0
  ·have hgp:=hok.gap hq
   rw [cntR,if_pos hq] at h2
   obtain ⟨f,t,tab,adr,cap,lo,hi⟩:=x
   dsimp only [rnV,rnA,TabAt] at *
   obtain ⟨n,rfl⟩:∃ n:Nat,t=f+n:=⟨(t-f).toNat,by omega⟩
   obtain ⟨g,hgg⟩:∃ g:Nat,hi-lo+1=(g:Int):=⟨(hi-lo+1).toNat,by omega⟩
   rw [hgg,Int.toNat_natCast,show (f+(n:Int)-f).toNat=n by omega] at h2
   rw [show (f+(n:Int)-f).toNat=n by omega] at h3
   have hgs:=nB_small (n:=g) (by omega)
   have hnf:=fun w'=>rInt_holds g w' (by omega)
   rw [← hgg] at hnf
   all_goals (refine go ?_;and_intros<;>(try exact trivial)<;>repeat (first|refine fun (Bk:Nat)=>?_|intro h))
   refine J.loop (c:=_) (0:Nat) (fun s=>0) (fun s=>[(0,.slice (some ⟨ba,oa,none⟩) l.length c),(2,.pointer (some ⟨_,0,none⟩)),(4,.string (bs (nB v))),(5,.int .i64 k),(6,.pointer (some ⟨_,0,none⟩)),(7,.int .i64 0)]) (fun s=>[.blk _ 90 [.int .i64 f,.int .i64 (f+n),.slice adr tab.length cap,.int .i64 lo,.int .i64 hi] 5,.blk _ 61 [.string (bs []),.int .i64 0] 2]) (fun s=>True) ?_ sbT sbL ?_
   ·exact trivial
   intro _ _ _
   all_goals (refine go ?_;and_intros<;>(try exact trivial)<;>repeat (first|refine fun (Bk:Nat)=>?_|intro h))
   refine J.loop (c:=_) ((0,v,f):Nat×Nat×Int) (fun s=>n-s.1) (fun s=>[(0,.slice (some ⟨ba,oa,none⟩) l.length c),(2,.pointer (some ⟨_,0,none⟩)),(4,.string (bs (nB s.2.1))),(5,.int .i64 k),(6,.pointer (some ⟨_,0,none⟩)),(8,.int .i64 s.2.2)]) (fun s=>[.blk _ 90 [.int .i64 f,.int .i64 (f+n),.slice adr tab.length cap,.int .i64 lo,.int .i64 hi] 5,.blk _ 61 [.string (bs []),.int .i64 0] 2]) (fun s=>s.2.2=f+s.1∧(s.1≤n∧s.2.1*g ^ (n-s.1)*R=T∧(nB s.2.1).length+3*(n-s.1)+3*K≤1202)) ?_ sbT sbL ?_
   ·exact ⟨by dsimp only;omega,Nat.zero_le _,by dsimp only;rw [Nat.sub_zero,Nat.mul_assoc];exact h2,by dsimp only;omega⟩
   clear h2 h3
   intro ⟨j,v,e⟩ ⟨j0,j1,j2,j3⟩ ih2
   dsimp only at j0 j1 j2 j3 ⊢
   by_cases hj:j < n
   ·have hml:=fun w'=>rmul_v (x:=v) (y:=g) (by omega) (by omega) w'
    have hlen:=nB_mul (Nat.le_refl (nB v).length) hgs
    rw [show n-j=(n-(j+1))+1 by omega,pow_step] at j2
    have ih3:=ih2 (j+1,v*g,e+1) ⟨by dsimp only;omega,hj,j2,by dsimp only;omega⟩ (by dsimp only;omega)
    clear ih2 ihN hlen
    dsimp only at ih3
    generalize nB (v*g)=B2 at *
    generalize nB v=B1 at *
    generalize nB g=B3 at *
    all_goals (refine go ?_;and_intros<;>(try exact trivial)<;>repeat (first|refine fun (Bk:Nat)=>?_|intro h))
    repeat' ((first|(apply G.cV (g:=88);rfl;rfl;exact fun w' _=>hnf w')|(apply G.cV (g:=89);rfl;rfl;exact fun w' _=>hml w'))<;>(refine go ?_;and_intros<;>(try exact trivial)<;>repeat (first|refine fun (Bk:Nat)=>?_|intro h)))
    exact J.fin ih3
   ·obtain rfl:j=n:=by omega
    rw [Nat.sub_self,Nat.pow_zero,Nat.mul_one] at j2
    have ih3:=ihN v j2 (by omega)
    clear ih2 ihN
    all_goals (refine go ?_;and_intros<;>(try exact trivial)<;>repeat (first|refine fun (Bk:Nat)=>?_|intro h))
    exact J.fin ih3
  ·obtain ⟨u1,_,u3,_,_⟩:=oneE_tab hok.2 hq
   rw [cntR,if_neg hq] at h2
   obtain ⟨f,t,tab,adr,cap,lo,hi⟩:=x
   dsimp only [rnV,rnA,TabAt] at *
   obtain ⟨n,rfl⟩:∃ n:Nat,t=f+n:=⟨(t-f).toNat,by omega⟩
   rw [show (f+(n:Int)-f).toNat=n by omega] at h3
   rw [show f+(n:Int)-f=(n:Int) by omega] at u3
   have hn4:n≤401:=by omega
   have hmp:=mnl_prd tab 0 n (fun x hx=>(u1 x hx).2.1) (by rw [Int.natCast_zero,Int.zero_add];exact u3)
   rw [show fct 0=1 from rfl,Nat.mul_one] at hmp
   have hfl:=fct_len n (by omega)
   have hfc:∀ w',Calls Tryz.prog 90 #[.int .i64 (f+n-f)] w' fun e w2=>e=.returned (.string (bs (nB (fct n))))∧Below w'.heap.size w' w2:=fun w'=>by
    have h:=rFct_holds n w' (by omega)
    rwa [show (n:Int)=f+n-f by omega] at h
   have hml:=fun w'=>rmul_v (x:=v) (y:=fct n) (by omega) (by omega) w'
   have hlen:=nB_mul (Nat.le_refl (nB v).length) hfl
   rw [← hmp,← Nat.mul_assoc] at hml hlen
   rw [hmp] at hml
   generalize hB1:nB (fct n)=B1 at hfc hml
   generalize hB2:nB (v*mnl 0 tab*prd tab)=B2 at hml
   generalize hB0:nB v=B0 at hml ⊢
   all_goals (refine go ?_;and_intros<;>(try exact trivial)<;>repeat (first|refine fun (Bk:Nat)=>?_|intro h))
   repeat' ((first|(apply G.cV (g:=90);rfl;rfl;exact fun w' _=>hfc w')|(apply G.cV (g:=89);rfl;rfl;exact fun w' _=>hml w'))<;>(refine go ?_;and_intros<;>(try exact trivial)<;>repeat (first|refine fun (Bk:Nat)=>?_|intro h)))
   subst hB2 hB0
   clear hfc hml hB1 hr hmp
   refine J.loop (c:=_) ((0,v*mnl 0 tab*prd tab):Nat×Nat) (fun s=>tab.length-s.1) (fun s=>[(0,.slice (some ⟨ba,oa,none⟩) l.length c),(2,.pointer (some ⟨_,0,none⟩)),(4,.string (bs (nB s.2))),(5,.int .i64 k),(6,.pointer (some ⟨_,0,none⟩)),(7,.int .i64 s.1)]) (fun s=>[.blk _ 90 [.int .i64 f,.int .i64 (f+n),.slice adr tab.length cap,.int .i64 lo,.int .i64 hi] 5,.blk _ 61 [.string (bs []),.int .i64 0] 2]) (fun s=>s.1≤tab.length∧s.2=v*mnl 0 tab*prd (tab.drop s.1)∧(nB s.2).length≤(nB v).length+(2*n+1)) ?_ sbT sbL ?_
   ·exact ⟨Nat.zero_le _,rfl,hlen⟩
   clear hlen
   intro ⟨i,x⟩ ⟨j1,j2,j3⟩ ih2
   dsimp only at j1 j2 j3 ⊢
   by_cases hi2:i < tab.length
   ·obtain ⟨bt,ot,rfl,hrt⟩:=SlAt.all htb (by omega)
    have hri:=hrt i hi2
    have hci:=(u1 _ (List.getElem_mem hi2)).2
    have hsn:=sumT_nn _ fun x hx=>(u1 x (List.mem_of_mem_drop (i:=i+1) hx)).2.1
    have hst:=sumT_nn _ fun x hx=>(u1 x (List.mem_of_mem_take (i:=i) hx)).2.1
    have hsp:sumT (tab.take i)+sumT (tab.drop i)=sumT tab:=by rw [← sumT_app,List.take_append_drop]
    rw [List.drop_eq_getElem_cons hi2] at j2 hsp
    rw [sumT] at hsp
    have ih3:=fun v' e1 e2=>ih2 (i+1,v') ⟨hi2,e1,e2⟩ (by dsimp only;omega)
    dsimp only at ih3
    clear hrt ih2 u1 ihN
    generalize tab.drop (i+1)=D at *
    generalize tab[i]=z at *
    obtain ⟨zs,zc⟩:=z
    dsimp only [hoV] at *
    obtain ⟨cc,rfl⟩:∃ cc:Nat,zc=cc:=⟨zc.toNat,by omega⟩
    have hfc:=fun w'=>rFct_holds cc w' (by omega)
    have hfl:=fct_len cc (by omega)
    have hdv:=fun w'=>rdiv_v (x:=x) (y:=fct cc) (by omega) (by omega) (Nat.ne_of_gt (fct_pos cc)) w'
    have heq:x / fct cc=v*mnl 0 tab*prd D:=by
     rw [j2,prd,Int.toNat_natCast,Nat.mul_left_comm,Nat.mul_div_cancel_left _ (fct_pos cc)]
    have ih4:=ih3 _ heq (Nat.le_trans (nB_len_le (Nat.div_le_self _ _)) j3)
    clear ih3 heq j2 hfl
    generalize nB (x / fct cc)=B2 at *
    generalize nB (x % fct cc)=B3 at *
    generalize nB (fct cc)=B4 at *
    generalize nB x=B5 at *
    all_goals (refine go ?_;and_intros<;>(try exact trivial)<;>repeat (first|refine fun (Bk:Nat)=>?_|intro h))
    repeat' ((first|(apply G.cV (g:=90);rfl;rfl;exact fun w' _=>hfc w')|(apply G.cV (g:=91);rfl;rfl;exact fun w' _=>hdv w'))<;>(refine go ?_;and_intros<;>(try exact trivial)<;>repeat (first|refine fun (Bk:Nat)=>?_|intro h)))
    exact J.fin ih4
   ·rw [List.drop_eq_nil_of_le (by omega),prd,Nat.mul_one] at j2
    have ih3:=ihN x (by rw [j2,Nat.mul_assoc];exact h2) (by omega)
    clear ih2 ihN htb u1
    all_goals (refine go ?_;and_intros<;>(try exact trivial)<;>repeat (first|refine fun (Bk:Nat)=>?_|intro h))
    refine J.loop (c:=_) ((0,x,f):Nat×Nat×Int) (fun s=>n-s.1) (fun s=>[(0,.slice (some ⟨ba,oa,none⟩) l.length c),(2,.pointer (some ⟨_,0,none⟩)),(4,.string (bs (nB s.2.1))),(5,.int .i64 k),(6,.pointer (some ⟨_,0,none⟩)),(8,.int .i64 s.2.2)]) (fun s=>[.blk _ 90 [.int .i64 f,.int .i64 (f+n),.slice adr tab.length cap,.int .i64 lo,.int .i64 hi] 5,.blk _ 61 [.string (bs []),.int .i64 0] 2]) (fun s=>s.2.2=f+s.1∧(s.2.1=x)) ?_ sbT sbL ?_
    ·exact ⟨by dsimp only;omega,rfl⟩
    intro ⟨j,v,e⟩ ⟨e0,e1⟩ ih4
    dsimp only at e0 e1 ⊢
    subst e1
    clear ih4
    by_cases hj:e < f+n
    ·skip
     all_goals (refine go ?_;and_intros<;>(try exact trivial)<;>repeat (first|refine fun (Bk:Nat)=>?_|intro h))
     exact J.fin ih3
    ·skip
     all_goals (refine go ?_;and_intros<;>(try exact trivial)<;>repeat (first|refine fun (Bk:Nat)=>?_|intro h))
     exact J.fin ih3
 ·rw [List.drop_eq_nil_of_le (by omega),cntL,Nat.mul_one] at h2
  subst h2
  clear ih
  all_goals (refine go ?_;and_intros<;>(try exact trivial)<;>repeat (first|refine fun (Bk:Nat)=>?_|intro h))
  all_goals refine ret1b Tryz.func26 Tryz.results26 ?_
  all_goals rfl
end Go.Proofs.YtcdgibkbbcekhaaGreatDoor
/-
 Contract of the specification of runs: Agree.
-/
namespace Go.Proofs.YtcdgibkbbcekhaaGreatDoor
open Go.RowKit Go.Sl Go.Num
set_option maxHeartbeats 4000000 in
theorem rAgree_holds (a b:Option Addr) (rs:List Rn) (f:Int) (hs:List Int) (c d:Nat) (w:World) (hA:RunsAt w a rs) (hB:SlAt w b 1 (hs.map isV)) (hfr:∀ r∈rs,r.tab.length≤64) (hcap:hs.length≤d) (hl:hs.length≤100000) :
  Calls Tryz.prog 31 #[.slice a rs.length c,.agg #[.int .i64 f,.slice b hs.length d]] w fun e w'=>e=.returned (.bool (agreeB rs f hs))∧Below w.heap.size w w':=by
 have hc:=fun w' (hb:Below w.heap.size w w')=>rRuns_holds a rs c w' (hA.below hb) hfr
 have hr:=fun w' (hb:Below w.heap.size w w')=>rRight_holds f b hs d w' (hB.below hb) (by omega)
 rw [agreeB]
 by_cases h1:¬ runsErr rs=0
 ·rw [if_pos (.inl h1)]
  generalize runsErr rs=E at *
  cases h2:rightH f hs<;>rw [h2] at hr
  all_goals
   refine enterA [(0,.slice _ rs.length c),(1,.agg #[.int .i64 f,.slice b hs.length d])] Tryz.func31 Tryz.ntmps31 ?_
   all_goals (refine go ?_;and_intros<;>(try exact trivial)<;>repeat (first|refine fun (Bk:Nat)=>?_|intro h))
   repeat' ((first|(apply G.cV (g:=28);rfl;rfl;exact fun w' hw'=>hc w' hw'.below)|(apply G.cV (g:=41);rfl;rfl;exact fun w' hw'=>hr w' hw'.below)|fail)<;>(refine go ?_;and_intros<;>(try exact trivial)<;>repeat (first|refine fun (Bk:Nat)=>?_|intro h)))
   all_goals refine ret1b Tryz.func31 Tryz.results31 ?_
   all_goals rfl
 rw [Decidable.not_not] at h1
 obtain ⟨ho,hl2,hcn⟩:=runs_ok h1
 by_cases h2:rightH f hs=false
 ·rw [if_pos (.inr h2)]
  rw [h1] at hc
  rw [h2] at hr
  refine enterA [(0,.slice _ rs.length c),(1,.agg #[.int .i64 f,.slice b hs.length d])] Tryz.func31 Tryz.ntmps31 ?_
  all_goals (refine go ?_;and_intros<;>(try exact trivial)<;>repeat (first|refine fun (Bk:Nat)=>?_|intro h))
  repeat' ((first|(apply G.cV (g:=28);rfl;rfl;exact fun w' hw'=>hc w' hw'.below)|(apply G.cV (g:=41);rfl;rfl;exact fun w' hw'=>hr w' hw'.below)|fail)<;>(refine go ?_;and_intros<;>(try exact trivial)<;>repeat (first|refine fun (Bk:Nat)=>?_|intro h)))
  all_goals refine ret1b Tryz.func31 Tryz.results31 ?_
  all_goals rfl
 rw [if_neg (by rw [h1];simp [h2])]
 rw [Bool.not_eq_false] at h2
 rw [h1] at hc
 rw [h2] at hr
 obtain ⟨k3,k4⟩:=rightH_ok h2
 clear h1 h2
 rcases Nat.eq_zero_or_pos rs.length with h0|h0
 ·rw [List.getElem?_eq_none (by omega)]
  show Calls _ _ _ _ fun e w'=>e=.returned (.bool (decide (hs.length=0)))∧Below w.heap.size w w'
  by_cases h3:hs.length=0
  ·rw [decide_eq_true h3]
   refine enterA [(0,.slice _ rs.length c),(1,.agg #[.int .i64 f,.slice b hs.length d])] Tryz.func31 Tryz.ntmps31 ?_
   all_goals (refine go ?_;and_intros<;>(try exact trivial)<;>repeat (first|refine fun (Bk:Nat)=>?_|intro h))
   repeat' ((first|(apply G.cV (g:=28);rfl;rfl;exact fun w' hw'=>hc w' hw'.below)|(apply G.cV (g:=41);rfl;rfl;exact fun w' hw'=>hr w' hw'.below)|fail)<;>(refine go ?_;and_intros<;>(try exact trivial)<;>repeat (first|refine fun (Bk:Nat)=>?_|intro h)))
   all_goals refine ret1b Tryz.func31 Tryz.results31 ?_
   all_goals exact ret_bool (by first|(rw [decide_eq_true (by omega)])|rfl)
  ·rw [decide_eq_false h3]
   refine enterA [(0,.slice _ rs.length c),(1,.agg #[.int .i64 f,.slice b hs.length d])] Tryz.func31 Tryz.ntmps31 ?_
   all_goals (refine go ?_;and_intros<;>(try exact trivial)<;>repeat (first|refine fun (Bk:Nat)=>?_|intro h))
   repeat' ((first|(apply G.cV (g:=28);rfl;rfl;exact fun w' hw'=>hc w' hw'.below)|(apply G.cV (g:=41);rfl;rfl;exact fun w' hw'=>hr w' hw'.below)|fail)<;>(refine go ?_;and_intros<;>(try exact trivial)<;>repeat (first|refine fun (Bk:Nat)=>?_|intro h)))
   all_goals refine ret1b Tryz.func31 Tryz.results31 ?_
   all_goals exact ret_bool (by first|(rw [decide_eq_false (by omega)])|rfl)
 rw [List.getElem?_eq_getElem h0,List.getElem?_eq_getElem (show rs.length-1 < rs.length by omega)]
 dsimp only
 have hcn:=(hcn (fun e=>by rw [e] at h0;exact absurd h0 (Nat.lt_irrefl _))).1
 rw [lastD_at h0,headD_at h0] at hcn
 have hz:(rs.length:Int)-1=((rs.length-1:Nat):Int):=by omega
 obtain ⟨ba,oa,rfl,hra⟩:=SlAt.all hA.1 (by omega)
 have r1:=hra 0 h0
 have r2:=hra (rs.length-1) (by omega)
 have i1:=(ho _ (List.getElem_mem h0)).rng
 have i2:=(ho _ (List.getElem_mem (show rs.length-1 < rs.length by omega))).rng
 have r1':=r1
 have r2':=r2
 rw [show rnV rs[0]=[.int .i64 rs[0].from_,.int .i64 rs[0].to_,.slice rs[0].adr rs[0].tab.length rs[0].cap,.int .i64 rs[0].lo,.int .i64 rs[0].hi] from rfl] at r1'
 rw [show rnV rs[rs.length-1]=[.int .i64 (rs[rs.length-1]).from_,.int .i64 (rs[rs.length-1]).to_,.slice (rs[rs.length-1]).adr (rs[rs.length-1]).tab.length (rs[rs.length-1]).cap,.int .i64 (rs[rs.length-1]).lo,.int .i64 (rs[rs.length-1]).hi] from rfl] at r2'
 by_cases h3:f≠rs[0].from_∨(hs.length:Int)≠(rs[rs.length-1]).to_-f
 ·rw [if_pos h3]
  clear hcn hA hB hra
  generalize rs[0]=x at *
  generalize rs[rs.length-1]=y at *
  obtain ⟨f1,u,tab,adr,cap,lo,hi⟩:=x
  obtain ⟨f2,u2,tab2,adr2,cap2,lo2,hi2⟩:=y
  dsimp only [rnV] at *
  rcases Decidable.em (f=f1) with h4|h4
  ·have h5:(hs.length:Int)≠u2-f:=h3.elim (fun h=>absurd h4 h) id
   clear h3
   refine enterA [(0,.slice _ rs.length c),(1,.agg #[.int .i64 f,.slice b hs.length d])] Tryz.func31 Tryz.ntmps31 ?_
   all_goals (refine go ?_;and_intros<;>(try exact trivial)<;>repeat (first|refine fun (Bk:Nat)=>?_|intro h))
   repeat' ((first|(apply G.cV (g:=28);rfl;rfl;exact fun w' hw'=>hc w' hw'.below)|(apply G.cV (g:=41);rfl;rfl;exact fun w' hw'=>hr w' hw'.below)|(apply G.ix (i:=rs.length-1);rfl;rfl;exact hz;omega;rfl)|(apply G.ix (i:=0);rfl;rfl;exact rfl;omega;rfl))<;>(refine go ?_;and_intros<;>(try exact trivial)<;>repeat (first|refine fun (Bk:Nat)=>?_|intro h)))
   all_goals
    all_goals refine ret1b Tryz.func31 Tryz.results31 ?_
    all_goals rfl
  ·clear h3
   refine enterA [(0,.slice _ rs.length c),(1,.agg #[.int .i64 f,.slice b hs.length d])] Tryz.func31 Tryz.ntmps31 ?_
   all_goals (refine go ?_;and_intros<;>(try exact trivial)<;>repeat (first|refine fun (Bk:Nat)=>?_|intro h))
   repeat' ((first|(apply G.cV (g:=28);rfl;rfl;exact fun w' hw'=>hc w' hw'.below)|(apply G.cV (g:=41);rfl;rfl;exact fun w' hw'=>hr w' hw'.below)|(apply G.ix (i:=rs.length-1);rfl;rfl;exact hz;omega;rfl)|(apply G.ix (i:=0);rfl;rfl;exact rfl;omega;rfl))<;>(refine go ?_;and_intros<;>(try exact trivial)<;>repeat (first|refine fun (Bk:Nat)=>?_|intro h)))
   all_goals
    all_goals refine ret1b Tryz.func31 Tryz.results31 ?_
    all_goals rfl
 rw [if_neg h3]
 rw [not_or,Decidable.not_not,Decidable.not_not] at h3
 obtain ⟨h3,h4⟩:=h3
 have hin:∀ (k:Nat) (hk:k < rs.length),f≤rs[k].from_∧rs[k].to_≤f+hs.length:=fun k hk=>by
  have hcn2:Cn rs[0].from_ (rs.take k++rs.drop k) (rs[rs.length-1]).to_:=by rw [List.take_append_drop];exact hcn
  obtain ⟨m,e1,e2⟩:=Cn.app.1 hcn2
  rw [List.drop_eq_getElem_cons hk] at e2
  have e3:=e1.le fun x hx=>ho x (List.mem_of_mem_take hx)
  have e4:=e2.2.le fun x hx=>ho x (List.mem_of_mem_drop hx)
  have:=e2.1
  omega
 generalize hT:agrL f hs rs=T
 refine enterA [(0,.slice _ rs.length c),(1,.agg #[.int .i64 f,.slice b hs.length d])] Tryz.func31 Tryz.ntmps31 ?_
 all_goals (refine go ?_;and_intros<;>(try exact trivial)<;>repeat (first|refine fun (Bk:Nat)=>?_|intro h))
 repeat' ((first|(apply G.cV (g:=28);rfl;rfl;exact fun w' hw'=>hc w' hw'.below)|(apply G.cV (g:=41);rfl;rfl;exact fun w' hw'=>hr w' hw'.below)|(apply G.ix (i:=rs.length-1);rfl;rfl;exact hz;omega;rfl)|(apply G.ix (i:=0);rfl;rfl;exact rfl;omega;rfl))<;>(refine go ?_;and_intros<;>(try exact trivial)<;>repeat (first|refine fun (Bk:Nat)=>?_|intro h)))
 clear hc hr r1 r2 r1' r2' i1 i2 hcn
 refine J.loop (c:=_) (0:Nat) (fun s=>rs.length-s) (fun s=>[(0,.slice (some ⟨ba,oa,none⟩) rs.length c),(3,.pointer (some ⟨_,0,none⟩)),(6,.int .i64 s)]) (fun s=>[.blk _ 46 [.int .i64 f,.slice b hs.length d] 2]) (fun s=>s≤rs.length∧agrL f hs (rs.drop s)=T) ?_ sbT sbL ?_
 ·exact ⟨Nat.zero_le _,hT⟩
 clear hT
 intro k ⟨e1,e2⟩ ih
 by_cases hk:k < rs.length
 ·have hrk:=hra k hk
  have htk:=hA.2 _ (List.getElem_mem hk)
  have hik:=hin k hk
  have hok:=ho _ (List.getElem_mem hk)
  have hlk:=hfr _ (List.getElem_mem hk)
  rw [List.drop_eq_getElem_cons hk,agrL] at e2
  have ih':=ih (k+1)
  clear hra hin ho ih hA hfr
  generalize hV:agrL f hs (rs.drop (k+1))=V at *
  generalize rs[k]=r at *
  have hrg:=hok.rng
  obtain ⟨p,hp⟩:∃ p:Nat,r.from_=f+p:=⟨(r.from_-f).toNat,by omega⟩
  obtain ⟨n,hn⟩:∃ n:Nat,r.to_=r.from_+n:=⟨(r.to_-r.from_).toNat,by omega⟩
  rw [show (r.from_-f).toNat=p by omega,show (r.to_-r.from_).toNat=n by omega] at e2
  have hlen:((hs.drop p).take n).length=n:=by rw [List.length_take,List.length_drop];omega
  rw [agr1_sp hok (by rw [hlen];omega),spAgr] at e2
  have hseg:∀ i,i < n→((hs.drop p).take n)[i]?=hs[p+i]?:=fun i hi=>by rw [List.getElem?_take,if_pos hi,List.getElem?_drop]
  by_cases hn0:hs.length=0
  ·exfalso;omega
  obtain ⟨bb,ob,rfl,hrb⟩:=SlAt.all hB (by omega)
  have hsl:∀ {w':World},Below w.heap.size w w'→SlAt w' (some ⟨bb,ob+p*1,none⟩) 1 (((hs.drop p).take n).map isV):=fun {w'} hb=>(SlAt.seg hrb p n (by omega)).below hb
  have ham:=fun w' (hb:Below w.heap.size w w') x cc=>by
   have:=among16_holds (some ⟨bb,ob+p*1,none⟩) ((hs.drop p).take n) cc x w' (hsl hb) (by omega)
   rw [hlen] at this;exact this
  have hhe:=fun w' (hb:Below w.heap.size w w') x=>held16_holds r.adr r.tab r.cap x w' (SlAt.below htk hb) (by omega)
  generalize hsg:(hs.drop p).take n=sg at *
  obtain ⟨fr,to,tab,adr,cap,lo,hi⟩:=r
  dsimp only [rnV] at *
  subst hn
  subst hp
  clear hB hok
  all_goals (refine go ?_;and_intros<;>(try exact trivial)<;>repeat (first|refine fun (Bk:Nat)=>?_|intro h))
  repeat' ((first|(apply G.slp (l:=p) (h:=p+n) (off:=ob+p*1) (len:=n);rfl;rfl;rfl;omega;omega;omega;omega;omega;rfl;omega;rfl))<;>(refine go ?_;and_intros<;>(try exact trivial)<;>repeat (first|refine fun (Bk:Nat)=>?_|intro h)))
  clear hrk
  refine J.loop (c:=_) (0:Nat) (fun s=>n-s) (fun s=>[(0,.slice (some ⟨ba,oa,none⟩) rs.length c),(3,.pointer (some ⟨_,0,none⟩)),(6,.int .i64 k),(7,.pointer (some ⟨_,0,none⟩)),(8,.slice (some ⟨bb,ob+p*1,none⟩) n _),(9,.int .i64 s)]) (fun s=>[.blk _ 90 [.int .i64 (f+p),.int .i64 (f+p+n),.slice adr tab.length cap,.int .i64 lo,.int .i64 hi] 5,.blk _ 46 [.int .i64 f,.slice (some ⟨bb,ob,none⟩) hs.length d] 2]) (fun s=>s≤n∧∀ i (hj:i < sg.length),i < s→(if tab.length=0 then decide (lo≤sg[i]∧sg[i]≤hi) else decide (nIn sg[i] sg=cnt sg[i] tab))=true) ?_ sbT sbL ?_
  ·exact ⟨Nat.zero_le _,fun i hj h=>absurd h (Nat.not_lt_zero _)⟩
  intro i ⟨c1,c2⟩ ih2
  by_cases hi2:i < n
  ·have hr1:RowAt w bb (ob+p*1+i*1) [.int .i64 sg[i]]:=by
    have:=hrb (p+i) (by omega)
    have h6:=hseg i hi2
    rw [List.getElem?_eq_getElem (by omega),List.getElem?_eq_getElem (by omega)] at h6
    rw [show ob+p*1+i*1=ob+(p+i)*1 by omega,Option.some.inj h6];exact this
   have ih3:=fun (h:(if tab.length=0 then decide (lo≤sg[i]∧sg[i]≤hi) else decide (nIn sg[i] sg=cnt sg[i] tab))=true)=>ih2 (i+1) ⟨hi2,fun j hj h5=>by
    rcases Nat.lt_or_ge j i with h6|h6
    ·exact c2 j hj h6
    ·obtain rfl:j=i:=by omega
     exact h⟩ (by omega)
   have hbad:(if tab.length=0 then decide (lo≤sg[i]∧sg[i]≤hi) else decide (nIn sg[i] sg=cnt sg[i] tab))=false→T=false:=fun h=>by
    rw [← e2]
    have:(sg.all fun s=>if tab.length=0 then decide (lo≤s∧s≤hi) else decide (nIn s sg=cnt s tab))=false:=List.all_eq_false.2 ⟨_,List.getElem_mem (l:=sg) (n:=i) (by omega),by rw [h];decide⟩
    rw [this];rfl
   clear hrb ih2 c2 e2 ih' hsl hseg
   have ham:=fun w' hb cc=>ham w' hb sg[i] cc
   have hhe:=fun w' hb=>hhe w' hb sg[i]
   have hnb:=nIn_bd sg[i] sg
   generalize nIn sg[i] sg=N1 at *
   generalize cnt sg[i] tab=N2 at *
   generalize sg[i]=z at *
   by_cases hgp:tab.length=0
   ·rw [if_pos hgp] at ih3 hbad
    by_cases hwi:lo≤z∧z≤hi
    ·have ih4:=ih3 (decide_eq_true hwi)
     clear ih3 hbad ham hhe
     all_goals (refine go ?_;and_intros<;>(try exact trivial)<;>repeat (first|refine fun (Bk:Nat)=>?_|intro h))
     exact J.fin ih4
    ·rw [hbad (decide_eq_false hwi)]
     clear ih3 hbad ham hhe
     by_cases hw2:z < lo
     ·skip
      all_goals (refine go ?_;and_intros<;>(try exact trivial)<;>repeat (first|refine fun (Bk:Nat)=>?_|intro h))
      all_goals refine ret1b Tryz.func31 Tryz.results31 ?_
      all_goals rfl
     ·have hw3:hi < z:=by omega
      clear hwi
      all_goals (refine go ?_;and_intros<;>(try exact trivial)<;>repeat (first|refine fun (Bk:Nat)=>?_|intro h))
      all_goals refine ret1b Tryz.func31 Tryz.results31 ?_
      all_goals rfl
   ·rw [if_neg hgp] at ih3 hbad
    by_cases hc0:N1=N2
    ·have ih4:=ih3 (decide_eq_true hc0)
     clear ih3 hbad
     all_goals (refine go ?_;and_intros<;>(try exact trivial)<;>repeat (first|refine fun (Bk:Nat)=>?_|intro h))
     repeat' ((first|(apply G.cV (g:=95);rfl;rfl;exact fun w' hw'=>ham w' hw'.below _)|(apply G.cV (g:=96);rfl;rfl;exact fun w' hw'=>hhe w' hw'.below))<;>(refine go ?_;and_intros<;>(try exact trivial)<;>repeat (first|refine fun (Bk:Nat)=>?_|intro h)))
     exact J.fin ih4
    ·rw [hbad (decide_eq_false hc0)]
     clear ih3 hbad
     all_goals (refine go ?_;and_intros<;>(try exact trivial)<;>repeat (first|refine fun (Bk:Nat)=>?_|intro h))
     repeat' ((first|(apply G.cV (g:=95);rfl;rfl;exact fun w' hw'=>ham w' hw'.below _)|(apply G.cV (g:=96);rfl;rfl;exact fun w' hw'=>hhe w' hw'.below))<;>(refine go ?_;and_intros<;>(try exact trivial)<;>repeat (first|refine fun (Bk:Nat)=>?_|intro h)))
     all_goals refine ret1b Tryz.func31 Tryz.results31 ?_
     all_goals rfl
  ·obtain rfl:i=n:=by omega
   have hall:(sg.all fun s=>if tab.length=0 then decide (lo≤s∧s≤hi) else decide (nIn s sg=cnt s tab))=true:=List.all_eq_true.2 fun x hx=>by
    obtain ⟨j,hj,rfl⟩:=List.getElem_of_mem hx
    exact c2 j hj (by omega)
   rw [hall,Bool.true_and] at e2
   clear ih2 c2
   all_goals (refine go ?_;and_intros<;>(try exact trivial)<;>repeat (first|refine fun (Bk:Nat)=>?_|intro h))
   exact J.fin (ih' ⟨hk,e2⟩ (by omega))
 ·rw [List.drop_eq_nil_of_le (by omega),agrL] at e2
  subst e2
  clear ih
  all_goals (refine go ?_;and_intros<;>(try exact trivial)<;>repeat (first|refine fun (Bk:Nat)=>?_|intro h))
  all_goals refine ret1b Tryz.func31 Tryz.results31 ?_
  all_goals rfl
end Go.Proofs.YtcdgibkbbcekhaaGreatDoor
/-
 Contract of the specification of runs: First.
-/
namespace Go.Proofs.YtcdgibkbbcekhaaGreatDoor
open Go.RowKit Go.Sl Go.Num
theorem J.cutQ {C:Ctx}{st:List (Nat×Value)}{M:List Row}{k k2:List Item}{X:Type} (stF:X→List (Nat×Value)) (MF:X→List Row) (h:(∀ x,J C (stF x) (MF x) k2)→J C st M k) (hk:∀ x,J C (stF x) (MF x) k2):J C st M k:=h hk
set_option maxHeartbeats 4000000 in
theorem rFirst_holds (a:Option Addr) (l:List Rn) (c:Nat) (w:World) (hA:RunsAt w a l) (hta:∀ r∈l,r.tab.length≤64) (hE:runsErr l=0) (hn:l.length≤400) :
  Calls Tryz.prog 25 #[.slice a l.length c] w (RetO Tryz.prog w 3 1 (firstS l).length (flat isV (firstS l)) (fun u=>.agg #[.int .i64 (firstF l),u,.int .i64 0])):=by
 have hc:=fun w' (hb:Below w.heap.size w w')=>rRuns_holds a l c w' (hA.below hb) hta
 rw [hE] at hc
 have ho:=(runs_ok hE).1
 rcases Nat.eq_zero_or_pos l.length with h0|h0
 ·obtain rfl:=List.length_eq_zero_iff.1 h0
  refine enterA [(0,.slice a 0 c)] Tryz.func25 Tryz.ntmps25 ?_
  all_goals (refine go ?_;and_intros<;>(try exact trivial)<;>repeat (first|refine fun (Bk:Nat)=>?_|intro h))
  repeat' ((first|(refine G.cvb hc ?_))<;>(refine go ?_;and_intros<;>(try exact trivial)<;>repeat (first|refine fun (Bk:Nat)=>?_|intro h)))
  apply J.nilOwn (E:=3) (size:=1)
  refine J.loop (c:=_) (0:Nat) (fun s=>0) (fun s=>[(0,.slice a 0 c),(2,.pointer (some ⟨_,0,none⟩)),(4,.pointer (some ⟨_,0,none⟩)),(5,.int .i64 0)]) (fun s=>[.own 0 (.slice none 0 0) 3 1 0 [],.blk _ 46 [.int .i64 0,.slice none 0 0] 2,.blk _ 58 [.int .i64 0,.slice none 0 0,.int .i64 0] 3]) (fun s=>True) ?_ sbT sbL ?_
  ·exact trivial
  intro _ _ _
  all_goals (refine go ?_;and_intros<;>(try exact trivial)<;>repeat (first|refine fun (Bk:Nat)=>?_|intro h))
  (refine ret1 Tryz.func25 Tryz.results25 ?_;intro w' hw)
  exact hw.retO (i:=0) rfl (fun u=>.agg #[.int .i64 0,u,.int .i64 0])
 obtain ⟨ba,oa,rfl,hra⟩:=SlAt.all hA.1 (by omega)
 have hf0:=firstF_at h0
 generalize firstF l=F0 at *
 generalize hF:firstS l=F
 refine enterA [(0,.slice (some ⟨ba,oa,none⟩) l.length c)] Tryz.func25 Tryz.ntmps25 ?_
 all_goals (refine go ?_;and_intros<;>(try exact trivial)<;>repeat (first|refine fun (Bk:Nat)=>?_|intro h))
 repeat' ((first|(refine G.cvb hc ?_))<;>(refine go ?_;and_intros<;>(try exact trivial)<;>repeat (first|refine fun (Bk:Nat)=>?_|intro h)))
 rename_i Bt
 revert Bk
 intro Bh
 clear hc
 apply J.nilOwn (E:=3) (size:=1)
 refine J.loop (c:=_) ((0,none,0,[],0):Nat×Option Addr×Nat×List Int×Int) (fun s=>l.length-s.1) (fun s=>[(0,.slice (some ⟨ba,oa,none⟩) l.length c),(2,.pointer (some ⟨Bt,0,none⟩)),(4,.pointer (some ⟨Bh,0,none⟩)),(5,.int .i64 s.1)]) (fun s=>[.own 0 (.slice s.2.1 s.2.2.2.1.length s.2.2.1) 3 1 s.2.2.2.1.length (flat isV s.2.2.2.1),.blk Bh 46 [.int .i64 s.2.2.2.2,.slice s.2.1 s.2.2.2.1.length s.2.2.1] 2,.blk Bt 58 [.int .i64 0,.slice none 0 0,.int .i64 0] 3]) (fun s=>s.1≤l.length∧s.2.2.2.1++firstS (l.drop s.1)=F∧s.2.2.2.1.length≤1402560*s.1∧(0 < s.1→s.2.2.2.2=F0)) ?_ sbT sbL ?_
 ·exact ⟨Nat.zero_le _,hF,Nat.zero_le _,fun h=>absurd h (by decide)⟩
 clear hF
 intro ⟨k,au,cu,o,f0⟩ ⟨h3,h5,h6,h7⟩ ih
 dsimp only at h3 h5 h6 h7 ⊢
 by_cases hk:k < l.length
 ·have hrk:=hra k hk
  have hmem:=List.getElem_mem hk
  have hok:=ho _ hmem
  have htab:=hA.2 _ hmem
  have hlk:=hta _ hmem
  have hfk:k=0→l[k].from_=F0:=fun e=>by subst e;exact hf0.symm
  have hsl:=stagesR_len hok.1 hok.2
  rw [List.drop_eq_getElem_cons hk,firstS] at h5
  have ihN:=fun a' c' o' e1 e2=>ih (k+1,a',c',o',F0) ⟨hk,e1,e2,fun _=>rfl⟩ (by dsimp only;omega)
  dsimp only at ihN
  clear hra hmem ho hta hA ih hf0
  generalize firstS (l.drop (k+1))=Y at *
  generalize l[k]=r at *
  have hrg:=hok.rng
  obtain ⟨rf,rt,tab,adr,cap,lo,hi⟩:=r
  dsimp only [rnV,TabAt] at *
  apply J.cutQ (X:=Unit) (fun _=>[(0,.slice (some ⟨ba,oa,none⟩) l.length c),(2,.pointer (some ⟨Bt,0,none⟩)),(4,.pointer (some ⟨Bh,0,none⟩)),(5,.int .i64 k),(6,.int .i64 rf)]) (fun _=>[.own 0 (.slice au o.length cu) 3 1 o.length (flat isV o),.blk Bh 46 [.int .i64 F0,.slice au o.length cu] 2,.blk Bt 58 [.int .i64 0,.slice none 0 0,.int .i64 0] 3])
  ·intro hk2
   replace hk2:=hk2 ()
   rcases Nat.eq_zero_or_pos k with hk0|hk0
   ·have hfe:=hfk hk0
    subst hfe
    all_goals (refine go ?_;and_intros<;>(try exact trivial)<;>repeat (first|refine fun (Bk:Nat)=>?_|intro h))
    repeat' ((first|(apply G.s1;rfl;rfl;rfl;(repeat (first|exact RAt.head|apply RAt.tail));exact ⟨rfl,rfl⟩;exact Nat.le_of_ble_eq_true rfl;rfl))<;>(refine go ?_;and_intros<;>(try exact trivial)<;>repeat (first|refine fun (Bk:Nat)=>?_|intro h)))
    exact J.fin hk2
   ·have hfe:=h7 hk0
    subst hfe
    all_goals (refine go ?_;and_intros<;>(try exact trivial)<;>repeat (first|refine fun (Bk:Nat)=>?_|intro h))
    repeat' ((first|(apply G.s1;rfl;rfl;rfl;(repeat (first|exact RAt.head|apply RAt.tail));exact ⟨rfl,rfl⟩;exact Nat.le_of_ble_eq_true rfl;rfl))<;>(refine go ?_;and_intros<;>(try exact trivial)<;>repeat (first|refine fun (Bk:Nat)=>?_|intro h)))
    exact J.fin hk2
  intro _
  clear hfk h7
  by_cases h0:tab.length=0
  ·rw [stagesR,if_pos h0] at h5 hsl
   clear hok htab
   dsimp only at h5 hsl
   obtain ⟨n,rfl⟩:∃ n:Nat,rt=rf+n:=⟨(rt-rf).toNat,by omega⟩
   rw [show (rf+n-rf:Int).toNat=n by omega] at h5
   refine J.loop (c:=_) ((0,rf,au,cu,o):Nat×Int×Option Addr×Nat×List Int) (fun s=>n-s.1) (fun s=>[(0,.slice (some ⟨ba,oa,none⟩) l.length c),(2,.pointer (some ⟨Bt,0,none⟩)),(4,.pointer (some ⟨Bh,0,none⟩)),(5,.int .i64 k),(6,.int .i64 s.2.1)]) (fun s=>[.own 0 (.slice s.2.2.1 s.2.2.2.2.length s.2.2.2.1) 3 1 s.2.2.2.2.length (flat isV s.2.2.2.2),.blk Bh 46 [.int .i64 F0,.slice s.2.2.1 s.2.2.2.2.length s.2.2.2.1] 2,.blk Bt 58 [.int .i64 0,.slice none 0 0,.int .i64 0] 3]) (fun s=>s.1≤n∧s.2.1=rf+s.1∧s.2.2.2.2++(List.replicate (n-s.1) lo++Y)=F∧s.2.2.2.2.length≤1402560*k+s.1) ?_ sbT sbL ?_
   ·exact ⟨Nat.zero_le _,by dsimp only;omega,by dsimp only;rw [Nat.sub_zero,← List.append_assoc];rw [← List.append_assoc] at h5;exact h5,by dsimp only;omega⟩
   clear h5 h6 hsl
   intro ⟨j,e,au,cu,o⟩ ⟨j1,j2,j3,j4⟩ ih2
   dsimp only at j1 j2 j3 j4 ⊢
   by_cases hj:j < n
   ·have hap:flat isV o++isV lo=flat isV (o++[lo]):=flat1 isV _ _
    have hl1:(o++[lo]).length=o.length+1:=by simp
    rw [show n-j=(n-(j+1))+1 by omega,List.replicate_succ,List.cons_append,← List.singleton_append,← List.append_assoc] at j3
    have ih3:=fun a' c'=>ih2 (j+1,e+1,a',c',o++[lo]) ⟨hj,by dsimp only;omega,j3,by dsimp only;omega⟩ (by dsimp only;omega)
    dsimp only at ih3
    rw [hl1] at ih3
    clear ih2 ihN j3
    dsimp only [isV] at hap
    all_goals (refine goR ?_;and_intros<;>(try exact trivial)<;>repeat (first|refine fun (Bk:Nat)=>?_|intro h))
    repeat' ((first|(apply J.regA (.q 0 <| .q 1 <| .q 2 <| .q 3 <| .q 4 <| .q 5 <| .q 6 <| .e 7 <| .r 8 <| .q 9 <| .r 10 <| .nil);exact Tryz.mixed;decide +kernel)|(apply G.sliceL;rfl;rfl;rfl;rfl;rfl;rfl;rfl;rfl;intro Bs)|(apply G.apV;rfl;rfl;rfl;(repeat (first|exact RAt.head|apply RAt.tail));exact SrcV.blk (by exact mm) rfl rfl;exact hap;omega;omega;intro a2 c2)|(apply G.s1;rfl;rfl;rfl;(repeat (first|exact RAt.head|apply RAt.tail));exact ⟨rfl,rfl⟩;exact Nat.le_of_ble_eq_true rfl;rfl)|(apply J.regQ;exact Tryz.mixed;decide +kernel)|(apply J.regL';exact Tryz.mixed;decide +kernel))<;>(refine goR ?_;and_intros<;>(try exact trivial)<;>repeat (first|refine fun (Bk:Nat)=>?_|intro h)))
    exact J.fin (ih3 _ _)
   ·obtain rfl:j=n:=by omega
    rw [Nat.sub_self,List.replicate_zero,List.nil_append] at j3
    have ih3:=ihN au cu o j3 (by omega)
    clear ih2 ihN
    all_goals (refine go ?_;and_intros<;>(try exact trivial)<;>repeat (first|refine fun (Bk:Nat)=>?_|intro h))
    refine J.loop (c:=_) (0:Nat) (fun s=>0) (fun s=>[(0,.slice (some ⟨ba,oa,none⟩) l.length c),(2,.pointer (some ⟨Bt,0,none⟩)),(4,.pointer (some ⟨Bh,0,none⟩)),(5,.int .i64 k),(7,.int .i64 0)]) (fun s=>[.own 0 (.slice au o.length cu) 3 1 o.length (flat isV o),.blk Bh 46 [.int .i64 F0,.slice au o.length cu] 2,.blk Bt 58 [.int .i64 0,.slice none 0 0,.int .i64 0] 3]) (fun s=>True) ?_ sbT sbL ?_
    ·exact trivial
    intro _ _ _
    all_goals (refine go ?_;and_intros<;>(try exact trivial)<;>repeat (first|refine fun (Bk:Nat)=>?_|intro h))
    exact J.fin ih3
  ·rw [stagesR,if_neg h0] at h5 hsl
   have u1:=(oneE_tab hok.2 h0).1
   clear hok
   dsimp only at h5 hsl u1
   refine J.loop (c:=_) (0:Nat) (fun s=>0) (fun s=>[(0,.slice (some ⟨ba,oa,none⟩) l.length c),(2,.pointer (some ⟨Bt,0,none⟩)),(4,.pointer (some ⟨Bh,0,none⟩)),(5,.int .i64 k),(6,.int .i64 rf)]) (fun s=>[.own 0 (.slice au o.length cu) 3 1 o.length (flat isV o),.blk Bh 46 [.int .i64 F0,.slice au o.length cu] 2,.blk Bt 58 [.int .i64 0,.slice none 0 0,.int .i64 0] 3]) (fun s=>True) ?_ sbT sbL ?_
   ·exact trivial
   intro _ _ _
   all_goals (refine go ?_;and_intros<;>(try exact trivial)<;>repeat (first|refine fun (Bk:Nat)=>?_|intro h))
   refine J.loop (c:=_) ((0,au,cu,o):Nat×Option Addr×Nat×List Int) (fun s=>tab.length-s.1) (fun s=>[(0,.slice (some ⟨ba,oa,none⟩) l.length c),(2,.pointer (some ⟨Bt,0,none⟩)),(4,.pointer (some ⟨Bh,0,none⟩)),(5,.int .i64 k),(7,.int .i64 s.1)]) (fun s=>[.own 0 (.slice s.2.1 s.2.2.2.length s.2.2.1) 3 1 s.2.2.2.length (flat isV s.2.2.2),.blk Bh 46 [.int .i64 F0,.slice s.2.1 s.2.2.2.length s.2.2.1] 2,.blk Bt 58 [.int .i64 0,.slice none 0 0,.int .i64 0] 3]) (fun s=>s.1≤tab.length∧s.2.2.2++(tabS (tab.drop s.1)++Y)=F∧s.2.2.2.length+(tabS (tab.drop s.1)).length≤1402560*(k+1)) ?_ sbT sbL ?_
   ·exact ⟨Nat.zero_le _,h5,by show o.length+(tabS (tab.drop 0)).length≤_;rw [List.drop_zero];omega⟩
   clear h5 h6 hsl
   intro ⟨i,au,cu,o⟩ ⟨j1,j2,j3⟩ ih2
   dsimp only at j1 j2 j3 ⊢
   by_cases hi2:i < tab.length
   ·obtain ⟨bt,ot,rfl,hrt⟩:=SlAt.all htab (by omega)
    have hri:=hrt i hi2
    have hci:=u1 _ (List.getElem_mem hi2)
    rw [List.drop_eq_getElem_cons hi2,tabS_cons] at j2 j3
    have ih3:=fun a' c' o' e1 e2=>ih2 (i+1,a',c',o') ⟨hi2,e1,e2⟩ (by dsimp only;omega)
    dsimp only at ih3
    clear hrt ih2 u1 ihN
    generalize tabS (tab.drop (i+1))=D at *
    generalize tab[i]=z at *
    obtain ⟨zs,zc⟩:=z
    dsimp only [hoV] at *
    obtain ⟨cc,rfl⟩:∃ cc:Nat,zc=cc:=⟨zc.toNat,by omega⟩
    rw [Int.toNat_natCast,List.append_assoc] at j2
    rw [Int.toNat_natCast,List.length_append,List.length_replicate] at j3
    all_goals (refine go ?_;and_intros<;>(try exact trivial)<;>repeat (first|refine fun (Bk:Nat)=>?_|intro h))
    refine J.loop (c:=_) ((0,au,cu,o):Nat×Option Addr×Nat×List Int) (fun s=>cc-s.1) (fun s=>[(0,.slice (some ⟨ba,oa,none⟩) l.length c),(2,.pointer (some ⟨Bt,0,none⟩)),(4,.pointer (some ⟨Bh,0,none⟩)),(5,.int .i64 k),(7,.int .i64 i),(8,.int .i64 s.1)]) (fun s=>[.own 0 (.slice s.2.1 s.2.2.2.length s.2.2.1) 3 1 s.2.2.2.length (flat isV s.2.2.2),.blk Bh 46 [.int .i64 F0,.slice s.2.1 s.2.2.2.length s.2.2.1] 2,.blk Bt 58 [.int .i64 0,.slice none 0 0,.int .i64 0] 3]) (fun s=>s.1≤cc∧s.2.2.2++(List.replicate (cc-s.1) zs++(D++Y))=F∧s.2.2.2.length+(cc-s.1)+D.length≤1402560*(k+1)) ?_ sbT sbL ?_
    ·exact ⟨Nat.zero_le _,j2,by dsimp only;omega⟩
    clear j2 j3
    intro ⟨j,au,cu,o⟩ ⟨q1,q2,q3⟩ ih4
    dsimp only at q1 q2 q3 ⊢
    by_cases hj:j < cc
    ·have hap:flat isV o++isV zs=flat isV (o++[zs]):=flat1 isV _ _
     have hl1:(o++[zs]).length=o.length+1:=by simp
     rw [show cc-j=(cc-(j+1))+1 by omega,List.replicate_succ,List.cons_append,← List.singleton_append,← List.append_assoc] at q2
     have ih5:=fun a' c'=>ih4 (j+1,a',c',o++[zs]) ⟨hj,q2,by dsimp only;omega⟩ (by dsimp only;omega)
     dsimp only at ih5
     rw [hl1] at ih5
     clear ih4 ih3 q2
     dsimp only [isV] at hap
     all_goals (refine goR ?_;and_intros<;>(try exact trivial)<;>repeat (first|refine fun (Bk:Nat)=>?_|intro h))
     repeat' ((first|(apply J.regA (.q 0 <| .q 1 <| .q 2 <| .q 3 <| .q 4 <| .q 5 <| .q 6 <| .q 7 <| .q 8 <| .q 9 <| .q 10 <| .e 11 <| .r 12 <| .q 13 <| .r 14 <| .nil);exact Tryz.mixed;decide +kernel)|(apply G.sliceL;rfl;rfl;rfl;rfl;rfl;rfl;rfl;rfl;intro Bs)|(apply G.apV;rfl;rfl;rfl;(repeat (first|exact RAt.head|apply RAt.tail));exact SrcV.blk (by exact mm) rfl rfl;exact hap;omega;omega;intro a2 c2)|(apply G.s1;rfl;rfl;rfl;(repeat (first|exact RAt.head|apply RAt.tail));exact ⟨rfl,rfl⟩;exact Nat.le_of_ble_eq_true rfl;rfl)|(apply J.regQ;exact Tryz.mixed;decide +kernel)|(apply J.regL';exact Tryz.mixed;decide +kernel))<;>(refine goR ?_;and_intros<;>(try exact trivial)<;>repeat (first|refine fun (Bk:Nat)=>?_|intro h)))
     exact J.fin (ih5 _ _)
    ·obtain rfl:j=cc:=by omega
     rw [Nat.sub_self,List.replicate_zero,List.nil_append] at q2
     have ih5:=ih3 au cu o q2 (by omega)
     clear ih4 ih3
     all_goals (refine go ?_;and_intros<;>(try exact trivial)<;>repeat (first|refine fun (Bk:Nat)=>?_|intro h))
     exact J.fin ih5
   ·rw [List.drop_eq_nil_of_le (by omega),show tabS []=[] from rfl,List.nil_append] at j2
    rw [List.drop_eq_nil_of_le (by omega),show tabS []=[] from rfl,List.length_nil] at j3
    have ih3:=ihN au cu o j2 (by omega)
    clear ih2 ihN
    all_goals (refine go ?_;and_intros<;>(try exact trivial)<;>repeat (first|refine fun (Bk:Nat)=>?_|intro h))
    exact J.fin ih3
 ·obtain rfl:k=l.length:=by omega
  rw [List.drop_length,firstS,List.append_nil] at h5
  have h8:=h7 h0
  subst h5 h8
  clear ih
  all_goals (refine go ?_;and_intros<;>(try exact trivial)<;>repeat (first|refine fun (Bk:Nat)=>?_|intro h))
  (refine ret1 Tryz.func25 Tryz.results25 ?_;intro w' hw)
  exact hw.retO (i:=0) rfl (fun u=>.agg #[.int .i64 _,u,.int .i64 0])
end Go.Proofs.YtcdgibkbbcekhaaGreatDoor
