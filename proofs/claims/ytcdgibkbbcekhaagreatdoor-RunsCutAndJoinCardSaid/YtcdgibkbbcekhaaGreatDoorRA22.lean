/-
  Contract of the specification of runs: Cut.
-/
import Derived.Test.YtcdgibkbbcekhaaGreatDoorRA20
set_option linter.unusedVariables false
set_option linter.unusedSimpArgs false
set_option linter.unusedSectionVars false
namespace Go.Proofs.YtcdgibkbbcekhaaGreatDoor
open Go.RowKit Go.Sl Go.Num
set_option maxHeartbeats 4000000 in
theorem refCut_holds (a:Option Addr) (l:List Rn) (c:Nat) (at_:Int) (w:World) (hA:RunsAt w a l) (hta:∀ r∈l,r.tab.length≤64) (hl:l.length≤400) :
  Calls Tryz.prog 37 #[.slice a l.length c,.int .i64 at_] w (RetU2 l (fun A B=>A.map rbare=(cutE' l at_).1.1.map rbare∧B.map rbare=(cutE' l at_).1.2.map rbare) (fun a' n c' b' m d'=>.agg #[.slice a' n c',.slice b' m d',.int .i64 (cutE' l at_).2]) w):=by
 have hck:=fun w' (hb:Below w.heap.size w w')=>rRuns_holds a l c w' (hA.below hb) hta
 by_cases hE:runsErr l=0
 case neg =>
  have hJ:cutE' l at_=(([],[]),runsErr l):=by rw [cutE',if_pos hE]
  rw [hJ]
  generalize runsErr l=E at *
  refine enterA [(0,.slice a l.length c),(1,.int .i64 at_)] Tryz.func37 Tryz.ntmps37 ?_
  all_goals (refine go ?_;and_intros<;>(try exact trivial)<;>repeat (first|refine fun (Bk:Nat)=>?_|intro h))
  repeat' ((first|(refine G.cvb hck ?_))<;>(refine go ?_;and_intros<;>(try exact trivial)<;>repeat (first|refine fun (Bk:Nat)=>?_|intro h)))
  refine ret1 Tryz.func37 Tryz.results37 ?_
  exact fun w' hw'=>RetU2.nil (fun a' n c' b' m d'=>.agg #[.slice a' n c',.slice b' m d',.int .i64 E]) hw'.below ⟨rfl,rfl⟩
 rw [hE] at hck
 obtain ⟨ho,_,hc3⟩:=runs_ok hE
 rcases Nat.eq_zero_or_pos l.length with h0|h0
 ·have hJ:cutE' l at_=(([],[]),1):=by rw [cutE',if_neg (by rw [hE];decide),if_pos (.inl h0)]
  rw [hJ]
  refine enterA [(0,.slice a l.length c),(1,.int .i64 at_)] Tryz.func37 Tryz.ntmps37 ?_
  all_goals (refine go ?_;and_intros<;>(try exact trivial)<;>repeat (first|refine fun (Bk:Nat)=>?_|intro h))
  repeat' ((first|(refine G.cvb hck ?_))<;>(refine go ?_;and_intros<;>(try exact trivial)<;>repeat (first|refine fun (Bk:Nat)=>?_|intro h)))
  refine ret1 Tryz.func37 Tryz.results37 ?_
  exact fun w' hw'=>RetU2.nil (fun a' n c' b' m d'=>.agg #[.slice a' n c',.slice b' m d',.int .i64 1]) hw'.below ⟨rfl,rfl⟩
 obtain ⟨ba,oa,rfl,hra⟩:=SlAt.all hA.1 (by omega)
 have r0:=hra 0 (by omega)
 have r1:=hra (l.length-1) (by omega)
 have hz:(l.length:Int)-1=((l.length-1:Nat):Int):=by omega
 have r0':=r0
 have r1':=r1
 rw [show rnV l[0]=[.int .i64 l[0].from_,.int .i64 l[0].to_,.slice l[0].adr l[0].tab.length l[0].cap,.int .i64 l[0].lo,.int .i64 l[0].hi] from rfl] at r0'
 rw [show rnV l[l.length-1]=[.int .i64 (l[l.length-1]).from_,.int .i64 (l[l.length-1]).to_,.slice (l[l.length-1]).adr (l[l.length-1]).tab.length (l[l.length-1]).cap,.int .i64 (l[l.length-1]).lo,.int .i64 (l[l.length-1]).hi] from rfl] at r1'
 have hJ1:(at_ < l[0].from_∨(l[l.length-1]).to_ < at_)→cutE' l at_=(([],[]),1):=fun hr=>by rw [cutE',if_neg (by rw [hE];decide),lastD_at h0,headD_at h0,if_pos (.inr hr)]
 by_cases hr1:at_ < l[0].from_
 ·rw [hJ1 (.inl hr1)]
  clear hJ1
  refine enterA [(0,.slice (some ⟨ba,oa,none⟩) l.length c),(1,.int .i64 at_)] Tryz.func37 Tryz.ntmps37 ?_
  all_goals (refine go ?_;and_intros<;>(try exact trivial)<;>repeat (first|refine fun (Bk:Nat)=>?_|intro h))
  repeat' ((first|(refine G.cvb hck ?_)|(apply G.ix (i:=l.length-1);rfl;rfl;exact hz;omega;rfl)|(apply G.ix (i:=0);rfl;rfl;exact rfl;omega;rfl))<;>(refine go ?_;and_intros<;>(try exact trivial)<;>repeat (first|refine fun (Bk:Nat)=>?_|intro h)))
  refine ret1 Tryz.func37 Tryz.results37 ?_
  exact fun w' hw'=>RetU2.nil (fun a' n c' b' m d'=>.agg #[.slice a' n c',.slice b' m d',.int .i64 1]) hw'.below ⟨rfl,rfl⟩
 by_cases hr2:(l[l.length-1]).to_ < at_
 ·rw [hJ1 (.inr hr2)]
  clear hJ1
  refine enterA [(0,.slice (some ⟨ba,oa,none⟩) l.length c),(1,.int .i64 at_)] Tryz.func37 Tryz.ntmps37 ?_
  all_goals (refine go ?_;and_intros<;>(try exact trivial)<;>repeat (first|refine fun (Bk:Nat)=>?_|intro h))
  repeat' ((first|(refine G.cvb hck ?_)|(apply G.ix (i:=l.length-1);rfl;rfl;exact hz;omega;rfl)|(apply G.ix (i:=0);rfl;rfl;exact rfl;omega;rfl))<;>(refine go ?_;and_intros<;>(try exact trivial)<;>repeat (first|refine fun (Bk:Nat)=>?_|intro h)))
  refine ret1 Tryz.func37 Tryz.results37 ?_
  exact fun w' hw'=>RetU2.nil (fun a' n c' b' m d'=>.agg #[.slice a' n c',.slice b' m d',.int .i64 1]) hw'.below ⟨rfl,rfl⟩
 have hJ0:cutE' l at_=match cutF at_ ([],[]) l with
  | none=>(([],[]),29)
  | some o=>(o,0):=by rw [cutE',if_neg (by rw [hE];decide),lastD_at h0,headD_at h0,if_neg (by omega)];rfl
 rw [hJ0]
 have hcn:=(hc3 (fun e=>by rw [e] at h0;exact absurd h0 (Nat.lt_irrefl _))).1
 refine enterA [(0,.slice (some ⟨ba,oa,none⟩) l.length c),(1,.int .i64 at_)] Tryz.func37 Tryz.ntmps37 ?_
 all_goals (refine go ?_;and_intros<;>(try exact trivial)<;>repeat (first|refine fun (Bk:Nat)=>?_|intro h))
 repeat' ((first|(refine G.cvb hck ?_)|(apply G.ix (i:=l.length-1);rfl;rfl;exact hz;omega;rfl)|(apply G.ix (i:=0);rfl;rfl;exact rfl;omega;rfl))<;>(refine go ?_;and_intros<;>(try exact trivial)<;>repeat (first|refine fun (Bk:Nat)=>?_|intro h)))
 clear hck r0 r1 r0' r1' hJ0 hJ1
 refine J.tfamOld hA ?_
 apply J.nilOwn (E:=90) (size:=5)
 apply J.nilOwn (E:=90) (size:=5)
 apply J.fam0 Rn.adr 2 (fun r=>r.tab.map hoV)
 apply J.fam0 Rn.adr 2 (fun r=>r.tab.map hoV)
 refine J.loop (c:=_) ((0,none,0,[],none,0,[]):Nat×Option Addr×Nat×List Rn×Option Addr×Nat×List Rn) (fun s=>l.length-s.1) (fun s=>[(0,.slice (some ⟨ba,oa,none⟩) l.length c),(1,.int .i64 at_),(4,.pointer (some ⟨_,0,none⟩)),(6,.pointer (some ⟨_,0,none⟩)),(7,.int .i64 s.1)]) (fun s=>[tfam w.heap.size s.2.2.2.1,tfam w.heap.size s.2.2.2.2.2.2,.own 0 (.slice s.2.1 s.2.2.2.1.length s.2.2.1) 90 5 s.2.2.2.1.length (flat rnV s.2.2.2.1),.own 0 (.slice s.2.2.2.2.1 s.2.2.2.2.2.2.length s.2.2.2.2.2.1) 90 5 s.2.2.2.2.2.2.length (flat rnV s.2.2.2.2.2.2),tfam w.heap.size l,.blk _ 74 [.slice s.2.1 s.2.2.2.1.length s.2.2.1,.slice s.2.2.2.2.1 s.2.2.2.2.2.2.length s.2.2.2.2.2.1,.int .i64 0] 3,.blk _ 74 [.slice none 0 0,.slice none 0 0,.int .i64 0] 3]) (fun s=>CtAt at_ l s.1 s.2.2.2.1 s.2.2.2.2.2.2∧(s.2.2.2.1.length≤s.1∧s.2.2.2.2.2.2.length≤s.1)∧srcR w.heap.size l s.2.2.2.1∧srcR w.heap.size l s.2.2.2.2.2.2) ?_ sbT sbL ?_
 ·exact ⟨⟨Nat.zero_le _,rfl⟩,⟨Nat.le_refl _,Nat.le_refl _⟩,srcR.nil,srcR.nil⟩
 intro ⟨k,au,cu,A,bu,du,B⟩ ⟨h1,⟨h2,h3⟩,h4,h5⟩ ih
 dsimp only at h1 h2 h3 h4 h5 ⊢
 by_cases hk:k < l.length
 ·have hrk:=hra k hk
  have hmC:=List.getElem_mem hk
  have hok:=ho _ hmC
  have htb:=hA.2 _ hmC
  have ih1:=fun a' c' b' d' (a2 b2:List Rn) (e1:cutR at_ (rbare l[k])=some (a2.map rbare,b2.map rbare)) (e2:a2.length≤1∧b2.length≤1) (e3:srcR w.heap.size l a2) (e4:srcR w.heap.size l b2)=>ih (k+1,a',c',A++a2,b',d',B++b2) ⟨h1.step hk e1,⟨by dsimp only;rw [List.length_append];omega,by dsimp only;rw [List.length_append];omega⟩,h4.app e3,h5.app e4⟩ (by dsimp only;omega)
  have hbad:=fun e=>cutF_no (h1.bad hk e)
  dsimp only at ih1
  clear ih h1 ho hA hra
  generalize l[k]=x at *
  have hrg:=hok.rng
  have hself:srcR w.heap.size l [x]:=srcR.self fun r hr=>by rw [List.mem_singleton.1 hr];exact hmC
  by_cases hc1:x.to_≤at_
  ·have ih2:=fun a' c'=>ih1 a' c' bu du [x] [] (by rw [cutR_bare,cutR,if_pos hc1];rfl) ⟨Nat.le_refl _,Nat.zero_le _⟩ hself srcR.nil
   rw [List.append_nil,show (A++[x]).length=A.length+1 by simp] at ih2
   have hap:flat rnV A++rnV x=flat rnV (A++[x]):=flat1 rnV _ _
   clear ih1 hbad hself
   obtain ⟨xf,xt,tab,adr,cx,lo,hi⟩:=x
   dsimp only [rnV] at *
   all_goals (refine go ?_;and_intros<;>(try exact trivial)<;>repeat (first|refine fun (Bk:Nat)=>?_|intro h))
   repeat' ((first|(apply G.sliceL;rfl;rfl;rfl;rfl;rfl;rfl;rfl;rfl;intro Bs)|(apply G.apV;rfl;rfl;rfl;(repeat (first|exact RAt.head|apply RAt.tail));exact SrcV.blk (by exact mm) rfl rfl;exact hap;omega;omega;intro a2 c2)|(apply G.s1;rfl;rfl;rfl;(repeat (first|exact RAt.head|apply RAt.tail));exact ⟨rfl,rfl⟩;exact Nat.le_of_ble_eq_true rfl;rfl))<;>(refine go ?_;and_intros<;>(try exact trivial)<;>repeat (first|refine fun (Bk:Nat)=>?_|intro h)))
   refine J.tfamTo (o:=A) (l:=l) (A++[⟨xf,xt,tab,adr,cx,lo,hi⟩]) mm mm (fun r hr=>(List.mem_append.1 hr).imp id fun hr=>by rw [List.mem_singleton.1 hr];exact hmC) ?_
   exact J.finS (ih2 a2 c2)
  by_cases hc2:at_≤x.from_
  ·have ih2:=fun b' d'=>ih1 au cu b' d' [] [x] (by rw [cutR_bare,cutR,if_neg hc1,if_pos hc2];rfl) ⟨Nat.zero_le _,Nat.le_refl _⟩ srcR.nil hself
   rw [List.append_nil,show (B++[x]).length=B.length+1 by simp] at ih2
   have hap:flat rnV B++rnV x=flat rnV (B++[x]):=flat1 rnV _ _
   clear ih1 hbad hself
   obtain ⟨xf,xt,tab,adr,cx,lo,hi⟩:=x
   dsimp only [rnV] at *
   all_goals (refine go ?_;and_intros<;>(try exact trivial)<;>repeat (first|refine fun (Bk:Nat)=>?_|intro h))
   repeat' ((first|(apply G.sliceL;rfl;rfl;rfl;rfl;rfl;rfl;rfl;rfl;intro Bs)|(apply G.apV (v:=.slice bu B.length du);rfl;rfl;rfl;(repeat (first|exact RAt.head|apply RAt.tail));exact SrcV.blk (by exact mm) rfl rfl;exact hap;omega;omega;intro a2 c2)|(apply G.s1;rfl;rfl;rfl;(repeat (first|exact RAt.head|apply RAt.tail));exact ⟨rfl,rfl⟩;exact Nat.le_of_ble_eq_true rfl;rfl))<;>(refine go ?_;and_intros<;>(try exact trivial)<;>repeat (first|refine fun (Bk:Nat)=>?_|intro h)))
   refine J.tfamTo (o:=B) (l:=l) (B++[⟨xf,xt,tab,adr,cx,lo,hi⟩]) mm mm (fun r hr=>(List.mem_append.1 hr).imp id fun hr=>by rw [List.mem_singleton.1 hr];exact hmC) ?_
   exact J.finS (ih2 a2 c2)
  clear hself
  by_cases hmu:1 < x.tab.length
  ·rw [hbad (by rw [cutR_bare,cutR,if_neg hc1,if_neg hc2,if_pos hmu];rfl)]
   clear ih1 hbad
   obtain ⟨xf,xt,tab,adr,cx,lo,hi⟩:=x
   dsimp only [rnV,rnA] at *
   all_goals (refine go ?_;and_intros<;>(try exact trivial)<;>repeat (first|refine fun (Bk:Nat)=>?_|intro h))
   refine ret1 Tryz.func37 Tryz.results37 ?_
   exact fun w' hw'=>RetU2.nil (fun a' n c' b' m d'=>.agg #[.slice a' n c',.slice b' m d',.int .i64 29]) hw'.below ⟨rfl,rfl⟩
  have la1:∀ y:Rn,(A++[y]).length=A.length+1:=fun y=>by simp
  have lb1:∀ y:Rn,(B++[y]).length=B.length+1:=fun y=>by simp
  by_cases ht1:x.tab.length=1
  ·obtain ⟨hrx,hs1,hs2⟩:=hok.raw ht1
   have ih2:=fun a' c' b' d' (y1 y2:Rn) (e1:rbare y1=mkR x.from_ at_ (stg x)) (e2:rbare y2=mkR at_ x.to_ (stg x)) (e3:∀ p,y1.adr=some p→w.heap.size≤p.block) (e4:∀ p,y2.adr=some p→w.heap.size≤p.block)=>ih1 a' c' b' d' [y1] [y2] (by rw [cutR_bare,cutR,if_neg hc1,if_neg hc2,if_neg hmu,if_pos ht1,List.map_cons,List.map_cons,e1,e2];rfl) ⟨Nat.le_refl _,Nat.le_refl _⟩ (srcR.one (.inr (.inl e3))) (srcR.one (.inr (.inl e4)))
   simp only [la1,lb1] at ih2
   have hh1:=fun w'=>rMk_holds x.from_ at_ (stg x) w' (by omega) (by omega)
   have hh2:=fun w'=>rMk_holds at_ x.to_ (stg x) w' (by omega) (by omega)
   have hst:x.tab=[(stg x,x.to_-x.from_)]:=hrx.1
   clear ih1 hbad hrx
   generalize stg x=st0 at *
   obtain ⟨xf,xt,tab,adr,cx,lo,hi⟩:=x
   dsimp only [rnV,rnA] at *
   subst hst
   obtain ⟨b2,o2,rfl,htr⟩:=SlAt.all htb (Nat.succ_pos _)
   have htr:=htr 0 (Nat.succ_pos _)
   have hap1:=fun a1 c1=>flat1 rnV A ⟨xf,at_,[(st0,at_-xf)],a1,c1,0,0⟩
   have hap2:=fun a1 c1=>flat1 rnV B ⟨at_,xt,[(st0,xt-at_)],a1,c1,0,0⟩
   dsimp only [List.length_cons,List.length_nil,hoV,List.getElem_cons_zero] at *
   all_goals (refine goR ?_;and_intros<;>(try exact trivial)<;>repeat (first|refine fun (Bk:Nat)=>?_|intro h))
   repeat' ((first|(apply J.regA (.q 0 <| .q 1 <| .q 2 <| .q 3 <| .q 4 <| .q 5 <| .q 6 <| .q 7 <| .q 8 <| .q 9 <| .e 10 <| .e 11 <| .r 12 <| .q 13 <| .r 14 <| .nil);exact Tryz.mixed;decide +kernel)|(apply G.cN (g:=87) (vs:=[.int .i64 xf,.int .i64 at_,.int .i64 st0]) (fun a' c'=>.agg #[.int .i64 xf,.int .i64 at_,.slice a' 1 c',.int .i64 0,.int .i64 0]) ([(st0,at_-xf)].map hoV);rfl;rfl;exact fun w' _=>hh1 w';intro a1 c1 hp1 hq1)|(apply G.cN (g:=87) (vs:=[.int .i64 at_,.int .i64 xt,.int .i64 st0]) (fun a' c'=>.agg #[.int .i64 at_,.int .i64 xt,.slice a' 1 c',.int .i64 0,.int .i64 0]) ([(st0,xt-at_)].map hoV);rfl;rfl;exact fun w' _=>hh2 w';intro a2 c2 hp2 hq2)|(apply G.sliceL;rfl;rfl;rfl;rfl;rfl;rfl;rfl;rfl;intro Bs)|(apply G.apV (v:=.slice au A.length cu);rfl;rfl;rfl;(repeat (first|exact RAt.head|apply RAt.tail));exact SrcV.blk (by exact mm) rfl rfl;exact hap1 a1 c1;omega;omega;intro a3 c3)|(apply G.apV (v:=.slice bu B.length du);rfl;rfl;rfl;(repeat (first|exact RAt.head|apply RAt.tail));exact SrcV.blk (by exact mm) rfl rfl;exact hap2 a2 c2;omega;omega;intro a4 c4)|(apply G.s1;rfl;rfl;rfl;(repeat (first|exact RAt.head|apply RAt.tail));exact ⟨rfl,rfl⟩;exact Nat.le_of_ble_eq_true rfl;rfl)|(apply J.regQ;exact Tryz.mixed;decide +kernel)|(apply J.regL';exact Tryz.mixed;decide +kernel))<;>(refine goR ?_;and_intros<;>(try exact trivial)<;>repeat (first|refine fun (Bk:Nat)=>?_|intro h)))
   refine J.famAdd (r:=(⟨xf,at_,[(st0,at_-xf)],a1,c1,0,0⟩:Rn)) (o:=A) mm mm ?_
   refine J.famAdd (r:=(⟨at_,xt,[(st0,xt-at_)],a2,c2,0,0⟩:Rn)) (o:=B) mm mm ?_
   exact J.finS (ih2 a3 c3 a4 c4 ⟨xf,at_,[(st0,at_-xf)],a1,c1,0,0⟩ ⟨at_,xt,[(st0,xt-at_)],a2,c2,0,0⟩ rfl rfl hq1 hq2)
  have hg0:x.tab.length=0:=by omega
  have ih2:=fun a' c' b' d' (y1 y2:Rn) (e1:rbare y1=rbare { x with to_:=at_ }) (e2:rbare y2=rbare { x with from_:=at_ }) (e3:y1.tab.length=0) (e4:y2.tab.length=0)=>ih1 a' c' b' d' [y1] [y2] (by rw [cutR_bare,cutR,if_neg hc1,if_neg hc2,if_neg hmu,if_neg ht1,List.map_cons,List.map_cons,e1,e2];rfl) ⟨Nat.le_refl _,Nat.le_refl _⟩ (srcR.one (.inl e3)) (srcR.one (.inl e4))
  simp only [la1,lb1] at ih2
  clear ih1 hbad
  obtain ⟨xf,xt,tab,adr,cx,lo,hi⟩:=x
  dsimp only [rnV,rnA] at *
  obtain rfl:=List.length_eq_zero_iff.1 hg0
  have hap1:flat rnV A++[.int .i64 xf,.int .i64 at_,.slice none 0 0,.int .i64 lo,.int .i64 hi]=_:=flat1 rnV A ⟨xf,at_,[],none,0,lo,hi⟩
  have hap2:flat rnV B++[.int .i64 at_,.int .i64 xt,.slice none 0 0,.int .i64 lo,.int .i64 hi]=_:=flat1 rnV B ⟨at_,xt,[],none,0,lo,hi⟩
  dsimp only [List.length_nil] at *
  all_goals (refine go ?_;and_intros<;>(try exact trivial)<;>repeat (first|refine fun (Bk:Nat)=>?_|intro h))
  repeat' ((first|(apply G.sliceL;rfl;rfl;rfl;rfl;rfl;rfl;rfl;rfl;intro Bs)|(apply G.apV (v:=.slice au A.length cu);rfl;rfl;rfl;(repeat (first|exact RAt.head|apply RAt.tail));exact SrcV.blk (by exact mm) rfl rfl;exact hap1;omega;omega;intro a3 c3)|(apply G.apV (v:=.slice bu B.length du);rfl;rfl;rfl;(repeat (first|exact RAt.head|apply RAt.tail));exact SrcV.blk (by exact mm) rfl rfl;exact hap2;omega;omega;intro a4 c4)|(apply G.s1;rfl;rfl;rfl;(repeat (first|exact RAt.head|apply RAt.tail));exact ⟨rfl,rfl⟩;exact Nat.le_of_ble_eq_true rfl;rfl))<;>(refine go ?_;and_intros<;>(try exact trivial)<;>repeat (first|refine fun (Bk:Nat)=>?_|intro h)))
  refine J.tfamGap (o:=A) A ⟨xf,at_,[],none,0,lo,hi⟩ mm (fun r hr=>hr) rfl ?_
  refine J.tfamGap (o:=B) B ⟨at_,xt,[],none,0,lo,hi⟩ mm (fun r hr=>hr) rfl ?_
  exact J.finS (ih2 a3 c3 a4 c4 ⟨xf,at_,[],none,0,lo,hi⟩ ⟨at_,xt,[],none,0,lo,hi⟩ rfl rfl rfl rfl)
 ·obtain rfl:k=l.length:=by have:=h1.le;omega
  have h6:=h1.eq
  rw [List.take_length] at h6
  obtain ⟨o,h7,h8,h9⟩:=cutF_ok h6
  rw [h7]
  clear ih
  all_goals (refine go ?_;and_intros<;>(try exact trivial)<;>repeat (first|refine fun (Bk:Nat)=>?_|intro h))
  refine ret1 Tryz.func37 Tryz.results37 ?_
  exact fun w' hw'=>Sat.retU2 (fun a' n c' b' m d'=>.agg #[.slice a' n c',.slice b' m d',.int .i64 0]) hw' ⟨h8,h9⟩ rfl rfl h4 h5
end Go.Proofs.YtcdgibkbbcekhaaGreatDoor
