/-
  Contract: run.Cut.
-/
import Derived.Test.YtcdgibkbbcekhaaGreatDoorRA20
set_option linter.unusedVariables false
set_option linter.unusedSimpArgs false
set_option linter.unusedSectionVars false
namespace Go.Proofs.YtcdgibkbbcekhaaGreatDoor
open Go.RowKit Go.Sl Go.Num
set_option maxHeartbeats 4000000 in
theorem runCut_holds (a:Option Addr) (l:List Rn) (c:Nat) (at_:Int) (w:World) (hA:RunsAt w a l) (hta:∀ r∈l,r.tab.length≤64) (hl:l.length≤400) :
  Calls Tryz.prog 33 #[.slice a l.length c,.int .i64 at_] w (RetU2 [] (fun A B=>A.map rbare=(cutE' l at_).1.1.map rbare∧B.map rbare=(cutE' l at_).1.2.map rbare) (fun a' n c' b' m d'=>.tuple #[.slice a' n c',.slice b' m d',.int .i64 (cutE' l at_).2]) w):=by
 have hck:=fun w' (hb:Below w.heap.size w w')=>vRuns_holds a l c w' (hA.below hb) hta
 by_cases hE:runsErr l=0
 case neg =>
  have hJ:cutE' l at_=(([],[]),runsErr l):=by rw [cutE',if_pos hE]
  rw [hJ]
  generalize runsErr l=E at *
  refine enterA [(0,.slice a l.length c),(1,.int .i64 at_)] Tryz.func33 Tryz.ntmps33 ?_
  all_goals (refine go ?_;and_intros<;>(try exact trivial)<;>repeat (first|refine fun (Bk:Nat)=>?_|intro h))
  repeat' ((first|(refine G.cvb hck ?_))<;>(refine go ?_;and_intros<;>(try exact trivial)<;>repeat (first|refine fun (Bk:Nat)=>?_|intro h)))
  refine ret3 Tryz.func33 Tryz.results33 ?_
  exact fun w' hw'=>RetU2.nil (fun a' n c' b' m d'=>.tuple #[.slice a' n c',.slice b' m d',.int .i64 E]) hw'.below ⟨rfl,rfl⟩
 rw [hE] at hck
 obtain ⟨ho,_,hc3⟩:=runs_ok hE
 rcases Nat.eq_zero_or_pos l.length with h0|h0
 ·have hJ:cutE' l at_=(([],[]),1):=by rw [cutE',if_neg (by rw [hE];decide),if_pos (.inl h0)]
  rw [hJ]
  refine enterA [(0,.slice a l.length c),(1,.int .i64 at_)] Tryz.func33 Tryz.ntmps33 ?_
  all_goals (refine go ?_;and_intros<;>(try exact trivial)<;>repeat (first|refine fun (Bk:Nat)=>?_|intro h))
  repeat' ((first|(refine G.cvb hck ?_))<;>(refine go ?_;and_intros<;>(try exact trivial)<;>repeat (first|refine fun (Bk:Nat)=>?_|intro h)))
  refine ret3 Tryz.func33 Tryz.results33 ?_
  exact fun w' hw'=>RetU2.nil (fun a' n c' b' m d'=>.tuple #[.slice a' n c',.slice b' m d',.int .i64 1]) hw'.below ⟨rfl,rfl⟩
 obtain ⟨ba,oa,rfl,hra⟩:=SlAt.all hA.1 (by omega)
 have r0:=hra 0 (by omega)
 have r1:=hra (l.length-1) (by omega)
 have hz:(l.length:Int)-1=((l.length-1:Nat):Int):=by omega
 have r0':=r0
 have r1':=r1
 rw [show rnV l[0]=[.int .i64 l[0].from_,.int .i64 l[0].to_,.slice l[0].adr l[0].tab.length l[0].cap,.int .i64 l[0].lo,.int .i64 l[0].hi] from rfl] at r0'
 rw [show rnV l[l.length-1]=[.int .i64 (l[l.length-1]).from_,.int .i64 (l[l.length-1]).to_,.slice (l[l.length-1]).adr (l[l.length-1]).tab.length (l[l.length-1]).cap,.int .i64 (l[l.length-1]).lo,.int .i64 (l[l.length-1]).hi] from rfl] at r1'
 have hwi:=fun w'=>within_holds at_ l[0].from_ (l[l.length-1]).to_ w'
 by_cases hr:at_ < l[0].from_∨(l[l.length-1]).to_ < at_
 ·have hJ:cutE' l at_=(([],[]),1):=by rw [cutE',if_neg (by rw [hE];decide),lastD_at h0,headD_at h0,if_pos (.inr hr)]
  rw [hJ]
  rw [decide_eq_false (by omega)] at hwi
  refine enterA [(0,.slice (some ⟨ba,oa,none⟩) l.length c),(1,.int .i64 at_)] Tryz.func33 Tryz.ntmps33 ?_
  all_goals (refine go ?_;and_intros<;>(try exact trivial)<;>repeat (first|refine fun (Bk:Nat)=>?_|intro h))
  repeat' ((first|(refine G.cvb hck ?_)|(apply G.ix (i:=l.length-1);rfl;rfl;exact hz;omega;rfl)|(apply G.ix (i:=0);rfl;rfl;exact rfl;omega;rfl)|(apply G.cV (g:=94);rfl;rfl;exact fun w' _=>hwi w'))<;>(refine go ?_;and_intros<;>(try exact trivial)<;>repeat (first|refine fun (Bk:Nat)=>?_|intro h)))
  refine ret3 Tryz.func33 Tryz.results33 ?_
  exact fun w' hw'=>RetU2.nil (fun a' n c' b' m d'=>.tuple #[.slice a' n c',.slice b' m d',.int .i64 1]) hw'.below ⟨rfl,rfl⟩
 have hJ0:cutE' l at_=match cutF at_ ([],[]) l with
  | none=>(([],[]),29)
  | some o=>(o,0):=by rw [cutE',if_neg (by rw [hE];decide),lastD_at h0,headD_at h0,if_neg (by omega)];rfl
 rw [hJ0]
 rw [decide_eq_true (by omega)] at hwi
 have cpa:=fun M w' (hw':Sat w M w')=>copied_holds (some ⟨ba,oa,none⟩) l c w w' M hw' hA (by omega) fun r hr=>Nat.le_trans (hta r hr) (by decide)
 have hcn:=(hc3 (fun e=>by rw [e] at h0;exact absurd h0 (Nat.lt_irrefl _))).1
 refine enterA [(0,.slice (some ⟨ba,oa,none⟩) l.length c),(1,.int .i64 at_)] Tryz.func33 Tryz.ntmps33 ?_
 all_goals (refine go ?_;and_intros<;>(try exact trivial)<;>repeat (first|refine fun (Bk:Nat)=>?_|intro h))
 repeat' ((first|(refine G.cvb hck ?_)|(apply G.ix (i:=l.length-1);rfl;rfl;exact hz;omega;rfl)|(apply G.ix (i:=0);rfl;rfl;exact rfl;omega;rfl)|(apply G.cV (g:=94);rfl;rfl;exact fun w' _=>hwi w')|(refine G.cR (g:=98) (v:=fun x:{ x:List Rn×Option Addr×Nat // x.1.map rbare=l.map rbare∧newT w.heap.size x.1 }=>.slice x.1.2.1 l.length x.1.2.2) (Mn:=fun x=>[.own 0 (.slice x.1.2.1 l.length x.1.2.2) 90 5 l.length (flat rnV x.1.1),tfam w.heap.size x.1.1]) rfl rfl (cpa _) ?_;rintro ⟨⟨LC,a1,c1⟩,hA1,hA2⟩;dsimp only [List.cons_append,List.nil_append] at hA1 hA2 ⊢))<;>(refine go ?_;and_intros<;>(try exact trivial)<;>repeat (first|refine fun (Bk:Nat)=>?_|intro h)))
 clear hck hwi cpa r0 r1 r0' r1' hJ0
 have lC:LC.length=l.length:=by rw [← List.length_map (f:=rbare),hA1,List.length_map]
 refine J.ownOpen RAt.au h0 ?_
 intro g cap hgc hcm hv
 rw [hv]
 clear hv
 refine J.blkCut (l':=LC) l.length rnV_len RAt.au hgc hcm (by omega) (List.take_of_length_le (by omega)) ?_
 refine J.ownSlR (a:=some ⟨g,0,none⟩) (c:=cap) (n:=l.length) (l:=LC) rnV_len (by (repeat (first|exact Pick.head|apply Pick.tail))) lC ?_
 apply J.nilOwn (E:=90) (size:=5)
 apply J.nilOwn (E:=90) (size:=5)
 apply J.fam0 Rn.adr 2 (fun r=>r.tab.map hoV)
 apply J.fam0 Rn.adr 2 (fun r=>r.tab.map hoV)
 have hbr:∀ k (h1:k < LC.length) (h2:k < l.length),rbare LC[k]=rbare l[k]:=fun k h1 h2=>by
  have h5:(LC.map rbare)[k]'(by rw [List.length_map];exact h1)=(l.map rbare)[k]'(by rw [List.length_map];exact h2):=by simp only [hA1]
  rwa [List.getElem_map,List.getElem_map] at h5
 refine J.loop (c:=_) ((0,none,0,[],none,0,[]):Nat×Option Addr×Nat×List Rn×Option Addr×Nat×List Rn) (fun s=>l.length-s.1) (fun s=>[(1,.int .i64 at_),(4,.slice s.2.1 s.2.2.2.1.length s.2.2.1),(5,.slice s.2.2.2.2.1 s.2.2.2.2.2.2.length s.2.2.2.2.2.1),(37,.slice (some ⟨g,0,none⟩) l.length cap),(38,.int .i64 l.length),(39,.int .i64 s.1)]) (fun s=>[tfam w.heap.size s.2.2.2.1,tfam w.heap.size s.2.2.2.2.2.2,.own 0 (.slice s.2.1 s.2.2.2.1.length s.2.2.1) 90 5 s.2.2.2.1.length (flat rnV s.2.2.2.1),.own 0 (.slice s.2.2.2.2.1 s.2.2.2.2.2.2.length s.2.2.2.2.2.1) 90 5 s.2.2.2.2.2.2.length (flat rnV s.2.2.2.2.2.2),slRow w.heap.size (some ⟨g,0,none⟩) 5 (LC.map rnV),tfam w.heap.size LC]) (fun s=>CtAt at_ l s.1 s.2.2.2.1 s.2.2.2.2.2.2∧(s.2.2.2.1.length≤s.1∧s.2.2.2.2.2.2.length≤s.1)∧newT w.heap.size s.2.2.2.1∧newT w.heap.size s.2.2.2.2.2.2) ?_ sbT sbL ?_
 ·exact ⟨⟨Nat.zero_le _,rfl⟩,⟨Nat.le_refl _,Nat.le_refl _⟩,fun r hr=>(by cases hr),fun r hr=>by cases hr⟩
 intro ⟨k,au,cu,A,bu,du,B⟩ ⟨h1,⟨h2,h3⟩,h4,h5⟩ ih
 dsimp only at h1 h2 h3 h4 h5 ⊢
 by_cases hk:k < l.length
 ·have hkC:k < LC.length:=by omega
  have hld:∀ {C:Ctx}{M:List Row} [TAgg C.P 90 5],slRow w.heap.size (some ⟨g,0,none⟩) 5 (LC.map rnV)∈M→LdV C M 90 ⟨g,0+k*5,none⟩ (.agg (rnV LC[k]).toArray):=fun {C M} _ hm=>LdV.aggSl (C:=C) (M:=M) (T:=90) (n:=5) (f:=rnV) (l:=LC) hm (i:=k) hkC rfl
  have hmC:=List.getElem_mem hkC
  have hb:=hbr k hkC hk
  have hok:=ho _ (List.getElem_mem hk)
  have hnw:=hA2 _ hmC
  have ih1:=fun a' c' b' d' (a2 b2:List Rn) (e1:cutR at_ (rbare l[k])=some (a2.map rbare,b2.map rbare)) (e2:a2.length≤1∧b2.length≤1) (e3:newT w.heap.size a2) (e4:newT w.heap.size b2)=>ih (k+1,a',c',A++a2,b',d',B++b2) ⟨h1.step hk e1,⟨by dsimp only;rw [List.length_append];omega,by dsimp only;rw [List.length_append];omega⟩,h4.app e3,h5.app e4⟩ (by dsimp only;omega)
  have hbad:=fun e=>cutF_no (h1.bad hk e)
  have hokC:OkR LC[k]:=ok_bare.1 (by rw [hb];exact ok_bare.2 hok)
  dsimp only at ih1
  rw [← hb] at ih1 hbad
  clear ih hbr hb hok h1 ho
  have hrw:=fun w'=>raw_holds LC[k] w'
  have hgp:=fun w'=>gap_holds LC[k] w'
  generalize LC[k]=x at *
  have hrg:=hokC.rng
  by_cases hc1:x.to_≤at_
  ·have ih2:=fun a' c'=>ih1 a' c' bu du [x] [] (by rw [cutR_bare,cutR,if_pos hc1];rfl) ⟨Nat.le_refl _,Nat.zero_le _⟩ (fun r hr=>by rw [List.mem_singleton.1 hr];exact hnw) (fun r hr=>by cases hr)
   rw [List.append_nil,show (A++[x]).length=A.length+1 by simp] at ih2
   have hap:flat rnV A++rnV x=flat rnV (A++[x]):=flat1 rnV _ _
   clear ih1 hbad hrw hgp
   obtain ⟨xf,xt,tab,adr,cx,lo,hi⟩:=x
   dsimp only [rnV] at *
   all_goals (refine go ?_;and_intros<;>(try exact trivial)<;>repeat (first|refine fun (Bk:Nat)=>?_|intro h))
   repeat' ((first|(apply G.ix (i:=k);rfl;rfl;exact rfl;exact hk;rfl)|(apply G.ld;rfl;exact hld (by exact mm);rfl)|(apply G.sliceL;rfl;rfl;rfl;rfl;rfl;rfl;rfl;rfl;intro Bs)|(apply G.apV;rfl;rfl;rfl;(repeat (first|exact RAt.head|apply RAt.tail));exact SrcV.blk (by exact mm) rfl rfl;exact hap;omega;omega;intro a2 c2))<;>(refine go ?_;and_intros<;>(try exact trivial)<;>repeat (first|refine fun (Bk:Nat)=>?_|intro h)))
   refine J.tfamTo (o:=A) (l:=LC) (A++[⟨xf,xt,tab,adr,cx,lo,hi⟩]) mm mm (fun r hr=>(List.mem_append.1 hr).imp id fun hr=>by rw [List.mem_singleton.1 hr];exact hmC) ?_
   exact J.finS (ih2 a2 c2)
  by_cases hc2:at_≤x.from_
  ·have ih2:=fun b' d'=>ih1 au cu b' d' [] [x] (by rw [cutR_bare,cutR,if_neg hc1,if_pos hc2];rfl) ⟨Nat.zero_le _,Nat.le_refl _⟩ (fun r hr=>by cases hr) (fun r hr=>by rw [List.mem_singleton.1 hr];exact hnw)
   rw [List.append_nil,show (B++[x]).length=B.length+1 by simp] at ih2
   have hap:flat rnV B++rnV x=flat rnV (B++[x]):=flat1 rnV _ _
   clear ih1 hbad hrw hgp
   obtain ⟨xf,xt,tab,adr,cx,lo,hi⟩:=x
   dsimp only [rnV] at *
   all_goals (refine go ?_;and_intros<;>(try exact trivial)<;>repeat (first|refine fun (Bk:Nat)=>?_|intro h))
   repeat' ((first|(apply G.ix (i:=k);rfl;rfl;exact rfl;exact hk;rfl)|(apply G.ld;rfl;exact hld (by exact mm);rfl)|(apply G.sliceL;rfl;rfl;rfl;rfl;rfl;rfl;rfl;rfl;intro Bs)|(apply G.apV (v:=.slice bu B.length du);rfl;rfl;rfl;(repeat (first|exact RAt.head|apply RAt.tail));exact SrcV.blk (by exact mm) rfl rfl;exact hap;omega;omega;intro a2 c2))<;>(refine go ?_;and_intros<;>(try exact trivial)<;>repeat (first|refine fun (Bk:Nat)=>?_|intro h)))
   refine J.tfamTo (o:=B) (l:=LC) (B++[⟨xf,xt,tab,adr,cx,lo,hi⟩]) mm mm (fun r hr=>(List.mem_append.1 hr).imp id fun hr=>by rw [List.mem_singleton.1 hr];exact hmC) ?_
   exact J.finS (ih2 a2 c2)
  by_cases ht1:x.tab.length=1
  ·obtain ⟨hrx,hs1,hs2⟩:=hokC.raw ht1
   rw [decide_eq_true ht1] at hrw
   have ih2:=fun a' c' b' d' (y1 y2:Rn) (e1:rbare y1=mkR x.from_ at_ (stg x)) (e2:rbare y2=mkR at_ x.to_ (stg x)) (e3:∀ p,y1.adr=some p→w.heap.size≤p.block) (e4:∀ p,y2.adr=some p→w.heap.size≤p.block)=>ih1 a' c' b' d' [y1] [y2] (by rw [cutR_bare,cutR,if_neg hc1,if_neg hc2,if_neg (by omega),if_pos ht1,List.map_cons,List.map_cons,e1,e2];rfl) ⟨Nat.le_refl _,Nat.le_refl _⟩ (fun r hr=>by rw [List.mem_singleton.1 hr];exact e3) (fun r hr=>by rw [List.mem_singleton.1 hr];exact e4)
   have la1:∀ y:Rn,(A++[y]).length=A.length+1:=fun y=>by simp
   have lb1:∀ y:Rn,(B++[y]).length=B.length+1:=fun y=>by simp
   simp only [la1,lb1] at ih2
   have hh1:=fun w'=>held_holds x.from_ at_ (stg x) w' (by omega) (by omega)
   have hh2:=fun w'=>held_holds at_ x.to_ (stg x) w' (by omega) (by omega)
   have hst:x.tab=[(stg x,x.to_-x.from_)]:=hrx.1
   clear ih1 hbad hgp hrx
   generalize stg x=st0 at *
   obtain ⟨xf,xt,tab,adr,cx,lo,hi⟩:=x
   dsimp only [rnV,rnA] at *
   subst hst
   refine J.tabOf (N:=w.heap.size) (L:=LC) ⟨xf,xt,[(st0,xt-xf)],adr,cx,lo,hi⟩ mm hmC ?_
   dsimp only
   refine J.slForm (a:=adr) (sz:=2) (L:=[(st0,xt-xf)].map hoV) (N:=w.heap.size) mm ?_
   intro had
   obtain ⟨b2,o2,rfl⟩:=had (Nat.succ_pos _)
   clear had
   dsimp only [List.length_cons,List.length_nil] at *
   have hap1:=fun a1 c1=>flat1 rnV A ⟨xf,at_,[(st0,at_-xf)],a1,c1,0,0⟩
   have hap2:=fun a1 c1=>flat1 rnV B ⟨at_,xt,[(st0,xt-at_)],a1,c1,0,0⟩
   all_goals (refine go ?_;and_intros<;>(try exact trivial)<;>repeat (first|refine fun (Bk:Nat)=>?_|intro h))
   repeat' ((first|(apply G.ix (i:=k);rfl;rfl;exact rfl;exact hk;rfl)|(apply G.ld;rfl;exact hld (by exact mm);rfl)|(apply G.cV (g:=99);rfl;rfl;exact fun w' _=>hrw w')|(apply G.cV (g:=81);rfl;rfl;exact fun w' _=>hgp w'))<;>(refine go ?_;and_intros<;>(try exact trivial)<;>repeat (first|refine fun (Bk:Nat)=>?_|intro h)))
   apply J.regS [.blk Bk _ _ _,slRow w.heap.size (some ⟨b2,o2,none⟩) 2 ([(st0,xt-xf)].map hoV),.own 0 (.slice bu B.length du) 90 5 B.length (flat rnV B)] (.q 0 <| .q 1 <| .q 2 <| .q 3 <| .q 4 <| .q 5 <| .q 6 <| .q 7 <| .q 8 <| .q 12 <| .q 13 <| .q 14 <| .q 15 <| .q 16 <| .q 17 <| .q 18 <| .q 19 <| .q 20 <| .e 9 <| .e 10 <| .e 11 <| .r 21 <| .r 22 <| .r 23 <| .q 24 <| .q 25 <| .nil)
   exact Tryz.mixed
   decide +kernel
   (repeat' (first|exact List.nil_sublist _|exact List.Sublist.refl _|apply List.Sublist.cons_cons|apply List.Sublist.cons))
   all_goals (refine goG ?_;and_intros<;>(try exact trivial)<;>repeat (first|refine fun (Bk:Nat)=>?_|intro h))
   repeat' ((first|(apply G.ix (i:=0);rfl;rfl;exact rfl;exact Nat.succ_pos _;rfl)|(apply G.ld;rfl;(apply LdV.one;exact CellV.sl0 (f:=hoV) (l:=[(st0,xt-xf)]) (i:=0) (N:=w.heap.size) (by exact mm) (Nat.succ_pos _) rfl);rfl)|(apply G.cN (g:=79) (vs:=[.int .i64 xf,.int .i64 at_,.int .i64 st0]) (fun a' c'=>.agg #[.int .i64 xf,.int .i64 at_,.slice a' 1 c',.int .i64 0,.int .i64 0]) ([(st0,at_-xf)].map hoV);rfl;rfl;exact fun w' _=>hh1 w';intro a1 c1 hp1 hq1)|(apply G.cN (g:=79) (vs:=[.int .i64 at_,.int .i64 xt,.int .i64 st0]) (fun a' c'=>.agg #[.int .i64 at_,.int .i64 xt,.slice a' 1 c',.int .i64 0,.int .i64 0]) ([(st0,xt-at_)].map hoV);rfl;rfl;exact fun w' _=>hh2 w';intro a2 c2 hp2 hq2)|(apply G.sliceL;rfl;rfl;rfl;rfl;rfl;rfl;rfl;rfl;intro Bs)|(apply G.apSF;rfl;rfl;rfl;(repeat (first|exact RAt.head|apply RAt.tail));exact SrcV.blk (by exact mm) rfl rfl;exact hap1 a1 c1;omega;omega;intro v';(repeat' (first|exact List.nil_sublist _|exact List.Sublist.refl _|apply List.Sublist.cons_cons|apply List.Sublist.cons));intro v';exact mm;intro a3 c3)|(apply G.apV (v:=.slice bu B.length du);rfl;rfl;rfl;(repeat (first|exact RAt.head|apply RAt.tail));exact SrcV.blk (by exact mm) rfl rfl;exact hap2 a2 c2;omega;omega;intro a4 c4))<;>(refine goG ?_;and_intros<;>(try exact trivial)<;>repeat (first|refine fun (Bk:Nat)=>?_|intro h)))
   refine J.famAdd (r:=(⟨xf,at_,[(st0,at_-xf)],a1,c1,0,0⟩:Rn)) (o:=A) mm mm ?_
   refine J.famAdd (r:=(⟨at_,xt,[(st0,xt-at_)],a2,c2,0,0⟩:Rn)) (o:=B) mm mm ?_
   all_goals (refine go ?_;and_intros<;>(try exact trivial)<;>repeat (first|refine fun (Bk:Nat)=>?_|intro h))
   exact J.finS (ih2 a3 c3 a4 c4 ⟨xf,at_,[(st0,at_-xf)],a1,c1,0,0⟩ ⟨at_,xt,[(st0,xt-at_)],a2,c2,0,0⟩ rfl rfl hq1 hq2)
  rw [decide_eq_false ht1] at hrw
  by_cases hg0:x.tab.length=0
  case neg =>
   rw [hbad (by rw [cutR_bare,cutR,if_neg hc1,if_neg hc2,if_pos (by omega)];rfl)]
   rw [decide_eq_false hg0] at hgp
   clear ih1 hbad
   obtain ⟨xf,xt,tab,adr,cx,lo,hi⟩:=x
   dsimp only [rnV,rnA] at *
   all_goals (refine go ?_;and_intros<;>(try exact trivial)<;>repeat (first|refine fun (Bk:Nat)=>?_|intro h))
   repeat' ((first|(apply G.ix (i:=k);rfl;rfl;exact rfl;exact hk;rfl)|(apply G.ld;rfl;exact hld (by exact mm);rfl)|(apply G.cV (g:=99);rfl;rfl;exact fun w' _=>hrw w')|(apply G.cV (g:=81);rfl;rfl;exact fun w' _=>hgp w'))<;>(refine go ?_;and_intros<;>(try exact trivial)<;>repeat (first|refine fun (Bk:Nat)=>?_|intro h)))
   refine ret3 Tryz.func33 Tryz.results33 ?_
   exact fun w' hw'=>RetU2.nil (fun a' n c' b' m d'=>.tuple #[.slice a' n c',.slice b' m d',.int .i64 29]) hw'.below ⟨rfl,rfl⟩
  rw [decide_eq_true hg0] at hgp
  have ih2:=fun a' c' b' d' (y1 y2:Rn) (e1:rbare y1=rbare { x with to_:=at_ }) (e2:rbare y2=rbare { x with from_:=at_ }) (e3:∀ p,y1.adr=some p→w.heap.size≤p.block) (e4:∀ p,y2.adr=some p→w.heap.size≤p.block)=>ih1 a' c' b' d' [y1] [y2] (by rw [cutR_bare,cutR,if_neg hc1,if_neg hc2,if_neg (by omega),if_neg ht1,List.map_cons,List.map_cons,e1,e2];rfl) ⟨Nat.le_refl _,Nat.le_refl _⟩ (fun r hr=>by rw [List.mem_singleton.1 hr];exact e3) (fun r hr=>by rw [List.mem_singleton.1 hr];exact e4)
  have la1:∀ y:Rn,(A++[y]).length=A.length+1:=fun y=>by simp
  have lb1:∀ y:Rn,(B++[y]).length=B.length+1:=fun y=>by simp
  simp only [la1,lb1] at ih2
  clear ih1 hbad
  obtain ⟨xf,xt,tab,adr,cx,lo,hi⟩:=x
  dsimp only [rnV,rnA] at *
  obtain rfl:=List.length_eq_zero_iff.1 hg0
  have hap1:flat rnV A++[.int .i64 xf,.int .i64 at_,.slice adr 0 cx,.int .i64 lo,.int .i64 hi]=_:=flat1 rnV A ⟨xf,at_,[],adr,cx,lo,hi⟩
  have hap2:flat rnV B++[.int .i64 at_,.int .i64 xt,.slice adr 0 cx,.int .i64 lo,.int .i64 hi]=_:=flat1 rnV B ⟨at_,xt,[],adr,cx,lo,hi⟩
  dsimp only [List.length_nil] at *
  all_goals (refine go ?_;and_intros<;>(try exact trivial)<;>repeat (first|refine fun (Bk:Nat)=>?_|intro h))
  repeat' ((first|(apply G.ix (i:=k);rfl;rfl;exact rfl;exact hk;rfl)|(apply G.ld;rfl;exact hld (by exact mm);rfl)|(apply G.cV (g:=99);rfl;rfl;exact fun w' _=>hrw w')|(apply G.cV (g:=81);rfl;rfl;exact fun w' _=>hgp w'))<;>(refine go ?_;and_intros<;>(try exact trivial)<;>repeat (first|refine fun (Bk:Nat)=>?_|intro h)))
  apply J.cutC (X:=Nat×Nat) (fun y=>[(1,.int .i64 at_),(4,.slice au A.length cu),(5,.slice bu B.length du),(10,.pointer (some ⟨y.1,0,none⟩)),(11,.pointer (some ⟨y.2,0,none⟩)),(37,.slice (some ⟨g,0,none⟩) l.length cap),(38,.int .i64 l.length),(39,.int .i64 k)]) (fun y=>[.blk y.1 90 [.int .i64 xf,.int .i64 xt,.slice adr 0 cx,.int .i64 lo,.int .i64 hi] 5,.blk y.2 90 [.int .i64 xf,.int .i64 xt,.slice adr 0 cx,.int .i64 lo,.int .i64 hi] 5,tfam w.heap.size A,tfam w.heap.size B,.own 0 (.slice au A.length cu) 90 5 A.length (flat rnV A),.own 0 (.slice bu B.length du) 90 5 B.length (flat rnV B),slRow w.heap.size (some ⟨g,0,none⟩) 5 (LC.map rnV),tfam w.heap.size LC])
  ·intro hk2
   have hk3:=fun a b=>hk2 (a,b)
   dsimp only at hk3
   apply J.regS [.blk Bk _ _ _] (.q 0 <| .q 1 <| .f 2 (.e 3 <| .e 4 <| .r 5 <| .nil) 3 (.e 2 <| .e 4 <| .r 5 <| .nil))
   exact Tryz.mixed
   decide +kernel
   (repeat' (first|exact List.nil_sublist _|exact List.Sublist.refl _|apply List.Sublist.cons_cons|apply List.Sublist.cons))
   revert Bk
   intro Bx hk2 hk3
   all_goals (refine goG ?_;and_intros<;>(try exact trivial)<;>repeat (first|refine fun (Bk:Nat)=>?_|intro h))
   repeat' ((first|(apply G.forkS)|(apply G.sGS (vs:=[.int .i64 xf,.int .i64 xt,.slice adr 0 cx,.int .i64 lo,.int .i64 hi]);rfl;rfl;rfl;rfl;(repeat (first|exact RAt.head|apply RAt.tail));rfl;rfl;exact Nat.le_of_ble_eq_true rfl;rfl;(repeat' (first|exact List.nil_sublist _|exact List.Sublist.refl _|apply List.Sublist.cons_cons|apply List.Sublist.cons))))<;>(refine goG ?_;and_intros<;>(try exact trivial)<;>repeat (first|refine fun (Bk:Nat)=>?_|intro h)))
   all_goals exact J.finS (hk3 _ _)
  intro ⟨B1,B2⟩
  dsimp only
  clear hrw hgp hld
  all_goals (refine go ?_;and_intros<;>(try exact trivial)<;>repeat (first|refine fun (Bk:Nat)=>?_|intro h))
  apply J.regS [.blk B1 _ _ _,.blk B2 _ _ _] (.q 0 <| .q 1 <| .q 4 <| .q 5 <| .f 2 (.f 3 (.e 6 <| .r 7 <| .q 8 <| .q 9 <| .nil) 6 (.e 3 <| .r 7 <| .q 8 <| .q 9 <| .nil)) 6 (.e 2 <| .e 3 <| .r 7 <| .q 8 <| .q 9 <| .nil))
  exact Tryz.mixed
  decide +kernel
  (repeat' (first|exact List.nil_sublist _|exact List.Sublist.refl _|apply List.Sublist.cons_cons|apply List.Sublist.cons))
  all_goals (refine goG ?_;and_intros<;>(try exact trivial)<;>repeat (first|refine fun (Bk:Nat)=>?_|intro h))
  repeat' ((first|(apply G.forkS)|(apply G.sliceL;rfl;rfl;rfl;rfl;rfl;rfl;rfl;rfl;intro Bs)|(apply G.apSOF;rfl;rfl;rfl;(repeat (first|exact RAt.head|apply RAt.tail));exact SrcV.blk (by exact mm) rfl rfl;exact hap1;omega;omega;intro v';(repeat' (first|exact List.nil_sublist _|exact List.Sublist.refl _|apply List.Sublist.cons_cons|apply List.Sublist.cons));intro v';exact mm;intro a3 c3)|(apply G.apSF;rfl;rfl;rfl;(repeat (first|exact RAt.head|apply RAt.tail));exact SrcV.blk (by exact mm) rfl rfl;exact hap1;omega;omega;intro v';(repeat' (first|exact List.nil_sublist _|exact List.Sublist.refl _|apply List.Sublist.cons_cons|apply List.Sublist.cons));intro v';exact mm;intro a3 c3)|(apply G.apV (v:=.slice bu B.length du);rfl;rfl;rfl;(repeat (first|exact RAt.head|apply RAt.tail));exact SrcV.blk (by exact mm) rfl rfl;exact hap2;omega;omega;intro a4 c4))<;>(refine goG ?_;and_intros<;>(try exact trivial)<;>repeat (first|refine fun (Bk:Nat)=>?_|intro h)))
  all_goals
   refine J.tfamGap (o:=A) A ⟨xf,at_,[],adr,cx,lo,hi⟩ mm (fun r hr=>hr) rfl ?_
   refine J.tfamGap (o:=B) B ⟨at_,xt,[],adr,cx,lo,hi⟩ mm (fun r hr=>hr) rfl ?_
   all_goals (refine go ?_;and_intros<;>(try exact trivial)<;>repeat (first|refine fun (Bk:Nat)=>?_|intro h))
   exact J.finS (ih2 a3 c3 a4 c4 ⟨xf,at_,[],adr,cx,lo,hi⟩ ⟨at_,xt,[],adr,cx,lo,hi⟩ rfl rfl hnw hnw)
 ·obtain rfl:k=l.length:=by have:=h1.le;omega
  have h6:=h1.eq
  rw [List.take_length] at h6
  obtain ⟨o,h7,h8,h9⟩:=cutF_ok h6
  rw [h7]
  clear ih hbr
  all_goals (refine go ?_;and_intros<;>(try exact trivial)<;>repeat (first|refine fun (Bk:Nat)=>?_|intro h))
  refine ret3 Tryz.func33 Tryz.results33 ?_
  exact fun w' hw'=>Sat.retU2 (fun a' n c' b' m d'=>.tuple #[.slice a' n c',.slice b' m d',.int .i64 0]) hw' ⟨h8,h9⟩ rfl rfl h4.src h5.src
end Go.Proofs.YtcdgibkbbcekhaaGreatDoor
