/-
  Contract: run.Cut.
-/
import Derived.Test.YtcdgibkbbcekhaaDoorRD8
set_option linter.unusedVariables false
set_option linter.unusedSimpArgs false
set_option linter.unusedSectionVars false
namespace Go.Proofs.YtcdgibkbbcekhaaDoor
open Go.RowKit Go.Sl Go.Num
def RetU2 (L0:List Rn) (P:List Rn→List Rn→Prop) (v:Option Addr→Nat→Nat→Option Addr→Nat→Nat→Value) (w:World) (e:Ending) (w':World):Prop :=
 ∃ A a' ca B b' cb,P A B∧e=.returned (v a' A.length ca b' B.length cb)∧(RunsAt w' a' A∧((∀ p,a'=some p→w.heap.size≤p.block)∧A.length≤ca)∧srcR w.heap.size L0 A)∧(RunsAt w' b' B∧((∀ p,b'=some p→w.heap.size≤p.block)∧B.length≤cb)∧srcR w.heap.size L0 B)∧Below w.heap.size w w'
theorem RetU2.nil {L0:List Rn}{P:List Rn→List Rn→Prop} (v:Option Addr→Nat→Nat→Option Addr→Nat→Nat→Value) {w w':World} (hb:Below w.heap.size w w') (hP:P [] []):RetU2 L0 P v w (.returned (v none 0 0 none 0 0)) w' :=
 have h:RunsAt w' none []∧((∀ p,(none:Option Addr)=some p→w.heap.size≤p.block)∧([]:List Rn).length≤0)∧srcR w.heap.size L0 []:=⟨⟨fun h=>absurd h (Nat.lt_irrefl _),fun r hr=>by cases hr⟩,⟨fun p hp=>(by cases hp),Nat.le_refl _⟩,srcR.nil⟩
 ⟨[],none,0,[],none,0,hP,rfl,h,h,hb⟩
theorem Sat.retU2 {w0 w:World}{M:List Row}{L0 A B:List Rn}{a b:Option Addr}{n m c d:Nat}{P:List Rn→List Rn→Prop} (v:Option Addr→Nat→Nat→Option Addr→Nat→Nat→Value) (hw:Sat w0 M w) (hP:P A B) (hn:A.length=n) (hm:B.length=m) (hs:srcR w0.heap.size L0 A) (hs2:srcR w0.heap.size L0 B)
  (h1:Row.own 0 (.slice a n c) 50 5 n (flat rnV A)∈M:=by (repeat (first|exact List.Mem.head _|apply List.Mem.tail))) (h2:tfam w0.heap.size A∈M:=by (repeat (first|exact List.Mem.head _|apply List.Mem.tail))) (h3:Row.own 0 (.slice b m d) 50 5 m (flat rnV B)∈M:=by (repeat (first|exact List.Mem.head _|apply List.Mem.tail))) (h4:tfam w0.heap.size B∈M:=by (repeat (first|exact List.Mem.head _|apply List.Mem.tail))) :
  RetU2 L0 P v w0 (.returned (v a n c b m d)) w:=by
 subst hn hm
 refine ⟨A,a,c,B,b,d,hP,rfl,⟨⟨SlAt.ofOwn rnV_len (hw.hold _ h1) rfl,fun r hr=>hw.fam h2 r hr⟩,⟨?_,sat_ownCap hw h1⟩,hs⟩,⟨⟨SlAt.ofOwn rnV_len (hw.hold _ h3) rfl,fun r hr=>hw.fam h4 r hr⟩,⟨?_,sat_ownCap hw h3⟩,hs2⟩,hw.below⟩
 ·rintro p rfl
  exact ((hw.old _ h1).2 p.block rfl).1
 ·rintro p rfl
  exact ((hw.old _ h3).2 p.block rfl).1
structure CtAt (at_:Int) (l:List Rn) (k:Nat) (A B:List Rn):Prop where
 le:k≤l.length
 eq:cutF at_ ([],[]) ((l.take k).map rbare)=some (A.map rbare,B.map rbare)
theorem cutF_app (at_:Int):∀ (a b:List Rn) (o:List Rn×List Rn),cutF at_ o (a++b)=(cutF at_ o a).bind fun o'=>cutF at_ o' b
 | [],_,_=>rfl
 | x::a,b,o=>by
  rw [List.cons_append,cutF,cutF]
  cases cutR at_ x with
  | none=>rfl
  | some y=>exact cutF_app at_ a b _
theorem CtAt.step {at_:Int}{l:List Rn}{k:Nat}{A B:List Rn} (h:CtAt at_ l k A B) (hk:k < l.length) {a b:List Rn} (hc:cutR at_ (rbare l[k])=some (a.map rbare,b.map rbare)):CtAt at_ l (k+1) (A++a) (B++b):=⟨hk,by
 rw [List.take_add_one,List.getElem?_eq_getElem hk,List.map_append,cutF_app,h.eq]
 show cutF at_ (A.map rbare,B.map rbare) [rbare l[k]]=_
 rw [cutF,hc,List.map_append,List.map_append];rfl⟩
theorem CtAt.bad {at_:Int}{l:List Rn}{k:Nat}{A B:List Rn} (h:CtAt at_ l k A B) (hk:k < l.length) (hc:cutR at_ (rbare l[k])=none):cutF at_ ([],[]) (l.map rbare)=none:=by
 have e:l.map rbare=(l.take k).map rbare++(rbare l[k]::(l.drop (k+1)).map rbare):=by
  rw [← List.map_cons,← List.map_append,← List.drop_eq_getElem_cons hk,List.take_append_drop]
 rw [e,cutF_app,h.eq]
 show cutF at_ (A.map rbare,B.map rbare) (rbare l[k]::_)=none
 rw [cutF,hc]
theorem cutR_bare (at_:Int) (x:Rn):cutR at_ (rbare x)=(cutR at_ x).map fun y=>(y.1.map rbare,y.2.map rbare):=by
 unfold cutR
 show (if x.to_≤at_ then _ else if at_≤x.from_ then _ else if 1 < x.tab.length then _ else if x.tab.length=1 then _ else _)=_
 split
 ·rfl
 split
 ·rfl
 split
 ·rfl
 split<;>rfl
theorem cutF_bare (at_:Int):∀ (l:List Rn) (o:List Rn×List Rn),cutF at_ (o.1.map rbare,o.2.map rbare) (l.map rbare)=(cutF at_ o l).map fun y=>(y.1.map rbare,y.2.map rbare)
 | [],_=>rfl
 | x::l,o=>by
  rw [List.map_cons,cutF,cutF,cutR_bare]
  cases cutR at_ x with
  | none=>rfl
  | some y =>
   dsimp only [Option.map_some]
   rw [← List.map_append,← List.map_append]
   exact cutF_bare at_ l (o.1++y.1,o.2++y.2)
theorem cutF_ok {at_:Int}{l A B:List Rn} (h:cutF at_ ([],[]) (l.map rbare)=some (A.map rbare,B.map rbare)):∃ o,cutF at_ ([],[]) l=some o∧A.map rbare=o.1.map rbare∧B.map rbare=o.2.map rbare:=by
 have h1:=cutF_bare at_ l ([],[])
 rw [show (([]:List Rn).map rbare,([]:List Rn).map rbare)=([],[]) from rfl,h] at h1
 cases ho:cutF at_ ([],[]) l with
 | none=>rw [ho] at h1;cases h1
 | some o =>
  rw [ho] at h1
  have h2:=Option.some.inj h1
  exact ⟨o,rfl,congrArg Prod.fst h2,congrArg Prod.snd h2⟩
theorem cutF_no {at_:Int}{l:List Rn} (h:cutF at_ ([],[]) (l.map rbare)=none):cutF at_ ([],[]) l=none:=by
 have h1:=cutF_bare at_ l ([],[])
 rw [show (([]:List Rn).map rbare,([]:List Rn).map rbare)=([],[]) from rfl,h] at h1
 cases ho:cutF at_ ([],[]) l with
 | none=>rfl
 | some o=>rw [ho] at h1;cases h1
end Go.Proofs.YtcdgibkbbcekhaaDoor
/-
 Contract: run.Cut.
-/
namespace Go.Proofs.YtcdgibkbbcekhaaDoor
open Go.RowKit Go.Sl Go.Num
set_option maxHeartbeats 4000000 in
theorem runCut_holds (a:Option Addr) (l:List Rn) (c:Nat) (at_:Int) (w:World) (hA:RunsAt w a l) (hta:∀ r∈l,r.tab.length≤64) (hl:l.length≤400) :
  Calls Tryd.prog 15 #[.slice a l.length c,.int .i64 at_] w (RetU2 [] (fun A B=>A.map rbare=(cutE' l at_).1.1.map rbare∧B.map rbare=(cutE' l at_).1.2.map rbare) (fun a' n c' b' m d'=>.tuple #[.slice a' n c',.slice b' m d',.int .i64 (cutE' l at_).2]) w):=by
 have hck:=fun w' (hb:Below w.heap.size w w')=>vRuns_holds a l c w' (hA.below hb) hta
 by_cases hE:runsErr l=0
 case neg =>
  have hJ:cutE' l at_=(([],[]),runsErr l):=by rw [cutE',if_pos hE]
  rw [hJ]
  generalize runsErr l=E at *
  refine enterA [(0,.slice a l.length c),(1,.int .i64 at_)] Tryd.func15 Tryd.ntmps15 ?_
  all_goals (refine go ?_;and_intros<;>(try exact trivial)<;>repeat (first|refine fun (Bk:Nat)=>?_|intro h))
  repeat' ((first|(refine G.cvb hck ?_))<;>(refine go ?_;and_intros<;>(try exact trivial)<;>repeat (first|refine fun (Bk:Nat)=>?_|intro h)))
  refine ret3 Tryd.func15 Tryd.results15 ?_
  exact fun w' hw'=>RetU2.nil (fun a' n c' b' m d'=>.tuple #[.slice a' n c',.slice b' m d',.int .i64 E]) hw'.below ⟨rfl,rfl⟩
 rw [hE] at hck
 obtain ⟨ho,_,hc3⟩:=runs_ok hE
 rcases Nat.eq_zero_or_pos l.length with h0|h0
 ·have hJ:cutE' l at_=(([],[]),1):=by rw [cutE',if_neg (by rw [hE];decide),if_pos (.inl h0)]
  rw [hJ]
  refine enterA [(0,.slice a l.length c),(1,.int .i64 at_)] Tryd.func15 Tryd.ntmps15 ?_
  all_goals (refine go ?_;and_intros<;>(try exact trivial)<;>repeat (first|refine fun (Bk:Nat)=>?_|intro h))
  repeat' ((first|(refine G.cvb hck ?_))<;>(refine go ?_;and_intros<;>(try exact trivial)<;>repeat (first|refine fun (Bk:Nat)=>?_|intro h)))
  refine ret3 Tryd.func15 Tryd.results15 ?_
  exact fun w' hw'=>RetU2.nil (fun a' n c' b' m d'=>.tuple #[.slice a' n c',.slice b' m d',.int .i64 1]) hw'.below ⟨rfl,rfl⟩
 obtain ⟨ba,oa,rfl,hra⟩:=SlAt.all hA.1 (by omega)
 have r0:=hra 0 (by omega)
 have r1:=hra (l.length-1) (by omega)
 have hz:(l.length:Int)-1=((l.length-1:Nat):Int):=by omega
 have r0':=r0
 have r1':=r1
 rw [show rnV l[0]=[.int .i64 l[0].from_,.int .i64 l[0].to_,.slice l[0].adr l[0].tab.length l[0].cap,.int .i64 l[0].lo,.int .i64 l[0].hi] from rfl] at r0'
 rw [show rnV l[l.length-1]=[.int .i64 (l[l.length-1]).from_,.int .i64 (l[l.length-1]).to_,.slice (l[l.length-1]).adr (l[l.length-1]).tab.length (l[l.length-1]).cap,.int .i64 (l[l.length-1]).lo,.int .i64 (l[l.length-1]).hi] from rfl] at r1'
 have hwi:=fun w'=>within_holds at_ l[0].from_ (l[l.length-1]).to_ w'
 by_cases hr:at_ < l[0].from_∨(l[l.length-1]).to_ < at_
 ·have hJ:cutE' l at_=(([],[]),1):=by rw [cutE',if_neg (by rw [hE];decide),lastD_at h0,headD_at h0,if_pos (.inr hr)]
  rw [hJ]
  rw [decide_eq_false (by omega)] at hwi
  refine enterA [(0,.slice (some ⟨ba,oa,none⟩) l.length c),(1,.int .i64 at_)] Tryd.func15 Tryd.ntmps15 ?_
  all_goals (refine go ?_;and_intros<;>(try exact trivial)<;>repeat (first|refine fun (Bk:Nat)=>?_|intro h))
  repeat' ((first|(refine G.cvb hck ?_)|(apply G.ix (i:=l.length-1);rfl;rfl;exact hz;omega;rfl)|(apply G.ix (i:=0);rfl;rfl;exact rfl;omega;rfl)|(apply G.cV (g:=36);rfl;rfl;exact fun w' _=>hwi w'))<;>(refine go ?_;and_intros<;>(try exact trivial)<;>repeat (first|refine fun (Bk:Nat)=>?_|intro h)))
  refine ret3 Tryd.func15 Tryd.results15 ?_
  exact fun w' hw'=>RetU2.nil (fun a' n c' b' m d'=>.tuple #[.slice a' n c',.slice b' m d',.int .i64 1]) hw'.below ⟨rfl,rfl⟩
 have hJ0:cutE' l at_=match cutF at_ ([],[]) l with
  | none=>(([],[]),29)
  | some o=>(o,0):=by rw [cutE',if_neg (by rw [hE];decide),lastD_at h0,headD_at h0,if_neg (by omega)];rfl
 rw [hJ0]
 rw [decide_eq_true (by omega)] at hwi
 have cpa:=fun M w' (hw':Sat w M w')=>copied_holds (some ⟨ba,oa,none⟩) l c w w' M hw' hA (by omega) fun r hr=>Nat.le_trans (hta r hr) (by decide)
 have hcn:=(hc3 (fun e=>by rw [e] at h0;exact absurd h0 (Nat.lt_irrefl _))).1
 refine enterA [(0,.slice (some ⟨ba,oa,none⟩) l.length c),(1,.int .i64 at_)] Tryd.func15 Tryd.ntmps15 ?_
 all_goals (refine go ?_;and_intros<;>(try exact trivial)<;>repeat (first|refine fun (Bk:Nat)=>?_|intro h))
 repeat' ((first|(refine G.cvb hck ?_)|(apply G.ix (i:=l.length-1);rfl;rfl;exact hz;omega;rfl)|(apply G.ix (i:=0);rfl;rfl;exact rfl;omega;rfl)|(apply G.cV (g:=36);rfl;rfl;exact fun w' _=>hwi w')|(refine G.cR (g:=39) (v:=fun x:{ x:List Rn×Option Addr×Nat // x.1.map rbare=l.map rbare∧newT w.heap.size x.1 }=>.slice x.1.2.1 l.length x.1.2.2) (Mn:=fun x=>[.own 0 (.slice x.1.2.1 l.length x.1.2.2) 50 5 l.length (flat rnV x.1.1),tfam w.heap.size x.1.1]) rfl rfl (cpa _) ?_;rintro ⟨⟨LC,a1,c1⟩,hA1,hA2⟩;dsimp only [List.cons_append,List.nil_append] at hA1 hA2 ⊢))<;>(refine go ?_;and_intros<;>(try exact trivial)<;>repeat (first|refine fun (Bk:Nat)=>?_|intro h)))
 clear hck hwi cpa r0 r1 r0' r1' hJ0
 have lC:LC.length=l.length:=by rw [← List.length_map (f:=rbare),hA1,List.length_map]
 refine J.ownOpen RAt.au h0 ?_
 intro g cap hgc hcm hv
 rw [hv]
 clear hv
 refine J.blkCut (l':=LC) l.length rnV_len RAt.au hgc hcm (by omega) (List.take_of_length_le (by omega)) ?_
 refine J.ownSlR (a:=some ⟨g,0,none⟩) (c:=cap) (n:=l.length) (l:=LC) rnV_len (by (repeat (first|exact Pick.head|apply Pick.tail))) lC ?_
 apply J.nilOwn (E:=50) (size:=5)
 apply J.nilOwn (E:=50) (size:=5)
 apply J.fam0 Rn.adr 2 (fun r=>r.tab.map hoV)
 apply J.fam0 Rn.adr 2 (fun r=>r.tab.map hoV)
 have hbr:∀ k (h1:k < LC.length) (h2:k < l.length),rbare LC[k]=rbare l[k]:=fun k h1 h2=>by
  have h5:(LC.map rbare)[k]'(by rw [List.length_map];exact h1)=(l.map rbare)[k]'(by rw [List.length_map];exact h2):=by simp only [hA1]
  rwa [List.getElem_map,List.getElem_map] at h5
 refine J.loop (c:=_) ((0,none,0,[],none,0,[]):Nat×Option Addr×Nat×List Rn×Option Addr×Nat×List Rn) (fun s=>l.length-s.1) (fun s=>[(1,.int .i64 at_),(4,.slice s.2.1 s.2.2.2.1.length s.2.2.1),(5,.slice s.2.2.2.2.1 s.2.2.2.2.2.2.length s.2.2.2.2.2.1),(37,.slice (some ⟨g,0,none⟩) l.length cap),(38,.int .i64 l.length),(39,.int .i64 s.1)]) (fun s=>[tfam w.heap.size s.2.2.2.1,tfam w.heap.size s.2.2.2.2.2.2,.own 0 (.slice s.2.1 s.2.2.2.1.length s.2.2.1) 50 5 s.2.2.2.1.length (flat rnV s.2.2.2.1),.own 0 (.slice s.2.2.2.2.1 s.2.2.2.2.2.2.length s.2.2.2.2.2.1) 50 5 s.2.2.2.2.2.2.length (flat rnV s.2.2.2.2.2.2),slRow w.heap.size (some ⟨g,0,none⟩) 5 (LC.map rnV),tfam w.heap.size LC]) (fun s=>CtAt at_ l s.1 s.2.2.2.1 s.2.2.2.2.2.2∧(s.2.2.2.1.length≤s.1∧s.2.2.2.2.2.2.length≤s.1)∧newT w.heap.size s.2.2.2.1∧newT w.heap.size s.2.2.2.2.2.2) ?_ sbT sbL ?_
 ·exact ⟨⟨Nat.zero_le _,rfl⟩,⟨Nat.le_refl _,Nat.le_refl _⟩,fun r hr=>(by cases hr),fun r hr=>by cases hr⟩
 intro ⟨k,au,cu,A,bu,du,B⟩ ⟨h1,⟨h2,h3⟩,h4,h5⟩ ih
 dsimp only at h1 h2 h3 h4 h5 ⊢
 by_cases hk:k < l.length
 ·have hkC:k < LC.length:=by omega
  have hld:∀ {C:Ctx}{M:List Row} [TAgg C.P 50 5],slRow w.heap.size (some ⟨g,0,none⟩) 5 (LC.map rnV)∈M→LdV C M 50 ⟨g,0+k*5,none⟩ (.agg (rnV LC[k]).toArray):=fun {C M} _ hm=>LdV.aggSl (C:=C) (M:=M) (T:=50) (n:=5) (f:=rnV) (l:=LC) hm (i:=k) hkC rfl
  have hmC:=List.getElem_mem hkC
  have hb:=hbr k hkC hk
  have hok:=ho _ (List.getElem_mem hk)
  have hnw:=hA2 _ hmC
  have ih1:=fun a' c' b' d' (a2 b2:List Rn) (e1:cutR at_ (rbare l[k])=some (a2.map rbare,b2.map rbare)) (e2:a2.length≤1∧b2.length≤1) (e3:newT w.heap.size a2) (e4:newT w.heap.size b2)=>ih (k+1,a',c',A++a2,b',d',B++b2) ⟨h1.step hk e1,⟨by dsimp only;rw [List.length_append];omega,by dsimp only;rw [List.length_append];omega⟩,h4.app e3,h5.app e4⟩ (by dsimp only;omega)
  have hbad:=fun e=>cutF_no (h1.bad hk e)
  have hokC:OkR LC[k]:=ok_bare.1 (by rw [hb];exact ok_bare.2 hok)
  dsimp only at ih1
  rw [← hb] at ih1 hbad
  clear ih hbr hb hok h1 ho
  have hrw:=fun w'=>raw_holds LC[k] w'
  have hgp:=fun w'=>gap_holds LC[k] w'
  generalize LC[k]=x at *
  have hrg:=hokC.rng
  by_cases hc1:x.to_≤at_
  ·have ih2:=fun a' c'=>ih1 a' c' bu du [x] [] (by rw [cutR_bare,cutR,if_pos hc1];rfl) ⟨Nat.le_refl _,Nat.zero_le _⟩ (fun r hr=>by rw [List.mem_singleton.1 hr];exact hnw) (fun r hr=>by cases hr)
   rw [List.append_nil,show (A++[x]).length=A.length+1 by simp] at ih2
   have hap:flat rnV A++rnV x=flat rnV (A++[x]):=flat1 rnV _ _
   clear ih1 hbad hrw hgp
   obtain ⟨xf,xt,tab,adr,cx,lo,hi⟩:=x
   dsimp only [rnV] at *
   all_goals (refine go ?_;and_intros<;>(try exact trivial)<;>repeat (first|refine fun (Bk:Nat)=>?_|intro h))
   repeat' ((first|(apply G.ix (i:=k);rfl;rfl;exact rfl;exact hk;rfl)|(apply G.ld;rfl;exact hld (by exact mm);rfl)|(apply G.sliceL;rfl;rfl;rfl;rfl;rfl;rfl;rfl;rfl;intro Bs)|(apply G.apV;rfl;rfl;rfl;(repeat (first|exact RAt.head|apply RAt.tail));exact SrcV.blk (by exact mm) rfl rfl;exact hap;omega;omega;intro a2 c2))<;>(refine go ?_;and_intros<;>(try exact trivial)<;>repeat (first|refine fun (Bk:Nat)=>?_|intro h)))
   refine J.tfamTo (o:=A) (l:=LC) (A++[⟨xf,xt,tab,adr,cx,lo,hi⟩]) mm mm (fun r hr=>(List.mem_append.1 hr).imp id fun hr=>by rw [List.mem_singleton.1 hr];exact hmC) ?_
   exact J.finS (ih2 a2 c2)
  by_cases hc2:at_≤x.from_
  ·have ih2:=fun b' d'=>ih1 au cu b' d' [] [x] (by rw [cutR_bare,cutR,if_neg hc1,if_pos hc2];rfl) ⟨Nat.zero_le _,Nat.le_refl _⟩ (fun r hr=>by cases hr) (fun r hr=>by rw [List.mem_singleton.1 hr];exact hnw)
   rw [List.append_nil,show (B++[x]).length=B.length+1 by simp] at ih2
   have hap:flat rnV B++rnV x=flat rnV (B++[x]):=flat1 rnV _ _
   clear ih1 hbad hrw hgp
   obtain ⟨xf,xt,tab,adr,cx,lo,hi⟩:=x
   dsimp only [rnV] at *
   all_goals (refine go ?_;and_intros<;>(try exact trivial)<;>repeat (first|refine fun (Bk:Nat)=>?_|intro h))
   repeat' ((first|(apply G.ix (i:=k);rfl;rfl;exact rfl;exact hk;rfl)|(apply G.ld;rfl;exact hld (by exact mm);rfl)|(apply G.sliceL;rfl;rfl;rfl;rfl;rfl;rfl;rfl;rfl;intro Bs)|(apply G.apV (v:=.slice bu B.length du);rfl;rfl;rfl;(repeat (first|exact RAt.head|apply RAt.tail));exact SrcV.blk (by exact mm) rfl rfl;exact hap;omega;omega;intro a2 c2))<;>(refine go ?_;and_intros<;>(try exact trivial)<;>repeat (first|refine fun (Bk:Nat)=>?_|intro h)))
   refine J.tfamTo (o:=B) (l:=LC) (B++[⟨xf,xt,tab,adr,cx,lo,hi⟩]) mm mm (fun r hr=>(List.mem_append.1 hr).imp id fun hr=>by rw [List.mem_singleton.1 hr];exact hmC) ?_
   exact J.finS (ih2 a2 c2)
  by_cases ht1:x.tab.length=1
  ·obtain ⟨hrx,hs1,hs2⟩:=hokC.raw ht1
   rw [decide_eq_true ht1] at hrw
   have ih2:=fun a' c' b' d' (y1 y2:Rn) (e1:rbare y1=mkR x.from_ at_ (stg x)) (e2:rbare y2=mkR at_ x.to_ (stg x)) (e3:∀ p,y1.adr=some p→w.heap.size≤p.block) (e4:∀ p,y2.adr=some p→w.heap.size≤p.block)=>ih1 a' c' b' d' [y1] [y2] (by rw [cutR_bare,cutR,if_neg hc1,if_neg hc2,if_neg (by omega),if_pos ht1,List.map_cons,List.map_cons,e1,e2];rfl) ⟨Nat.le_refl _,Nat.le_refl _⟩ (fun r hr=>by rw [List.mem_singleton.1 hr];exact e3) (fun r hr=>by rw [List.mem_singleton.1 hr];exact e4)
   have la1:∀ y:Rn,(A++[y]).length=A.length+1:=fun y=>by simp
   have lb1:∀ y:Rn,(B++[y]).length=B.length+1:=fun y=>by simp
   simp only [la1,lb1] at ih2
   have hh1:=fun w'=>held_holds x.from_ at_ (stg x) w' (by omega) (by omega)
   have hh2:=fun w'=>held_holds at_ x.to_ (stg x) w' (by omega) (by omega)
   have hst:x.tab=[(stg x,x.to_-x.from_)]:=hrx.1
   clear ih1 hbad hgp hrx
   generalize stg x=st0 at *
   obtain ⟨xf,xt,tab,adr,cx,lo,hi⟩:=x
   dsimp only [rnV,rnA] at *
   subst hst
   refine J.tabOf (N:=w.heap.size) (L:=LC) ⟨xf,xt,[(st0,xt-xf)],adr,cx,lo,hi⟩ mm hmC ?_
   dsimp only
   refine J.slForm (a:=adr) (sz:=2) (L:=[(st0,xt-xf)].map hoV) (N:=w.heap.size) mm ?_
   intro had
   obtain ⟨b2,o2,rfl⟩:=had (Nat.succ_pos _)
   clear had
   dsimp only [List.length_cons,List.length_nil] at *
   have hap1:=fun a1 c1=>flat1 rnV A ⟨xf,at_,[(st0,at_-xf)],a1,c1,0,0⟩
   have hap2:=fun a1 c1=>flat1 rnV B ⟨at_,xt,[(st0,xt-at_)],a1,c1,0,0⟩
   all_goals (refine go ?_;and_intros<;>(try exact trivial)<;>repeat (first|refine fun (Bk:Nat)=>?_|intro h))
   repeat' ((first|(apply G.ix (i:=k);rfl;rfl;exact rfl;exact hk;rfl)|(apply G.ld;rfl;exact hld (by exact mm);rfl)|(apply G.cV (g:=28);rfl;rfl;exact fun w' _=>hrw w')|(apply G.cV (g:=24);rfl;rfl;exact fun w' _=>hgp w'))<;>(refine go ?_;and_intros<;>(try exact trivial)<;>repeat (first|refine fun (Bk:Nat)=>?_|intro h)))
   apply J.regS [.blk Bk _ _ _,slRow w.heap.size (some ⟨b2,o2,none⟩) 2 ([(st0,xt-xf)].map hoV),.own 0 (.slice bu B.length du) 50 5 B.length (flat rnV B)] (.q 0 <| .q 1 <| .q 2 <| .q 3 <| .q 4 <| .q 5 <| .q 6 <| .q 7 <| .q 8 <| .q 12 <| .q 13 <| .q 14 <| .q 15 <| .q 16 <| .q 17 <| .q 18 <| .q 19 <| .q 20 <| .e 9 <| .e 10 <| .e 11 <| .r 21 <| .r 22 <| .r 23 <| .q 24 <| .q 25 <| .nil)
   exact Tryd.mixed
   decide +kernel
   (repeat' (first|exact List.nil_sublist _|exact List.Sublist.refl _|apply List.Sublist.cons_cons|apply List.Sublist.cons))
   all_goals (refine goG ?_;and_intros<;>(try exact trivial)<;>repeat (first|refine fun (Bk:Nat)=>?_|intro h))
   repeat' ((first|(apply G.ix (i:=0);rfl;rfl;exact rfl;exact Nat.succ_pos _;rfl)|(apply G.ld;rfl;(apply LdV.one;exact CellV.sl0 (f:=hoV) (l:=[(st0,xt-xf)]) (i:=0) (N:=w.heap.size) (by exact mm) (Nat.succ_pos _) rfl);rfl)|(apply G.cN (g:=20) (vs:=[.int .i64 xf,.int .i64 at_,.int .i64 st0]) (fun a' c'=>.agg #[.int .i64 xf,.int .i64 at_,.slice a' 1 c',.int .i64 0,.int .i64 0]) ([(st0,at_-xf)].map hoV);rfl;rfl;exact fun w' _=>hh1 w';intro a1 c1 hp1 hq1)|(apply G.cN (g:=20) (vs:=[.int .i64 at_,.int .i64 xt,.int .i64 st0]) (fun a' c'=>.agg #[.int .i64 at_,.int .i64 xt,.slice a' 1 c',.int .i64 0,.int .i64 0]) ([(st0,xt-at_)].map hoV);rfl;rfl;exact fun w' _=>hh2 w';intro a2 c2 hp2 hq2)|(apply G.sliceL;rfl;rfl;rfl;rfl;rfl;rfl;rfl;rfl;intro Bs)|(apply G.apSF;rfl;rfl;rfl;(repeat (first|exact RAt.head|apply RAt.tail));exact SrcV.blk (by exact mm) rfl rfl;exact hap1 a1 c1;omega;omega;intro v';(repeat' (first|exact List.nil_sublist _|exact List.Sublist.refl _|apply List.Sublist.cons_cons|apply List.Sublist.cons));intro v';exact mm;intro a3 c3)|(apply G.apV (v:=.slice bu B.length du);rfl;rfl;rfl;(repeat (first|exact RAt.head|apply RAt.tail));exact SrcV.blk (by exact mm) rfl rfl;exact hap2 a2 c2;omega;omega;intro a4 c4))<;>(refine goG ?_;and_intros<;>(try exact trivial)<;>repeat (first|refine fun (Bk:Nat)=>?_|intro h)))
   refine J.famAdd (r:=(⟨xf,at_,[(st0,at_-xf)],a1,c1,0,0⟩:Rn)) (o:=A) mm mm ?_
   refine J.famAdd (r:=(⟨at_,xt,[(st0,xt-at_)],a2,c2,0,0⟩:Rn)) (o:=B) mm mm ?_
   all_goals (refine go ?_;and_intros<;>(try exact trivial)<;>repeat (first|refine fun (Bk:Nat)=>?_|intro h))
   exact J.finS (ih2 a3 c3 a4 c4 ⟨xf,at_,[(st0,at_-xf)],a1,c1,0,0⟩ ⟨at_,xt,[(st0,xt-at_)],a2,c2,0,0⟩ rfl rfl hq1 hq2)
  rw [decide_eq_false ht1] at hrw
  by_cases hg0:x.tab.length=0
  case neg =>
   rw [hbad (by rw [cutR_bare,cutR,if_neg hc1,if_neg hc2,if_pos (by omega)];rfl)]
   rw [decide_eq_false hg0] at hgp
   clear ih1 hbad
   obtain ⟨xf,xt,tab,adr,cx,lo,hi⟩:=x
   dsimp only [rnV,rnA] at *
   all_goals (refine go ?_;and_intros<;>(try exact trivial)<;>repeat (first|refine fun (Bk:Nat)=>?_|intro h))
   repeat' ((first|(apply G.ix (i:=k);rfl;rfl;exact rfl;exact hk;rfl)|(apply G.ld;rfl;exact hld (by exact mm);rfl)|(apply G.cV (g:=28);rfl;rfl;exact fun w' _=>hrw w')|(apply G.cV (g:=24);rfl;rfl;exact fun w' _=>hgp w'))<;>(refine go ?_;and_intros<;>(try exact trivial)<;>repeat (first|refine fun (Bk:Nat)=>?_|intro h)))
   refine ret3 Tryd.func15 Tryd.results15 ?_
   exact fun w' hw'=>RetU2.nil (fun a' n c' b' m d'=>.tuple #[.slice a' n c',.slice b' m d',.int .i64 29]) hw'.below ⟨rfl,rfl⟩
  rw [decide_eq_true hg0] at hgp
  have ih2:=fun a' c' b' d' (y1 y2:Rn) (e1:rbare y1=rbare { x with to_:=at_ }) (e2:rbare y2=rbare { x with from_:=at_ }) (e3:∀ p,y1.adr=some p→w.heap.size≤p.block) (e4:∀ p,y2.adr=some p→w.heap.size≤p.block)=>ih1 a' c' b' d' [y1] [y2] (by rw [cutR_bare,cutR,if_neg hc1,if_neg hc2,if_neg (by omega),if_neg ht1,List.map_cons,List.map_cons,e1,e2];rfl) ⟨Nat.le_refl _,Nat.le_refl _⟩ (fun r hr=>by rw [List.mem_singleton.1 hr];exact e3) (fun r hr=>by rw [List.mem_singleton.1 hr];exact e4)
  have la1:∀ y:Rn,(A++[y]).length=A.length+1:=fun y=>by simp
  have lb1:∀ y:Rn,(B++[y]).length=B.length+1:=fun y=>by simp
  simp only [la1,lb1] at ih2
  clear ih1 hbad
  obtain ⟨xf,xt,tab,adr,cx,lo,hi⟩:=x
  dsimp only [rnV,rnA] at *
  obtain rfl:=List.length_eq_zero_iff.1 hg0
  have hap1:flat rnV A++[.int .i64 xf,.int .i64 at_,.slice adr 0 cx,.int .i64 lo,.int .i64 hi]=_:=flat1 rnV A ⟨xf,at_,[],adr,cx,lo,hi⟩
  have hap2:flat rnV B++[.int .i64 at_,.int .i64 xt,.slice adr 0 cx,.int .i64 lo,.int .i64 hi]=_:=flat1 rnV B ⟨at_,xt,[],adr,cx,lo,hi⟩
  dsimp only [List.length_nil] at *
  all_goals (refine go ?_;and_intros<;>(try exact trivial)<;>repeat (first|refine fun (Bk:Nat)=>?_|intro h))
  repeat' ((first|(apply G.ix (i:=k);rfl;rfl;exact rfl;exact hk;rfl)|(apply G.ld;rfl;exact hld (by exact mm);rfl)|(apply G.cV (g:=28);rfl;rfl;exact fun w' _=>hrw w')|(apply G.cV (g:=24);rfl;rfl;exact fun w' _=>hgp w'))<;>(refine go ?_;and_intros<;>(try exact trivial)<;>repeat (first|refine fun (Bk:Nat)=>?_|intro h)))
  apply J.cutC (X:=Nat×Nat) (fun y=>[(1,.int .i64 at_),(4,.slice au A.length cu),(5,.slice bu B.length du),(10,.pointer (some ⟨y.1,0,none⟩)),(11,.pointer (some ⟨y.2,0,none⟩)),(37,.slice (some ⟨g,0,none⟩) l.length cap),(38,.int .i64 l.length),(39,.int .i64 k)]) (fun y=>[.blk y.1 50 [.int .i64 xf,.int .i64 xt,.slice adr 0 cx,.int .i64 lo,.int .i64 hi] 5,.blk y.2 50 [.int .i64 xf,.int .i64 xt,.slice adr 0 cx,.int .i64 lo,.int .i64 hi] 5,tfam w.heap.size A,tfam w.heap.size B,.own 0 (.slice au A.length cu) 50 5 A.length (flat rnV A),.own 0 (.slice bu B.length du) 50 5 B.length (flat rnV B),slRow w.heap.size (some ⟨g,0,none⟩) 5 (LC.map rnV),tfam w.heap.size LC])
  ·intro hk2
   have hk3:=fun a b=>hk2 (a,b)
   dsimp only at hk3
   apply J.regS [.blk Bk _ _ _] (.q 0 <| .q 1 <| .f 2 (.e 3 <| .e 4 <| .r 5 <| .nil) 3 (.e 2 <| .e 4 <| .r 5 <| .nil))
   exact Tryd.mixed
   decide +kernel
   (repeat' (first|exact List.nil_sublist _|exact List.Sublist.refl _|apply List.Sublist.cons_cons|apply List.Sublist.cons))
   revert Bk
   intro Bx hk2 hk3
   all_goals (refine goG ?_;and_intros<;>(try exact trivial)<;>repeat (first|refine fun (Bk:Nat)=>?_|intro h))
   repeat' ((first|(apply G.forkS)|(apply G.sGS (vs:=[.int .i64 xf,.int .i64 xt,.slice adr 0 cx,.int .i64 lo,.int .i64 hi]);rfl;rfl;rfl;rfl;(repeat (first|exact RAt.head|apply RAt.tail));rfl;rfl;exact Nat.le_of_ble_eq_true rfl;rfl;(repeat' (first|exact List.nil_sublist _|exact List.Sublist.refl _|apply List.Sublist.cons_cons|apply List.Sublist.cons))))<;>(refine goG ?_;and_intros<;>(try exact trivial)<;>repeat (first|refine fun (Bk:Nat)=>?_|intro h)))
   all_goals exact J.finS (hk3 _ _)
  intro ⟨B1,B2⟩
  dsimp only
  clear hrw hgp hld
  all_goals (refine go ?_;and_intros<;>(try exact trivial)<;>repeat (first|refine fun (Bk:Nat)=>?_|intro h))
  apply J.regS [.blk B1 _ _ _,.blk B2 _ _ _] (.q 0 <| .q 1 <| .q 4 <| .q 5 <| .f 2 (.f 3 (.e 6 <| .r 7 <| .q 8 <| .q 9 <| .nil) 6 (.e 3 <| .r 7 <| .q 8 <| .q 9 <| .nil)) 6 (.e 2 <| .e 3 <| .r 7 <| .q 8 <| .q 9 <| .nil))
  exact Tryd.mixed
  decide +kernel
  (repeat' (first|exact List.nil_sublist _|exact List.Sublist.refl _|apply List.Sublist.cons_cons|apply List.Sublist.cons))
  all_goals (refine goG ?_;and_intros<;>(try exact trivial)<;>repeat (first|refine fun (Bk:Nat)=>?_|intro h))
  repeat' ((first|(apply G.forkS)|(apply G.sliceL;rfl;rfl;rfl;rfl;rfl;rfl;rfl;rfl;intro Bs)|(apply G.apSOF;rfl;rfl;rfl;(repeat (first|exact RAt.head|apply RAt.tail));exact SrcV.blk (by exact mm) rfl rfl;exact hap1;omega;omega;intro v';(repeat' (first|exact List.nil_sublist _|exact List.Sublist.refl _|apply List.Sublist.cons_cons|apply List.Sublist.cons));intro v';exact mm;intro a3 c3)|(apply G.apSF;rfl;rfl;rfl;(repeat (first|exact RAt.head|apply RAt.tail));exact SrcV.blk (by exact mm) rfl rfl;exact hap1;omega;omega;intro v';(repeat' (first|exact List.nil_sublist _|exact List.Sublist.refl _|apply List.Sublist.cons_cons|apply List.Sublist.cons));intro v';exact mm;intro a3 c3)|(apply G.apV (v:=.slice bu B.length du);rfl;rfl;rfl;(repeat (first|exact RAt.head|apply RAt.tail));exact SrcV.blk (by exact mm) rfl rfl;exact hap2;omega;omega;intro a4 c4))<;>(refine goG ?_;and_intros<;>(try exact trivial)<;>repeat (first|refine fun (Bk:Nat)=>?_|intro h)))
  all_goals
   refine J.tfamGap (o:=A) A ⟨xf,at_,[],adr,cx,lo,hi⟩ mm (fun r hr=>hr) rfl ?_
   refine J.tfamGap (o:=B) B ⟨at_,xt,[],adr,cx,lo,hi⟩ mm (fun r hr=>hr) rfl ?_
   all_goals (refine go ?_;and_intros<;>(try exact trivial)<;>repeat (first|refine fun (Bk:Nat)=>?_|intro h))
   exact J.finS (ih2 a3 c3 a4 c4 ⟨xf,at_,[],adr,cx,lo,hi⟩ ⟨at_,xt,[],adr,cx,lo,hi⟩ rfl rfl hnw hnw)
 ·obtain rfl:k=l.length:=by have:=h1.le;omega
  have h6:=h1.eq
  rw [List.take_length] at h6
  obtain ⟨o,h7,h8,h9⟩:=cutF_ok h6
  rw [h7]
  clear ih hbr
  all_goals (refine go ?_;and_intros<;>(try exact trivial)<;>repeat (first|refine fun (Bk:Nat)=>?_|intro h))
  refine ret3 Tryd.func15 Tryd.results15 ?_
  exact fun w' hw'=>Sat.retU2 (fun a' n c' b' m d'=>.tuple #[.slice a' n c',.slice b' m d',.int .i64 0]) hw' ⟨h8,h9⟩ rfl rfl h4.src h5.src
end Go.Proofs.YtcdgibkbbcekhaaDoor
/-
 Contracts of the specification of runs: total,stretch.
-/
namespace Go.Proofs.YtcdgibkbbcekhaaDoor
open Go.RowKit Go.Sl Go.Num
theorem cnt_bd16 {r:Rn} (h:OkR r) (x:Int):0≤cnt x r.tab∧cnt x r.tab≤1402560:=by
 by_cases h0:r.tab.length=0
 ·rw [List.length_eq_zero_iff.1 h0];exact ⟨Int.le_refl _,by show (0:Int)≤1402560;decide⟩
 ·obtain ⟨h2,h3,h4,_⟩:=oneE_tab h.2 h0
  have h5:=nIn_bd x (tabS r.tab)
  rw [tab_cnt h h0] at h5
  have h6:=tabS_len _ fun x hx=>(h2 x hx).2.1
  have:=h.rng
  omega
theorem totC_bd:∀ {l:List Rn},(∀ r∈l,OkR r)→∀ x,0≤totC l x∧totC l x≤1402560*l.length
 | [],_,x=>⟨Int.le_refl _,Int.le_refl _⟩
 | r::l,h,x=>by
  have h1:=cnt_bd16 (h r (List.mem_cons_self ..)) x
  have h2:=totC_bd (l:=l) (fun y hy=>h y (List.mem_cons_of_mem _ hy)) x
  rw [totC,List.length_cons];omega
theorem tabD_step {cs:List Int}{s:Nat} (h:s < cs.length):tabD s (cs.drop s)=(if 0 < cs[s] then [((s:Int),cs[s])] else [])++tabD (s+1) (cs.drop (s+1)):=by
 rw [List.drop_eq_getElem_cons h,tabD]
 split<;>rfl
def smC (l:List Rn) (a b:Int):List Int:=(List.range 1001).map fun s:Nat=>totC l s-(if (s:Int)=a then 1 else 0)-(if (s:Int)=b then 1 else 0)
theorem smC_len (l:List Rn) (a b:Int):(smC l a b).length=1001:=by rw [smC,List.length_map,List.length_range]
theorem smC_get (l:List Rn) (a b:Int) {s:Nat} (h:s < 1001):(smC l a b)[s]'(by rw [smC_len];exact h)=totC l s-(if (s:Int)=a then 1 else 0)-(if (s:Int)=b then 1 else 0):=by
 simp [smC]
end Go.Proofs.YtcdgibkbbcekhaaDoor
/-
 Contract of the specification of runs: stretch.
-/
namespace Go.Proofs.YtcdgibkbbcekhaaDoor
open Go.RowKit Go.Sl Go.Num
theorem J.ownGe {C:Ctx}{st:List (Nat×Value)}{M:List Row}{k:List Item}{base E sz n c:Nat}{a:Option Addr}{xs:List Value} (hm:Row.own base (.slice a n c) E sz n xs∈M) (h:(∀ p,a=some p→C.w0.heap.size≤p.block)→J C st M k):J C st M k:=.mk fun ac w hf hd hw=>(h fun p hp=>by subst hp;exact ((hw.old _ hm).2 p.block rfl).1).go ac w hf hd hw
theorem raw_tab {r:Rn} (h:OkR r) (h1:r.tab.length=1):r.tab=[(stg r,r.to_-r.from_)]:=(h.raw h1).1.1
theorem smOne_eq {l:List Rn} (h0:0 < l.length) (h1:l[0].tab.length=1) (h2:(l[l.length-1]).tab.length=1):smOne l=some (smS l[0].from_ (l[l.length-1]).to_ (stg l[0]) (stg l[l.length-1]) (smTab l (stg l[0]) (stg l[l.length-1]))):=by
 rw [smOne,headD_at h0,lastD_at h0,rawB,rawB,decide_eq_true h1,decide_eq_true h2];rfl
theorem smOne_no {l:List Rn} (h0:0 < l.length) (h:¬ (l[0].tab.length=1∧(l[l.length-1]).tab.length=1)):smOne l=none:=by
 rw [smOne,headD_at h0,lastD_at h0,rawB,rawB,if_neg]
 rw [Bool.and_eq_true,decide_eq_true_eq,decide_eq_true_eq];exact h
end Go.Proofs.YtcdgibkbbcekhaaDoor
/-
 Plain: what stands for a stretch is without an error,and agrees with what agrees with the stretch.
-/
namespace Go.Proofs.YtcdgibkbbcekhaaDoor
open Go.RowKit Go.Sl Go.Num
theorem AgS.tot:∀ {l:List Rn}{S:List Int},(∀ r∈l,OkR r)→(∀ r∈l,r.tab.length≠0)→AgS l S→∀ s,nIn s S=totC l s
 | [],S,_,_,h,s=>by rw [AgS] at h;subst h;rfl
 | r::t,S,ho,hg,⟨A,B,e,h1,h2⟩,s=>by
  subst e
  have m:=List.mem_cons_self (a:=r) (l:=t)
  have ih:=AgS.tot (fun x hx=>ho x (List.mem_cons_of_mem _ hx)) (fun x hx=>hg x (List.mem_cons_of_mem _ hx)) h2 s
  rw [AgP,if_neg (hg r m)] at h1
  rw [nIn_app,ih,nIn_perm h1,tab_cnt (ho r m) (hg r m),totC]
theorem AgP.rep {r:Rn}{A:List Int} (h:OkR r) (h1:r.tab.length=1) (ha:AgP r A):∃ n,A=List.replicate (n+1) (stg r):=by
 have h2:=(AgP.raw (h.raw h1).1).1 ha
 have h3:=h.rng
 exact ⟨(r.to_-r.from_).toNat-1,by rw [h2];congr 1;omega⟩
theorem AgS.head {l:List Rn}{S:List Int} (ho:∀ r∈l,OkR r) (h0:l≠[]) (h1:(headD' l).tab.length=1) (h:AgS l S):∃ S',S=stg (headD' l)::S':=by
 cases l with
 | nil=>exact absurd rfl h0
 | cons r t =>
  obtain ⟨A,B,rfl,h2,_⟩:=h
  obtain ⟨n,rfl⟩:=AgP.rep (ho r (List.mem_cons_self ..)) h1 h2
  exact ⟨List.replicate n (stg r)++B,rfl⟩
theorem AgS.last {l:List Rn}{S:List Int} (ho:∀ r∈l,OkR r) (h0:l≠[]) (h1:(lastD l).tab.length=1) (h:AgS l S):∃ S',S=S'++[stg (lastD l)]:=by
 rcases nil_or_snoc l with rfl|⟨o,y,rfl⟩
 ·exact absurd rfl h0
 ·rw [lastD_snoc] at h1 ⊢
  obtain ⟨A,B,rfl,_,h2⟩:=AgS_app.1 h
  obtain ⟨n,rfl⟩:=AgP.rep (ho y (by simp)) h1 (AgS_one.1 h2)
  exact ⟨A++List.replicate n (stg y),by rw [List.append_assoc,List.replicate_succ']⟩
theorem AgS.ends {l:List Rn}{S:List Int} (ho:∀ r∈l,OkR r) (h0:l≠[]) (h1:(headD' l).tab.length=1) (h2:(lastD l).tab.length=1) (h:AgS l S):(S.length=1∧S=[stg (headD' l)]∧stg (headD' l)=stg (lastD l))∨∃ M,S=stg (headD' l)::(M++[stg (lastD l)]):=by
 obtain ⟨S1,e1⟩:=h.head ho h0 h1
 obtain ⟨S2,e2⟩:=h.last ho h0 h2
 cases S2 with
 | nil =>
  rw [e2,List.nil_append] at e1
  have e3:=List.cons.inj e1
  refine .inl ⟨by rw [e2];rfl,by rw [e2,List.nil_append,e3.1],e3.1.symm⟩
 | cons x M =>
  rw [e2,List.cons_append] at e1
  have e3:=List.cons.inj e1
  exact .inr ⟨M,by rw [e2,List.cons_append,e3.1]⟩
structure SmOk (l X:List Rn) (f t:Int):Prop where
 cn:Cn f X t
 ok:∀ r∈X,OkR r
 ag:∀ S,AgS l S→AgS X S
 tot:∀ s,totC X s=totC l s
 gp:∀ r∈X,r.tab.length≠0
 hd:(headD' X).tab.length=1∧stg (headD' X)=stg (headD' l)
 la:(lastD X).tab.length=1∧stg (lastD X)=stg (lastD l)
 ne:X≠[]
theorem cnt_one (s a n:Int):cnt s [(a,n)]=if s=a then n else 0:=rfl
theorem nIn_mid (s a b:Int) (M:List Int):nIn s (a::(M++[b]))=(if s=a then 1 else 0)+nIn s M+(if s=b then 1 else 0):=by
 rw [nIn,nIn_app,nIn,nIn]
 have e1:(if a=s then (1:Int) else 0)=if s=a then 1 else 0:=by (by_cases h:a=s;rw [if_pos h,if_pos h.symm];rw [if_neg h,if_neg fun e=>h e.symm])
 have e2:(if b=s then (1:Int) else 0)=if s=b then 1 else 0:=by (by_cases h:b=s;rw [if_pos h,if_pos h.symm];rw [if_neg h,if_neg fun e=>h e.symm])
 rw [e1,e2];omega
theorem sm_ok {l:List Rn}{f t:Int} (h0:l≠[]) (hC:Cn f l t) (ho:∀ r∈l,OkR r) (hg:∀ r∈l,r.tab.length≠0) (h1:(headD' l).tab.length=1) (h2:(lastD l).tab.length=1) :
  SmOk l (smS f t (stg (headD' l)) (stg (lastD l)) (smTab l (stg (headD' l)) (stg (lastD l)))) f t:=by
 have hm1:headD' l∈l:=by cases l with
  | nil=>exact absurd rfl h0
  | cons r t=>exact List.mem_cons_self ..
 have hm2:lastD l∈l:=by
  rcases nil_or_snoc l with rfl|⟨o,y,rfl⟩
  ·exact absurd rfl h0
  ·rw [lastD_snoc];simp
 have ra:=((ho _ hm1).raw h1).2
 have rb:=((ho _ hm2).raw h2).2
 have r1:=(ho _ hm1).rng
 have r2:=(ho _ hm2).rng
 have e1:=(hC.first h0).1
 have e2:=hC.last h0
 have hF:=AgS.first ho
 have hFl:=AgS.len hC ho hF
 have hle:=hC.le ho
 have hp:0 < l.length:=List.length_pos_iff.2 h0
 have htF:=AgS.tot ho hg hF
 have hbF:=AgS.bd' ho hF
 have hall:∀ S,AgS l S→(S.length:Int)=t-f:=fun S hS=>by have:=AgS.len hC ho hS;omega
 have htS:∀ S,AgS l S→∀ s,nIn s S=totC l s:=fun S hS=>AgS.tot ho hg hS
 have hen:=fun S (hS:AgS l S)=>AgS.ends ho h0 h1 h2 hS
 generalize firstS l=F at *
 have henF:=hen F hF
 generalize ha:stg (headD' l)=a at *
 generalize hb:stg (lastD l)=b at *
 clear hm1 hm2
 have ok1:OkR (mkR f (f+1) a):=mkR_ok (by omega) ra
 rcases henF with ⟨g1,g2,g3⟩|⟨M,g2⟩
 ·have hX:smS f t a b (smTab l a b)=[mkR f (f+1) a]:=by rw [smS,if_neg (by omega),if_neg (by omega)];rfl
  rw [hX]
  have ht:t=f+1:=by omega
  refine ⟨⟨rfl,ht.symm⟩,fun r hr=>by rw [List.mem_singleton.1 hr];exact ok1,fun S hS=>?_,fun s=>?_,fun r hr=>by rw [List.mem_singleton.1 hr];exact Nat.one_ne_zero,⟨rfl,ha.symm⟩,⟨rfl,by rw [hb,← g3];rfl⟩,List.cons_ne_nil _ _⟩
  ·have h3:=hall S hS
   rw [AgS_one,AgP.raw (r:=mkR f (f+1) a) (s:=a) ⟨rfl,rfl,rfl⟩]
   show S=List.replicate (f+1-f).toNat a
   rw [show (f+1-f:Int).toNat=1 by omega]
   rcases hen S hS with ⟨_,h5,_⟩|⟨M,h5⟩
   ·exact h5
   ·rw [h5,List.length_cons,List.length_append,List.length_singleton] at h3;omega
  ·rw [← htF s,g2,totC,totC,mkR,cnt_one,nIn,nIn]
   by_cases h:s=a
   ·rw [if_pos h,if_pos h.symm];omega
   ·rw [if_neg h,if_neg (fun e=>h e.symm)]
 ·have hlen:F.length=M.length+2:=by rw [g2,List.length_cons,List.length_append,List.length_singleton]
  have hbM:∀ y∈M,0≤y∧y≤1000:=fun y hy=>hbF y (by rw [g2];simp [hy])
  have hT:smTab l a b=tabT M:=by
   have h5:∀ s:Nat,totC l s-(if (s:Int)=a then 1 else 0)-(if (s:Int)=b then 1 else 0)=nIn (s:Int) M:=fun s=>by
    rw [← htF s,g2,nIn_mid];omega
   unfold smTab tabT
   rw [List.map_congr_left (l:=List.range 1001) (f:=fun s:Nat=>totC l s-(if (s:Int)=a then 1 else 0)-(if (s:Int)=b then 1 else 0)) (g:=fun s:Nat=>nIn (s:Int) M) fun s _=>h5 s]
  rw [hT]
  have hMt:∀ s,totC l s=(if s=a then 1 else 0)+nIn s M+(if s=b then 1 else 0):=fun s=>by rw [← htF s,g2,nIn_mid]
  have ok3:OkR (mkR (t-1) t b):=mkR_ok (by omega) rb
  have hSM:∀ S,AgS l S→∃ M',S=a::(M'++[b])∧M'.Perm M:=fun S hS=>by
   rcases hen S hS with ⟨h5,_⟩|⟨M',h5⟩
   ·have:=hall S hS;omega
   ·refine ⟨M',h5,perm_nIn_iff.2 fun s=>?_⟩
    have h6:=htS S hS s
    rw [h5,nIn_mid,hMt s] at h6
    omega
  have a1:AgP (mkR f (f+1) a) [a]:=(AgP.raw (r:=mkR f (f+1) a) (s:=a) ⟨rfl,rfl,rfl⟩).2 (by show [a]=List.replicate (f+1-f).toNat a;rw [show (f+1-f:Int).toNat=1 by omega];rfl)
  have a3:AgP (mkR (t-1) t b) [b]:=(AgP.raw (r:=mkR (t-1) t b) (s:=b) ⟨rfl,rfl,rfl⟩).2 (by show [b]=List.replicate (t-(t-1)).toNat b;rw [show (t-(t-1):Int).toNat=1 by omega];rfl)
  rcases Nat.eq_zero_or_pos M.length with hM|hM
  ·obtain rfl:=List.length_eq_zero_iff.1 hM
   rw [List.length_nil] at hlen
   have hX:smS f t a b (tabT [])=[mkR f (f+1) a,mkR (t-1) t b]:=by rw [smS,if_neg (by omega),if_pos (by omega)];rfl
   rw [hX]
   refine ⟨⟨rfl,by show t-1=f+1;omega,rfl⟩,fun r hr=>?_,fun S hS=>?_,fun s=>?_,fun r hr=>?_,⟨rfl,ha.symm⟩,⟨rfl,hb.symm⟩,List.cons_ne_nil _ _⟩
   ·rcases List.mem_cons.1 hr with rfl|hr
    ·exact ok1
    ·rw [List.mem_singleton.1 hr];exact ok3
   ·obtain ⟨M',h5,h6⟩:=hSM S hS
    obtain rfl:=List.perm_nil.1 h6
    exact ⟨[a],[b],h5,a1,AgS_one.2 a3⟩
   ·rw [hMt s,totC,totC,totC,mkR,mkR,cnt_one,cnt_one,nIn]
    rw [show f+1-f=1 by omega,show t-(t-1)=1 by omega];omega
   ·rcases List.mem_cons.1 hr with rfl|hr
    ·exact Nat.one_ne_zero
    ·rw [List.mem_singleton.1 hr];exact Nat.one_ne_zero
  ·have hX:smS f t a b (tabT M)=[mkR f (f+1) a,⟨f+1,t-1,tabT M,none,0,0,0⟩,mkR (t-1) t b]:=by rw [smS,if_pos (by omega),if_pos (by omega)];rfl
   rw [hX]
   have key:∀ TM,TM=tabT M→OkR ⟨f+1,t-1,TM,none,0,0,0⟩:=fun TM h=>⟨by rw [inT,decide_eq_true_eq];show 0≤f+1∧f+1 < t-1∧t-1≤1402560;omega,oneE_tabT (seg:=M) hbM hM (by omega) h (by show t-1=f+1+(M.length:Int);omega) rfl rfl⟩
   have ok2:=key _ rfl
   have ne2:=tabT_ne hbM hM
   have c2:=cnt_tabT hbM
   clear hT key hX
   generalize tabT M=TM at *
   refine ⟨⟨rfl,rfl,rfl,rfl⟩,fun r hr=>?_,fun S hS=>?_,fun s=>?_,fun r hr=>?_,⟨rfl,ha.symm⟩,⟨rfl,hb.symm⟩,List.cons_ne_nil _ _⟩
   ·rcases List.mem_cons.1 hr with rfl|hr
    ·exact ok1
    ·rcases List.mem_cons.1 hr with rfl|hr
     ·exact ok2
     ·rw [List.mem_singleton.1 hr];exact ok3
   ·obtain ⟨M',h5,h6⟩:=hSM S hS
    refine ⟨[a],M'++[b],h5,a1,M',[b],rfl,?_,AgS_one.2 a3⟩
    rw [AgP,if_neg ne2]
    refine h6.trans (perm_nIn_iff.2 fun s=>?_)
    rw [tab_cnt ok2 ne2,c2]
   ·rw [hMt s,totC,totC,totC,totC,mkR,mkR,cnt_one,cnt_one,c2]
    rw [show f+1-f=1 by omega,show t-(t-1)=1 by omega];omega
   ·rcases List.mem_cons.1 hr with rfl|hr
    ·exact Nat.one_ne_zero
    ·rcases List.mem_cons.1 hr with rfl|hr
     ·exact ne2
     ·rw [List.mem_singleton.1 hr];exact Nat.one_ne_zero
end Go.Proofs.YtcdgibkbbcekhaaDoor
/-
 Plain: the stretches of runs,one after another.
-/
namespace Go.Proofs.YtcdgibkbbcekhaaDoor
open Go.RowKit Go.Sl Go.Num
theorem nst_pos {l:List Rn} (h:l≠[]):1≤nst l:=by
 cases l with
 | nil=>exact absurd rfl h
 | cons r t=>rw [nst];split<;>omega
theorem takeWhile_le {α:Type} (p:α→Bool):∀ l:List α,(l.takeWhile p).length≤l.length
 | []=>Nat.le_refl _
 | x::l=>by
  have:=takeWhile_le p l
  rw [List.takeWhile_cons]
  split<;>simp only [List.length_cons,List.length_nil]<;>omega
theorem nst_le {l:List Rn} (h:l≠[]):nst l≤l.length:=by
 cases l with
 | nil=>exact absurd rfl h
 | cons r t =>
  have:=takeWhile_le (fun x:Rn=>decide (x.tab.length≠0)) t
  rw [nst,List.length_cons];split<;>omega
theorem nst_iff {l:List Rn}{m:Nat} (h0:0 < m) (hm:m≤l.length) (h1:∀ i (h:i < m),l[i].tab.length≠0) (h2:∀ (h:m < l.length),l[m].tab.length=0):nst l=m:=by
 cases l with
 | nil=>rw [List.length_nil] at hm;omega
 | cons r t =>
  have h3:=h1 0 h0
  rw [List.getElem_cons_zero] at h3
  rw [nst,if_neg h3]
  have h4:∀ (t:List Rn) (m:Nat),m≤t.length→(∀ i (h:i < t.length),i < m→t[i].tab.length≠0)→(∀ (h:m < t.length),t[m].tab.length=0)→(t.takeWhile fun x=>decide (x.tab.length≠0)).length=m:=fun t=>by
   induction t with
   | nil=>intro m h _ _;rw [List.length_nil] at h;rw [List.takeWhile_nil,List.length_nil];omega
   | cons x t ih =>
    intro m h q1 q2
    cases m with
    | zero =>
     have:=q2 (Nat.succ_pos _)
     rw [List.getElem_cons_zero] at this
     rw [List.takeWhile_cons,if_neg (by simp [this])];rfl
    | succ m =>
     have:=q1 0 (Nat.succ_pos _) (Nat.succ_pos _)
     rw [List.getElem_cons_zero] at this
     rw [List.takeWhile_cons,if_pos (decide_eq_true this),List.length_cons,ih m (by simpa using h) (fun i hi hm=>by have:=q1 (i+1) (by rw [List.length_cons];omega) (by omega);rwa [List.getElem_cons_succ] at this) fun hh=>by have:=q2 (by rw [List.length_cons];omega);rwa [List.getElem_cons_succ] at this]
  rw [h4 t (m-1) (by rw [List.length_cons] at hm;omega) (fun i hi hm=>by have:=h1 (i+1) (by omega);rwa [List.getElem_cons_succ] at this) fun hh=>by
   have:=h2 (by rw [List.length_cons];omega)
   have e:(r::t)[m]'(by rw [List.length_cons];omega)=t[m-1]:=by
    cases m with
    | zero=>omega
    | succ m=>rw [List.getElem_cons_succ];rfl
   rwa [e] at this]
  omega
theorem nst_tab {l:List Rn} (h0:l≠[]) (h:(headD' l).tab.length≠0):∀ r∈l.take (nst l),r.tab.length≠0:=by
 cases l with
 | nil=>exact absurd rfl h0
 | cons x t =>
  have h1:x.tab.length≠0:=h
  rw [nst,if_neg h1,Nat.add_comm,List.take_succ_cons]
  intro r hr
  rcases List.mem_cons.1 hr with rfl|hr
  ·exact h1
  ·rw [show t.take (t.takeWhile fun x=>decide (x.tab.length≠0)).length=t.takeWhile fun x=>decide (x.tab.length≠0) from List.prefix_iff_eq_take.1 (List.takeWhile_prefix _) ▸ rfl] at hr
   have:=List.all_eq_true.1 (List.all_takeWhile (p:=fun x:Rn=>decide (x.tab.length≠0)) (l:=t)) r hr
   exact of_decide_eq_true this
theorem headD_bare (l:List Rn):headD' (l.map rbare)=rbare (headD' l):=by cases l<;>rfl
theorem lastD_bare (l:List Rn):lastD (l.map rbare)=rbare (lastD l):=by
 rcases nil_or_snoc l with rfl|⟨o,y,rfl⟩
 ·rfl
 ·rw [List.map_append,List.map_cons,List.map_nil,lastD_snoc,lastD_snoc]
theorem totC_bare:∀ (l:List Rn) (s:Int),totC (l.map rbare) s=totC l s
 | [],_=>rfl
 | r::l,s=>by rw [List.map_cons,totC,totC,totC_bare l s];rfl
theorem smTab_bare (l:List Rn) (a b:Int):smTab (l.map rbare) a b=smTab l a b:=by
 unfold smTab
 simp only [totC_bare]
theorem smOne_bare (l:List Rn):smOne (l.map rbare)=smOne l:=by
 unfold smOne
 rw [headD_bare,lastD_bare]
 show (if rawB (headD' l) && rawB (lastD l) then some (smS (headD' l).from_ (lastD l).to_ (stg (headD' l)) (stg (lastD l)) (smTab (l.map rbare) (stg (headD' l)) (stg (lastD l)))) else none)=_
 rw [smTab_bare]
theorem smS_bare (f t a b:Int) (T:List (Int×Int)):(smS f t a b T).map rbare=smS f t a b T:=by
 unfold smS
 rw [List.map_append,List.map_append]
 congr 1
 ·congr 1
  split<;>rfl
 ·split<;>rfl
theorem smOne_x {l x:List Rn} (h:smOne l=some x):x.map rbare=x:=by
 unfold smOne at h
 split at h
 ·rw [← Option.some.inj h];exact smS_bare ..
 ·cases h
theorem nst_bare (l:List Rn):nst (l.map rbare)=nst l:=by
 cases l with
 | nil=>rfl
 | cons r t =>
  rw [List.map_cons,nst,nst,List.takeWhile_map,List.length_map];rfl
theorem smF_bare:∀ (n:Nat) (o l:List Rn),smF n (o.map rbare) (l.map rbare)=(smF n o l).map (·.map rbare)
 | 0,_,_=>rfl
 | n+1,o,l=>by
  rw [smF,smF,List.length_map]
  by_cases h0:l.length=0
  ·rw [if_pos h0,if_pos h0];rfl
  rw [if_neg h0,if_neg h0,headD_bare]
  have e:(rbare (headD' l)).tab.length=(headD' l).tab.length:=rfl
  rw [e]
  by_cases h1:(headD' l).tab.length=0
  ·rw [if_pos h1,if_pos h1,← List.map_drop,← smF_bare n (o++[headD' l]),List.map_append];rfl
  rw [if_neg h1,if_neg h1,nst_bare,← List.map_take,smOne_bare,← List.map_drop]
  cases hx:smOne (l.take (nst l)) with
  | none=>rfl
  | some x =>
   dsimp only
   rw [← smF_bare n (o++x),List.map_append,smOne_x hx]
theorem smF_fuel:∀ (n m:Nat) (o l:List Rn),l.length≤n→l.length≤m→smF n o l=smF m o l
 | 0,m,o,l,h1,_=>by
  obtain rfl:=List.length_eq_zero_iff.1 (Nat.le_zero.1 h1)
  cases m<;>rfl
 | n+1,0,o,l,_,h2=>by
  obtain rfl:=List.length_eq_zero_iff.1 (Nat.le_zero.1 h2)
  rfl
 | n+1,m+1,o,l,h1,h2=>by
  rw [smF,smF]
  by_cases h0:l.length=0
  ·rw [if_pos h0,if_pos h0]
  rw [if_neg h0,if_neg h0]
  have hne:l≠[]:=fun e=>h0 (by rw [e];rfl)
  have h3:=nst_pos hne
  rw [smF_fuel n m _ (l.drop 1) (by rw [List.length_drop];omega) (by rw [List.length_drop];omega)]
  split
  ·rfl
  ·cases smOne (l.take (nst l)) with
   | none=>rfl
   | some x=>exact smF_fuel n m _ (l.drop (nst l)) (by rw [List.length_drop];omega) (by rw [List.length_drop];omega)
theorem smF_ok:∀ (n:Nat) {o l X:List Rn}{f0 f t:Int},l.length≤n→Cn f0 o f→(∀ r∈o,OkR r)→Cn f l t→(∀ r∈l,OkR r)→smF n o l=some X →
  Cn f0 X t∧(∀ r∈X,OkR r)∧∀ S A,AgS o S→AgS l A→AgS X (S++A)
 | 0,o,l,X,f0,f,t,hn,h1,h2,h3,h4,h=>by
  obtain rfl:=List.length_eq_zero_iff.1 (Nat.le_zero.1 hn)
  rw [Cn] at h3;subst h3
  obtain rfl:=Option.some.inj h
  exact ⟨h1,h2,fun S A hS hA=>by rw [AgS] at hA;subst hA;rw [List.append_nil];exact hS⟩
 | n+1,o,l,X,f0,f,t,hn,h1,h2,h3,h4,h=>by
  rw [smF] at h
  by_cases h0:l.length=0
  ·rw [if_pos h0] at h
   obtain rfl:=List.length_eq_zero_iff.1 h0
   rw [Cn] at h3;subst h3
   obtain rfl:=Option.some.inj h
   exact ⟨h1,h2,fun S A hS hA=>by rw [AgS] at hA;subst hA;rw [List.append_nil];exact hS⟩
  rw [if_neg h0] at h
  have hne:l≠[]:=fun e=>h0 (by rw [e];rfl)
  by_cases hg:(headD' l).tab.length=0
  ·rw [if_pos hg] at h
   cases l with
   | nil=>exact absurd rfl hne
   | cons r l =>
    have hr:=h4 r (List.mem_cons_self ..)
    obtain ⟨p1,p2,p3⟩:=smF_ok n (o:=o++[r]) (l:=l) (f0:=f0) (f:=r.to_) (t:=t) (by rw [List.length_cons] at hn;omega) (Cn.app.2 ⟨f,h1,h3.1,rfl⟩) (fun x hx=>(List.mem_append.1 hx).elim (h2 x) fun hx=>by rw [List.mem_singleton.1 hx];exact hr) h3.2 (fun x hx=>h4 x (List.mem_cons_of_mem _ hx)) h
    refine ⟨p1,p2,fun S A hS hA=>?_⟩
    obtain ⟨A1,A2,rfl,e1,e2⟩:=hA
    rw [← List.append_assoc]
    exact p3 _ _ (AgS_app.2 ⟨S,A1,rfl,hS,AgS_one.2 e1⟩) e2
  rw [if_neg hg] at h
  cases hx:smOne (l.take (nst l)) with
  | none=>rw [hx] at h;cases h
  | some x =>
   rw [hx] at h
   dsimp only at h
   have hs1:=nst_pos hne
   have hs2:=nst_le hne
   have hs3:=nst_tab hne hg
   have h3':Cn f (l.take (nst l)++l.drop (nst l)) t:=by rw [List.take_append_drop];exact h3
   obtain ⟨m,q1,q2⟩:=Cn.app.1 h3'
   have hpo:∀ r∈l.take (nst l),OkR r:=fun r hr=>h4 r (List.mem_of_mem_take hr)
   have hpn:l.take (nst l)≠[]:=fun e=>by
    have:=congrArg List.length e
    rw [List.length_take,List.length_nil] at this
    omega
   have hraw:rawB (headD' (l.take (nst l)))=true∧rawB (lastD (l.take (nst l)))=true:=by
    unfold smOne at hx
    split at hx
    ·rename_i hh;exact (Bool.and_eq_true ..).mp hh
    ·cases hx
   have hsm:=sm_ok hpn q1 hpo hs3 (of_decide_eq_true hraw.1) (of_decide_eq_true hraw.2)
   have hxe:x=smS f m (stg (headD' (l.take (nst l)))) (stg (lastD (l.take (nst l)))) (smTab (l.take (nst l)) (stg (headD' (l.take (nst l)))) (stg (lastD (l.take (nst l))))):=by
    unfold smOne at hx
    rw [if_pos (by rw [hraw.1,hraw.2];rfl),(q1.first hpn).1,q1.last hpn] at hx
    exact (Option.some.inj hx).symm
   rw [← hxe] at hsm
   obtain ⟨p1,p2,p3⟩:=smF_ok n (o:=o++x) (l:=l.drop (nst l)) (f0:=f0) (f:=m) (t:=t) (by rw [List.length_drop];omega) (Cn.app.2 ⟨f,h1,hsm.cn⟩) (fun y hy=>(List.mem_append.1 hy).elim (h2 y) (hsm.ok y)) q2 (fun y hy=>h4 y (List.mem_of_mem_drop hy)) h
   refine ⟨p1,p2,fun S A hS hA=>?_⟩
   rw [← List.take_append_drop (nst l) l] at hA
   obtain ⟨A1,A2,rfl,e1,e2⟩:=AgS_app.1 hA
   rw [← List.append_assoc]
   exact p3 _ _ (AgS_app.2 ⟨S,A1,rfl,hS,hsm.ag _ e1⟩) e2
end Go.Proofs.YtcdgibkbbcekhaaDoor
/-
 Contract of the specification of runs: Summarize.
-/
namespace Go.Proofs.YtcdgibkbbcekhaaDoor
open Go.RowKit Go.Sl Go.Num
theorem smF_gap {n:Nat}{o l:List Rn} (h:l.length≤n) (h0:l≠[]) (hg:(headD' l).tab.length=0):smF n o l=smF n (o++[headD' l]) (l.drop 1):=by
 cases n with
 | zero=>exact absurd (List.length_eq_zero_iff.1 (Nat.le_zero.1 h)) h0
 | succ n =>
  rw [smF,if_neg (fun e=>h0 (List.length_eq_zero_iff.1 e)),if_pos hg]
  have h1:0 < l.length:=List.length_pos_iff.2 h0
  exact smF_fuel _ _ _ _ (by rw [List.length_drop];omega) (by rw [List.length_drop];omega)
theorem smF_st {n m:Nat}{o l:List Rn} (h:l.length≤n) (h0:l≠[]) (hg:(headD' l).tab.length≠0) (hm:nst l=m):smF n o l=match smOne (l.take m) with
  | none=>none
  | some x=>smF n (o++x) (l.drop m):=by
 cases n with
 | zero=>exact absurd (List.length_eq_zero_iff.1 (Nat.le_zero.1 h)) h0
 | succ n =>
  rw [smF,if_neg (fun e=>h0 (List.length_eq_zero_iff.1 e)),if_neg hg,hm]
  have h1:0 < l.length:=List.length_pos_iff.2 h0
  have h2:=nst_pos h0
  cases smOne (l.take m) with
  | none=>rfl
  | some x=>exact smF_fuel _ _ _ _ (by rw [List.length_drop];omega) (by rw [List.length_drop];omega)
structure SmAt (l:List Rn) (p:Nat) (o:List Rn):Prop where
 le:p≤l.length
 eq:smF l.length (o.map rbare) ((l.drop p).map rbare)=smF l.length [] (l.map rbare)
theorem drop_ne {l:List Rn}{p:Nat} (h:p < l.length):(l.drop p).map rbare≠[]:=fun e=>by
 have:=congrArg List.length e
 rw [List.length_map,List.length_drop,List.length_nil] at this
 omega
theorem head_drop {l:List Rn}{p:Nat} (h:p < l.length):headD' ((l.drop p).map rbare)=rbare l[p]:=by
 rw [List.drop_eq_getElem_cons h];rfl
theorem SmAt.gap {l o:List Rn}{p:Nat} (h:SmAt l p o) (hp:p < l.length) (hg:l[p].tab.length=0):SmAt l (p+1) (o++[l[p]]):=⟨hp,by
 rw [← h.eq,smF_gap (l:=(l.drop p).map rbare) (by rw [List.length_map,List.length_drop];omega) (drop_ne hp) (by rw [head_drop hp];exact hg),head_drop hp,← List.map_drop,List.drop_drop,List.map_append]
 rfl⟩
theorem seg_nst {l:List Rn}{p q:Nat} (h0:p < q) (hq:q≤l.length) (h1:∀ i (h:i < l.length),p≤i→i < q→l[i].tab.length≠0) (h2:∀ (h:q < l.length),l[q].tab.length=0):nst (l.drop p)=q-p:=by
 refine nst_iff (by omega) (by rw [List.length_drop];omega) (fun i h=>?_) fun h=>?_
 ·rw [List.getElem_drop];exact h1 _ _ (by omega) (by omega)
 ·rw [List.length_drop] at h
  rw [List.getElem_drop]
  have:=h2 (by omega)
  have e:p+(q-p)=q:=by omega
  simp only [e];exact this
theorem SmAt.seg {l o:List Rn}{p q:Nat} (h:SmAt l p o) (h0:p < q) (hq:q≤l.length) (h1:∀ i (h:i < l.length),p≤i→i < q→l[i].tab.length≠0) (h2:∀ (h:q < l.length),l[q].tab.length=0) :
  (smOne ((l.drop p).take (q-p))=none→smF l.length [] (l.map rbare)=none)∧∀ x L,smOne ((l.drop p).take (q-p))=some x→L.map rbare=x.map rbare→SmAt l q (o++L):=by
 have hp:p < l.length:=by omega
 have hst:=smF_st (n:=l.length) (m:=q-p) (o:=o.map rbare) (l:=(l.drop p).map rbare) (by rw [List.length_map,List.length_drop];omega) (drop_ne hp) (by rw [head_drop hp];exact h1 p hp (Nat.le_refl _) h0) (by rw [nst_bare];exact seg_nst h0 hq h1 h2)
 rw [h.eq,← List.map_take,smOne_bare,← List.map_drop,List.drop_drop,show p+(q-p)=q by omega] at hst
 refine ⟨fun e=>by rw [hst,e],fun x L e eL=>⟨hq,?_⟩⟩
 rw [hst,e,List.map_append,eL,smOne_x e]
theorem SmAt.done {l o:List Rn} (h:SmAt l l.length o):smF l.length [] (l.map rbare)=some (o.map rbare):=by
 rw [← h.eq,List.drop_length]
 cases l.length<;>rfl
theorem sumE_ok {l o:List Rn} (h0:runsErr l=0) (h:smF l.length [] (l.map rbare)=some (o.map rbare)):(sumE l).2=0∧∀ L:List Rn,L.map rbare=joinL (o.map rbare)→L.map rbare=(sumE l).1.map rbare:=by
 have h1:=smF_bare l.length [] l
 rw [List.map_nil,h] at h1
 rw [sumE,if_neg (not_not_intro h0)]
 cases hx:smF l.length [] l with
 | none=>rw [hx] at h1;cases h1
 | some x =>
  rw [hx] at h1
  have h2:o.map rbare=x.map rbare:=Option.some.inj h1
  exact ⟨rfl,fun L hL=>by rw [hL,h2,joinL_bare]⟩
theorem sumE_no {l:List Rn} (h0:runsErr l=0) (h:smF l.length [] (l.map rbare)=none):sumE l=([],29):=by
 have h1:=smF_bare l.length [] l
 rw [List.map_nil,h] at h1
 rw [sumE,if_neg (not_not_intro h0)]
 cases hx:smF l.length [] l with
 | none=>rfl
 | some x=>rw [hx] at h1;cases h1
end Go.Proofs.YtcdgibkbbcekhaaDoor
/-
 Contract: run.stretches,an iterator of parts of a list.
-/
namespace Go.Proofs.YtcdgibkbbcekhaaDoor
open Go.RowKit Go.Sl Go.Num
def stL:Nat→Nat→List Rn→List (Nat×Nat)
 | 0,_,_=>[]
 | k+1,p,l=>if l.length=0 then [] else (p,nst l)::stL k (p+nst l) (l.drop (nst l))
theorem stL_fuel:∀ (n m p:Nat) (l:List Rn),l.length≤n→l.length≤m→stL n p l=stL m p l
 | 0,0,_,_,_,_=>rfl
 | 0,m+1,p,l,h1,_=>by
  rw [stL,stL,if_pos (Nat.le_zero.1 h1)]
 | n+1,0,p,l,_,h2=>by
  rw [stL,stL,if_pos (Nat.le_zero.1 h2)]
 | n+1,m+1,p,l,h1,h2=>by
  rw [stL,stL]
  by_cases h0:l.length=0
  ·rw [if_pos h0,if_pos h0]
  rw [if_neg h0,if_neg h0]
  have h3:=nst_pos (l:=l) (fun e=>h0 (by rw [e];rfl))
  rw [stL_fuel n m _ (l.drop (nst l)) (by rw [List.length_drop];omega) (by rw [List.length_drop];omega)]
theorem stL_step {n p:Nat}{l:List Rn} (hn:l.length≤n) (hp:p < l.length):stL n p (l.drop p)=(p,nst (l.drop p))::stL n (p+nst (l.drop p)) (l.drop (p+nst (l.drop p))):=by
 have h0:(l.drop p).length≠0:=by rw [List.length_drop];omega
 have h1:=nst_pos (l:=l.drop p) (fun e=>h0 (by rw [e];rfl))
 cases n with
 | zero=>omega
 | succ n =>
  rw [stL,if_neg h0,List.drop_drop,stL_fuel n (n+1) _ (l.drop (p+nst (l.drop p))) (by rw [List.length_drop];omega) (by rw [List.length_drop];omega)]
theorem stL_end (n:Nat) (l:List Rn):stL n l.length (l.drop l.length)=[]:=by
 rw [List.drop_length]
 cases n<;>rfl
theorem drop_at {α:Type}{es:List α}{i:Nat}{e:α}{t:List α} (h:es.drop i=e::t):es[i]?=some e∧es.drop (i+1)=t∧i < es.length:=by
 have hi:i < es.length:=by
  rcases Nat.lt_or_ge i es.length with h1|h1
  ·exact h1
  ·rw [List.drop_eq_nil_of_le h1] at h;cases h
 rw [List.drop_eq_getElem_cons hi] at h
 obtain ⟨h1,h2⟩:=List.cons.inj h
 exact ⟨by rw [List.getElem?_eq_getElem hi,h1],h2,hi⟩
theorem subA_some {b o c p:Nat} (h:p < c):subA (some ⟨b,o,none⟩) c p 5=some ⟨b,o+p*5,none⟩:=by
 rw [subA,if_neg (by omega),Option.map_some,addr_add,addO_eq]
def segV (a:Option Addr) (c:Nat) (e:Nat×Nat):Value:=.slice (subA a c e.1 5) e.2 (c-e.1)
set_option maxHeartbeats 4000000 in
theorem stretches_iter (w0:World) (Bl:Nat) (a:Option Addr) (l:List Rn) (c:Nat) (hA:SlAt w0 a 5 (l.map rnV)) (hl:l.length≤100000) (hc:l.length≤c) :
  IterD Tryd.prog w0 [.blk Bl 27 [.slice a l.length c] 1] 47 #[.pointer (some ⟨Bl,0,none⟩)] (fun e:Nat×Nat=>[segV a c e]) (stL l.length 0 l):=by
 intro X Rs Inv Out fY cY hY x0 hI0 M1 w hw
 refine enterR [(0,.func fY #[] cY),(1,.pointer (some ⟨Bl,0,none⟩))] hw Tryd.func47 Tryd.ntmps47 ?_
 generalize hes:stL l.length 0 l=es at *
 all_goals (refine go ?_;and_intros<;>(try exact trivial)<;>repeat (first|refine fun (Bk:Nat)=>?_|intro h))
 refine J.loop (c:=_) ((0,0,a,l.length,c,x0):Nat×Nat×Option Addr×Nat×Nat×X) (fun s=>s.2.2.2.1) (fun s=>[(0,.func fY #[] cY),(1,.pointer (some ⟨Bl,0,none⟩))]) (fun s=>.blk Bl 27 [.slice s.2.2.1 s.2.2.2.1 s.2.2.2.2.1] 1::(Rs s.2.2.2.2.2++M1)) (fun s=>s.2.1+s.2.2.2.1=l.length∧Inv s.1 s.2.2.2.2.2∧es.drop s.1=stL l.length s.2.1 (l.drop s.2.1)∧s.1≤es.length∧(0 < s.2.2.2.1→s.2.2.1=subA a c s.2.1 5∧s.2.2.2.2.1=c-s.2.1)∧s.2.2.2.1≤s.2.2.2.2.1) ?_ sbT sbL ?_
 ·refine ⟨Nat.zero_add _,hI0,?_,Nat.zero_le _,fun h=>⟨?_,rfl⟩,hc⟩
  ·dsimp only
   rw [List.drop_zero,List.drop_zero,hes]
  ·dsimp only at h ⊢
   obtain ⟨ba,oa,rfl,_⟩:=SlAt.all hA (by omega)
   rw [subA_some (by omega),Nat.zero_mul,Nat.add_zero]
 clear hI0 hw
 intro ⟨i,p,au,ln,cu,x⟩ ⟨h1,h2,h3,h4,h5,h6⟩ ih
 dsimp only at h1 h2 h3 h4 h5 h6 ⊢
 rcases Nat.eq_zero_or_pos ln with h0|h0
 ·obtain rfl:p=l.length:=by omega
  subst h0
  rw [stL_end] at h3
  have h7:es.length=i:=by
   have:=congrArg List.length h3
   rw [List.length_drop,List.length_nil] at this
   omega
  clear ih
  all_goals (refine go ?_;and_intros<;>(try exact trivial)<;>repeat (first|refine fun (Bk:Nat)=>?_|intro h))
  refine end0 Tryd.func47 Tryd.results47 ?_
  exact fun w' hw'=>⟨rfl,x,hw'.forget sbL,.inl (by rw [h7];exact h2)⟩
 obtain ⟨ba,oa,rfl,hra⟩:=SlAt.all hA (by omega)
 obtain ⟨rfl,rfl⟩:=h5 h0
 rw [subA_some (by omega)]
 clear h5
 have hp:p < l.length:=by omega
 have hstep:=stL_step (Nat.le_refl l.length) hp
 have hrp:=hra p hp
 have hgp:=fun w'=>gap_holds l[p] w'
 rw [← Nat.add_zero (oa+p*5),← Nat.zero_mul 5] at hrp
 by_cases hg:l[p].tab.length=0
 ·have hn1:nst (l.drop p)=1:=by
   rw [List.drop_eq_getElem_cons hp,nst,if_pos hg]
  rw [decide_eq_true hg] at hgp
  clear hg
  all_goals (refine go ?_;and_intros<;>(try exact trivial)<;>repeat (first|refine fun (Bk:Nat)=>?_|intro h))
  repeat' ((first|fail)<;>(refine go ?_;and_intros<;>(try exact trivial)<;>repeat (first|refine fun (Bk:Nat)=>?_|intro h)))
  refine J.loop (c:=_) (1:Nat) (fun s=>0) (fun s=>[(0,.func fY #[] cY),(1,.pointer (some ⟨Bl,0,none⟩)),(3,.int .i64 (s:Nat))]) (fun s=>.blk Bl 27 [.slice (some ⟨ba,oa+p*5,none⟩) ln (c-p)] 1::(Rs x++M1)) (fun s=>s=1) ?_ sbT sbL ?_
  ·rfl
  intro n hn _
  generalize l[p]=y at *
  obtain ⟨yf,yt,tab,adr,cx,lo,hi⟩:=y
  dsimp only [rnV,rnA] at *
  by_cases hln:n < ln
  ·skip
   have hnst:nst (l.drop p)=n:=(hn1.trans hn.symm)
   rw [hnst] at hstep
   obtain ⟨e1,e2,e3⟩:=drop_at (h3.trans hstep)
   have hy:=hY i x (p,n) h2 e1
   try dsimp only at hy
   rw [show segV (some ⟨ba,oa,none⟩) c (p,n)=.slice (some ⟨ba,oa+p*5,none⟩) n (c-p) by rw [segV,subA_some (by omega)]] at hy
   have ih1:=fun x' h=>ih (i+1,p+n,subA (some ⟨ba,oa+p*5,none⟩) (c-p) n 5,ln-n,c-p-n,x') ⟨by dsimp only;omega,h,e2,e3,fun hl=>⟨by dsimp only at hl ⊢;rw [subA_some (by omega),subA_some (by omega),Nat.add_mul,← Nat.add_assoc],by dsimp only;omega⟩,by dsimp only;omega⟩ (by dsimp only;omega)
   dsimp only at ih1
   clear ih hstep hY e1 e2 hra
   all_goals (refine go ?_;and_intros<;>(try exact trivial)<;>repeat (first|refine fun (Bk:Nat)=>?_|intro h))
   repeat' ((first|(apply G.ix (i:=0);rfl;rfl;exact rfl;omega;rfl)|(apply G.cV (g:=24) (d:=15);rfl;rfl;exact fun w' _=>hgp w')|(apply G.slH (len:=n);rfl;rfl;rfl;omega;omega;rfl)|(refine G.callG (Rs:=Rs) (x:=x) (M1:=M1) (Inv (i+1)) Out hy rfl rfl rfl rfl (by (repeat (first|exact Splt.nil|apply Splt.cons))) ?_ ?_;all_goals intro x' hx')|(apply G.sliceFrom (l:=n);rfl;rfl;rfl;omega;rfl;rfl;rfl))<;>(refine go ?_;and_intros<;>(try exact trivial)<;>repeat (first|refine fun (Bk:Nat)=>?_|intro h)))
   ·exact J.fin (ih1 x' hx')
   ·refine ret0 Tryd.func47 Tryd.results47 ?_
    exact fun w' hw'=>⟨rfl,x',hw'.forget sbL,.inr hx'⟩
  ·skip
   have hnst:nst (l.drop p)=n:=(hn1.trans hn.symm)
   rw [hnst] at hstep
   obtain ⟨e1,e2,e3⟩:=drop_at (h3.trans hstep)
   have hy:=hY i x (p,n) h2 e1
   try dsimp only at hy
   rw [show segV (some ⟨ba,oa,none⟩) c (p,n)=.slice (some ⟨ba,oa+p*5,none⟩) n (c-p) by rw [segV,subA_some (by omega)]] at hy
   have ih1:=fun x' h=>ih (i+1,p+n,subA (some ⟨ba,oa+p*5,none⟩) (c-p) n 5,ln-n,c-p-n,x') ⟨by dsimp only;omega,h,e2,e3,fun hl=>⟨by dsimp only at hl ⊢;rw [subA_some (by omega),subA_some (by omega),Nat.add_mul,← Nat.add_assoc],by dsimp only;omega⟩,by dsimp only;omega⟩ (by dsimp only;omega)
   dsimp only at ih1
   clear ih hstep hY e1 e2 hra
   all_goals (refine go ?_;and_intros<;>(try exact trivial)<;>repeat (first|refine fun (Bk:Nat)=>?_|intro h))
   repeat' ((first|fail|(apply G.slH (len:=n);rfl;rfl;rfl;omega;omega;rfl)|(refine G.callG (Rs:=Rs) (x:=x) (M1:=M1) (Inv (i+1)) Out hy rfl rfl rfl rfl (by (repeat (first|exact Splt.nil|apply Splt.cons))) ?_ ?_;all_goals intro x' hx')|(apply G.sliceFrom (l:=n);rfl;rfl;rfl;omega;rfl;rfl;rfl))<;>(refine go ?_;and_intros<;>(try exact trivial)<;>repeat (first|refine fun (Bk:Nat)=>?_|intro h)))
   ·exact J.fin (ih1 x' hx')
   ·refine ret0 Tryd.func47 Tryd.results47 ?_
    exact fun w' hw'=>⟨rfl,x',hw'.forget sbL,.inr hx'⟩
 have hgp0:=hg
 rw [decide_eq_false hg] at hgp
 have hpv:∃ y:Rn,y=l[p]:=⟨_,rfl⟩
 obtain ⟨y,hy0⟩:=hpv
 rw [← hy0] at hgp hrp
 clear hy0 hgp0
 obtain ⟨yf,yt,tab,adr,cx,lo,hi⟩:=y
 dsimp only [rnV,rnA] at hgp hrp
 all_goals (refine go ?_;and_intros<;>(try exact trivial)<;>repeat (first|refine fun (Bk:Nat)=>?_|intro h))
 repeat' ((first|fail)<;>(refine go ?_;and_intros<;>(try exact trivial)<;>repeat (first|refine fun (Bk:Nat)=>?_|intro h)))
 refine J.loop (c:=_) (1:Nat) (fun s=>ln-s) (fun s=>[(0,.func fY #[] cY),(1,.pointer (some ⟨Bl,0,none⟩)),(3,.int .i64 (s:Nat))]) (fun s=>.blk Bl 27 [.slice (some ⟨ba,oa+p*5,none⟩) ln (c-p)] 1::(Rs x++M1)) (fun s=>1≤s∧s≤ln∧∀ j (h:j < l.length),p≤j→j < p+s→l[j].tab.length≠0) ?_ sbT sbL ?_
 ·exact ⟨Nat.le_refl _,h0,fun j h j1 j2=>by (obtain rfl:j=p:=by omega);exact hg⟩
 intro n ⟨n1,n2,n3⟩ ihn
 have hse:=fun h=>(seg_nst (p:=p) (q:=p+n) (by omega) (by omega) n3 h).trans (Nat.add_sub_cancel_left p n)
 by_cases hn:n < ln
 case neg =>
  clear ihn
  have hnst:nst (l.drop p)=n:=(hse fun h=>absurd h (by omega))
  rw [hnst] at hstep
  obtain ⟨e1,e2,e3⟩:=drop_at (h3.trans hstep)
  have hy:=hY i x (p,n) h2 e1
  try dsimp only at hy
  rw [show segV (some ⟨ba,oa,none⟩) c (p,n)=.slice (some ⟨ba,oa+p*5,none⟩) n (c-p) by rw [segV,subA_some (by omega)]] at hy
  have ih1:=fun x' h=>ih (i+1,p+n,subA (some ⟨ba,oa+p*5,none⟩) (c-p) n 5,ln-n,c-p-n,x') ⟨by dsimp only;omega,h,e2,e3,fun hl=>⟨by dsimp only at hl ⊢;rw [subA_some (by omega),subA_some (by omega),Nat.add_mul,← Nat.add_assoc],by dsimp only;omega⟩,by dsimp only;omega⟩ (by dsimp only;omega)
  dsimp only at ih1
  clear ih hstep hY e1 e2 hra
  all_goals (refine go ?_;and_intros<;>(try exact trivial)<;>repeat (first|refine fun (Bk:Nat)=>?_|intro h))
  repeat' ((first|fail|(apply G.slH (len:=n);rfl;rfl;rfl;omega;omega;rfl)|(refine G.callG (Rs:=Rs) (x:=x) (M1:=M1) (Inv (i+1)) Out hy rfl rfl rfl rfl (by (repeat (first|exact Splt.nil|apply Splt.cons))) ?_ ?_;all_goals intro x' hx')|(apply G.sliceFrom (l:=n);rfl;rfl;rfl;omega;rfl;rfl;rfl))<;>(refine go ?_;and_intros<;>(try exact trivial)<;>repeat (first|refine fun (Bk:Nat)=>?_|intro h)))
  ·exact J.fin (ih1 x' hx')
  ·refine ret0 Tryd.func47 Tryd.results47 ?_
   exact fun w' hw'=>⟨rfl,x',hw'.forget sbL,.inr hx'⟩
 have hrn:=hra (p+n) (by omega)
 have hgn:=fun w'=>gap_holds (l[p+n]'(by omega)) w'
 rw [Nat.add_mul,← Nat.add_assoc] at hrn
 by_cases ht:(l[p+n]'(by omega)).tab.length=0
 ·have hse:=hse fun _=>ht
  rw [decide_eq_true ht] at hgn
  clear ht ihn n3
  generalize (l[p+n]'(by omega))=z at *
  obtain ⟨zf,zt,ztab,zadr,zc,zlo,zhi⟩:=z
  dsimp only [rnV,rnA] at *
  have hnst:nst (l.drop p)=n:=hse
  rw [hnst] at hstep
  obtain ⟨e1,e2,e3⟩:=drop_at (h3.trans hstep)
  have hy:=hY i x (p,n) h2 e1
  try dsimp only at hy
  rw [show segV (some ⟨ba,oa,none⟩) c (p,n)=.slice (some ⟨ba,oa+p*5,none⟩) n (c-p) by rw [segV,subA_some (by omega)]] at hy
  have ih1:=fun x' h=>ih (i+1,p+n,subA (some ⟨ba,oa+p*5,none⟩) (c-p) n 5,ln-n,c-p-n,x') ⟨by dsimp only;omega,h,e2,e3,fun hl=>⟨by dsimp only at hl ⊢;rw [subA_some (by omega),subA_some (by omega),Nat.add_mul,← Nat.add_assoc],by dsimp only;omega⟩,by dsimp only;omega⟩ (by dsimp only;omega)
  dsimp only at ih1
  clear ih hstep hY e1 e2 hra
  all_goals (refine go ?_;and_intros<;>(try exact trivial)<;>repeat (first|refine fun (Bk:Nat)=>?_|intro h))
  repeat' ((first|(apply G.ix (i:=0);rfl;rfl;exact rfl;omega;rfl)|(apply G.ix (i:=n);rfl;rfl;rfl;omega;rfl)|(apply G.cV (g:=24) (d:=15);rfl;rfl;exact fun w' _=>hgp w')|(apply G.cV (g:=24) (d:=23);rfl;rfl;exact fun w' _=>hgn w')|(apply G.slH (len:=n);rfl;rfl;rfl;omega;omega;rfl)|(refine G.callG (Rs:=Rs) (x:=x) (M1:=M1) (Inv (i+1)) Out hy rfl rfl rfl rfl (by (repeat (first|exact Splt.nil|apply Splt.cons))) ?_ ?_;all_goals intro x' hx')|(apply G.sliceFrom (l:=n);rfl;rfl;rfl;omega;rfl;rfl;rfl))<;>(refine go ?_;and_intros<;>(try exact trivial)<;>repeat (first|refine fun (Bk:Nat)=>?_|intro h)))
  ·exact J.fin (ih1 x' hx')
  ·refine ret0 Tryd.func47 Tryd.results47 ?_
   exact fun w' hw'=>⟨rfl,x',hw'.forget sbL,.inr hx'⟩
 have ih3:=ihn (n+1) ⟨Nat.le_succ_of_le n1,hn,fun j h j1 j2=>by
  rcases Nat.lt_or_ge j (p+n) with j3|j3
  ·exact n3 j h j1 j3
  ·obtain rfl:j=p+n:=by omega
   exact ht⟩ (by omega)
 rw [decide_eq_false ht] at hgn
 clear ih ihn hra hstep hse hY ht n3 hg
 generalize (l[p+n]'(by omega))=z at *
 obtain ⟨zf,zt,ztab,zadr,zc,zlo,zhi⟩:=z
 dsimp only [rnV,rnA] at *
 all_goals (refine go ?_;and_intros<;>(try exact trivial)<;>repeat (first|refine fun (Bk:Nat)=>?_|intro h))
 repeat' ((first|(apply G.ix (i:=0);rfl;rfl;exact rfl;omega;rfl)|(apply G.ix (i:=n);rfl;rfl;rfl;omega;rfl)|(apply G.cV (g:=24) (d:=15);rfl;rfl;exact fun w' _=>hgp w')|(apply G.cV (g:=24) (d:=23);rfl;rfl;exact fun w' _=>hgn w'))<;>(refine go ?_;and_intros<;>(try exact trivial)<;>repeat (first|refine fun (Bk:Nat)=>?_|intro h)))
 exact J.fin ih3
theorem stretches_holds (w0:World) (M:List Row) (w:World) (a:Option Addr) (n c:Nat) (hw:Sat w0 M w) :
  Calls Tryd.prog 27 #[.slice a n c] w fun e w'=>∃ x:Nat,e=.returned (.func (.func 47) #[] #[.pointer (some ⟨x,0,none⟩)])∧Sat w0 (.blk x 27 [.slice a n c] 1::M) w':=by
 refine enterR [(0,.slice a n c)] hw Tryd.func27 Tryd.ntmps27 ?_
 all_goals (refine go ?_;and_intros<;>(try exact trivial)<;>repeat (first|refine fun (Bk:Nat)=>?_|intro h))
 refine ret1 Tryd.func27 Tryd.results27 ?_
 exact fun w' hw'=>⟨_,rfl,hw'⟩
end Go.Proofs.YtcdgibkbbcekhaaDoor
/-
 Ranges over functions that hand out a list in whatever order and keep a row.
-/
namespace Go.Sl
open Go.RowKit
variable {C:Ctx}{st:List (Nat×Value)}{M:List Row}{k:List Item}{q q':Md}{all rest:List Oper}{d:Nat}{ty:TypeId}{pos:String}{after:Array Edge}{gd:Option (Nat×Bool)}
def IterK (P:Program) (w0:World) (K:List Row) (Kr:Row) (f:FuncId) (cap:Array Value) {E:Type} (enc:E→List Value) (es:List E):Prop :=
 ∀ {X:Type} (Rs:X→List Row) (Inv:List E→X→Prop) (fY:Fn) (cY:Array Value),
  (∀ R x i (hi:i < R.length),Inv R x→∀ M' w,Sat w0 (Rs x++M') w→CallsV P (.func fY #[] cY) (enc R[i]) w fun v w'=>∃ x',Sat w0 (Rs x'++M') w'∧v=.bool true∧Inv (R.eraseIdx i) x') →
  ∀ x0,Inv es x0→∀ M1 w,Sat w0 (K++(Rs x0++M1)) w →
   Calls P f (#[.func fY #[] cY]++cap) w fun e w'=>e=.returned (.tuple #[])∧∃ x',Sat w0 (Kr::(Rs x'++M1)) w'∧Inv [] x'
theorem J.rangeK1 {f:FuncId} [hF:Fun C.P f] {cap:Array Value}{g:Operand}{p1:Tmp}{assign body:Code}{E:Type}{e1:E→Value}{es:List E}{K:List Row}{Kr:Row}{X:Type} (Rs:X→List Row) (Inv:List E→X→Prop) (x0:X) (M1:List Row)
  (hIt:IterK C.P C.w0 K Kr f cap (fun e=>[e1 e]) es) (hb:C.b.roundOf=none) (hg:evS st g=some (.func (.func f) #[] cap)) (hp1:Nat.blt p1 C.N=true) (hM:M.Perm (K++(Rs x0++M1))) (hI:Inv es x0)
  (hround:∀ R x i (hi:i < R.length),Inv R x→∀ L (r:Loop) M',r.state=.ready→r.pending=none →
   J (rctx C.P L C.b.fn C.N (RoundP C.w0 L r Rs M' (Inv (R.eraseIdx i))) C.w0) ((p1,e1 R[i])::st) (.obj L (.loop r)::Rs x++M') [.code assign,.beginRound,.code body])
  (h1:∀ Bd x,Inv [] x→J { C with D:=mark Bd::C.D } st (.obj Bd (.deferred (some []))::(Kr::(Rs x++M1))) k) :
  J C st M (.code (.rangeFunc g #[p1] assign body)::k):=by
 refine J.perm hM (J.range (f:=f) (cap:=cap) (X:={ x:X // Inv [] x }) (fun x=>Kr::(Rs x.1++M1)) (fun _=>none) (fun _=>.ready) hb hg (fun x=>by simp) ?_ fun Bd x=>h1 Bd x.1 x.2)
 intro tmps Bd L w r hr hfit hw
 have hrs:r.state=.ready:=by rw [hr]
 have hrp:r.pending=none:=by rw [hr]
 have hperm:∀ (o:Obj) x,(Row.obj L o::.obj Bd (.deferred (some []))::(K++(Rs x++M1))).Perm (K++((.obj L o::Rs x)++(.obj Bd (.deferred (some []))::M1))):=fun o x =>
  perm_cat [[Row.obj L o],[.obj Bd (.deferred (some []))],K,Rs x,M1] [0,1,2,3,4] [2,0,3,1,4] rfl
 have hperm2:∀ (o:Obj) x,(Row.obj L o::.obj Bd (.deferred (some []))::(Kr::(Rs x++M1))).Perm (Kr::((.obj L o::Rs x)++(.obj Bd (.deferred (some []))::M1))):=fun o x =>
  perm_cat [[Row.obj L o],[.obj Bd (.deferred (some []))],[Kr],Rs x,M1] [0,1,2,3,4] [2,0,3,1,4] rfl
 have hmain:=hIt (X:=X) (fun x=>Row.obj L (.loop r)::Rs x) (fun R x=>Inv R x) (.yield L) #[] ?_ x0 hI (.obj Bd (.deferred (some []))::M1) w (hw.perm (hperm _ x0))
 ·refine hmain.mono fun e w2 ⟨q1,x,q2,q3⟩=>?_
  have hrr:({ r with state:=.ready,pending:=none }:Loop)=r:=by rw [hr]
  refine ⟨_,⟨x,q3⟩,q1,?_⟩
  show Sat C.w0 (.obj L (.loop { r with state:=.ready,pending:=none })::_) w2
  rw [hrr];exact q2.perm (hperm2 _ x).symm
 ·intro R x i hi h4 M' w1 hw1
  have h6:=hround R x i hi h4 L r M' hrs hrp
  refine .yield L r rfl (hw1.hold _ (.head _)) (by rw [hr];rfl) ?_
  have hf6:=hfit.put hp1 (e1 R[i])
  have e3:(r.params.zip [e1 R[i]].toArray).foldl (fun tmps (t,a)=>tmps.setIfInBounds t a) r.tmps=(({ tmps:=tmps,defers:=[] }:Act).put (some p1) (e1 R[i])).tmps:=by
   have e0:((#[p1]:Array Tmp).zip [e1 R[i]].toArray)=#[(p1,e1 R[i])]:=by simp
   rw [hr];dsimp only;rw [e0];simp [Act.put]
  rw [e3,show r.fn=C.b.fn by rw [hr],show r.assign=assign by rw [hr],show r.body=body by rw [hr]]
  have h7:=rounds_of hf6 hw1 h6
  intro c cs
  obtain ⟨v,w',⟨x',h8,h9,h10⟩,h11⟩:=h7 c cs
  exact ⟨v,w',⟨x',h10,h8,h9⟩,h11⟩
end Go.Sl
/-
 Contracts: the keys of a map of counts,collected and sorted (as right/OR does for a set).
-/
namespace Go.Proofs.YtcdgibkbbcekhaaDoor
open Go.RowKit Go.Sl Go.Num
namespace KI
theorem callPG {C:Ctx}{st:List (Nat×Value)}{M:List Row}{k:List Item}{all rest:List Oper}{d:Nat}{ty:TypeId}{pos:String}{after:Array Edge}{gd:Option (Nat×Bool)}{X:Type}{Rs:X→List Row}{x:X}{K M1:List Row}{f:Operand}{args:List Operand}{vs:List Value}{fv:Value}{at_:Array TypeId} (Ok:X→Prop)
  (hc:∀ M' w,Sat C.w0 (Rs x++M') w→CallsV C.P fv vs w fun v w'=>∃ x',Sat C.w0 (Rs x'++M') w'∧v=.bool true∧Ok x')
  (hf:evS st f=some fv) (ha:evL st args=some vs) (hw:wnB all st gd=true) (hd:Nat.blt d C.N=true) (hM:Splt (Rs x++M1) M K)
  (h1:∀ x',Ok x'→G .seq C all ((d,.bool true)::st) (K++(Rs x'++M1)) rest k) :
  G .seq C all st M ({ dst:=some d,op:=.call { callee:=.value f,args:=args.toArray,argTypes:=at_ },type:=ty,pos,after,guard:=gd }::rest) k :=
 G.callG (Rs:=Rs) (x:=x) (M1:=M1) Ok (fun _=>False) (fun M' w hw'=>(hc M' w hw').mono fun v w' ⟨x',h2,h3,h4⟩=>⟨x',h2,.inl ⟨h3,h4⟩⟩) hf ha hw hd hM h1 fun _ h=>h.elim
theorem map_eraseIdx' {α β:Type} (f:α→β):∀ (l:List α) (k:Nat),(l.map f).eraseIdx k=(l.eraseIdx k).map f
 | [],_=>rfl
 | _::_,0=>rfl
 | x::l,k+1=>by rw [List.map_cons,List.eraseIdx_cons_succ,List.eraseIdx_cons_succ,List.map_cons,map_eraseIdx' f l k]
theorem cons_eraseIdx {α:Type}:∀ {l:List α}{i:Nat} (h:i < l.length),(l[i]::l.eraseIdx i).Perm l
 | x::l,0,_=>.refl _
 | x::l,i+1,h=>by
  rw [List.eraseIdx_cons_succ,List.getElem_cons_succ]
  exact (List.Perm.swap _ _ _).trans (.cons x (cons_eraseIdx (by simpa using h)))
theorem keys_iter (w0:World) (Bm b:Nat) (es:Array MapEntry) (clock:Nat) (L:List (Int×Value)) (hI:MapIs (Value.int .i64) es clock L) :
  IterK Tryd.prog w0 [.blk Bm 64 [.map (some b)] 1,.obj b (.map es clock)] (.obj b (.map es clock)) 50 #[.pointer (some ⟨Bm,0,none⟩)] (fun e:Int=>[.int .i64 e]) (L.map (·.1)):=by
 intro X Rs Inv fY cY hY x0 hI0 M1 w hw
 refine enterR [(0,.func fY #[] cY),(1,.pointer (some ⟨Bm,0,none⟩))] hw Tryd.func50 Tryd.ntmps50 ?_
 all_goals (refine go ?_;and_intros<;>(try exact trivial)<;>repeat (first|refine fun (Bk:Nat)=>?_|intro h))
 repeat' ((first|(apply G.rg;rfl;exact mm;rfl;intro br))<;>(refine go ?_;and_intros<;>(try exact trivial)<;>repeat (first|refine fun (Bk:Nat)=>?_|intro h)))
 refine J.loop (c:=_) ((L,#[],x0):List (Int×Value)×Array Nat×X) (fun s=>s.1.length) (fun s=>[(0,.func fY #[] cY),(5,.pointer (some ⟨br,0,none⟩))]) (fun s=>.obj br (.mapIter (some b) clock s.2.1 clock)::.blk Bm 64 [.map (some b)] 1::.obj b (.map es clock)::(Rs s.2.2++M1)) (fun s=>Rem (Value.int .i64) es s.2.1 s.1∧Inv (s.1.map (·.1)) s.2.2) ?_ sbT sbL ?_
 ·exact ⟨Rem.start hI,hI0⟩
 clear hI0 hw
 intro ⟨R,seen,x⟩ ⟨hR,h2⟩ ih
 dsimp only at hR h2 ⊢
 by_cases hR0:R=[]
 ·subst hR0
  clear ih
  all_goals (refine go ?_;and_intros<;>(try exact trivial)<;>repeat (first|refine fun (Bk:Nat)=>?_|intro h))
  repeat' ((first|(apply G.nx0 hI hR;rfl;rfl;exact mm;exact mm))<;>(refine go ?_;and_intros<;>(try exact trivial)<;>repeat (first|refine fun (Bk:Nat)=>?_|intro h)))
  refine end0 Tryd.func50 Tryd.results50 ?_
  exact fun w' hw'=>⟨rfl,x,hw'.forget sbL,h2⟩
 ·have hy:∀ j (hj:j < R.length),∀ M' w',Sat w0 (Rs x++M') w'→CallsV Tryd.prog (.func fY #[] cY) [.int .i64 R[j].1] w' fun v w2=>∃ x',Sat w0 (Rs x'++M') w2∧v=.bool true∧Inv ((R.eraseIdx j).map (·.1)) x':=fun j hj M' w' hw'=>by
   have h3:=hY (R.map (·.1)) x j (by rw [List.length_map];exact hj) h2 M' w' hw'
   rw [List.getElem_map,map_eraseIdx'] at h3
   exact h3
  have ih:=fun j (hj:j < R.length) seen' x' h3 h4=>ih (R.eraseIdx j,seen',x') ⟨h3,h4⟩ (by dsimp only;rw [List.length_eraseIdx];rw [if_pos hj];omega)
  dsimp only at ih
  clear hY
  all_goals (refine go ?_;and_intros<;>(try exact trivial)<;>repeat (first|refine fun (Bk:Nat)=>?_|intro h))
  repeat' ((first|(apply G.nx1 hI hR hR0;rfl;rfl;(repeat (first|exact RAt.head|apply RAt.tail));exact mm;intro j hj seen' hR' ⟨e,he,hsn,hek,hev⟩)|(apply G.en hI he hsn hek hev;rfl;rfl;exact mm;exact mm)|(refine callPG (Rs:=Rs) (x:=x) (M1:=M1) (fun x'=>Inv ((R.eraseIdx j).map (·.1)) x') (hy j hj) rfl rfl rfl rfl (by (repeat (first|exact Splt.nil|apply Splt.cons))) ?_;intro x' hx'))<;>(refine go ?_;and_intros<;>(try exact trivial)<;>repeat (first|refine fun (Bk:Nat)=>?_|intro h)))
  exact J.fin (ih j hj seen' x' hR' hx')
theorem keys_holds (w0:World) (M:List Row) (w:World) (v:Value) (b:Nat) (hw:Sat w0 M w) :
  Calls Tryd.prog 30 #[.map (some b)] w fun e w'=>∃ x:Nat,e=.returned (.func (.func 50) #[] #[.pointer (some ⟨x,0,none⟩)])∧Sat w0 (.blk x 64 [.map (some b)] 1::M) w':=by
 refine enterR [(0,.map (some b))] hw Tryd.func30 Tryd.ntmps30 ?_
 all_goals (refine go ?_;and_intros<;>(try exact trivial)<;>repeat (first|refine fun (Bk:Nat)=>?_|intro h))
 refine ret1 Tryd.func30 Tryd.results30 ?_
 exact fun w' hw'=>⟨_,rfl,hw'⟩
theorem eraseIdx_perm {α:Type}{R S:List α}:∀ {T:List α}{i:Nat} (hi:i < T.length),(S++T).Perm R→((S++[T[i]])++T.eraseIdx i).Perm R:=fun {T}{i} hi h=>by
 refine List.Perm.trans ?_ h
 rw [List.append_assoc]
 refine List.Perm.append_left _ ?_
 exact cons_eraseIdx hi
theorem appendSeq_holds (w0:World) (M K:List Row) (Kr:Row) (w:World) (f:FuncId) [hF:Fun Tryd.prog f] (cap:Array Value) (Ks:List Int) (hIt:IterK Tryd.prog w0 K Kr f cap (fun e:Int=>[.int .i64 e]) Ks) (hl:Ks.length≤1000000) (hw:Sat w0 (K++M) w) :
  Calls Tryd.prog 61 #[.slice none 0 0,.func (.func f) #[] cap] w fun e w'=>∃ x:Option Addr×Nat×List Int,e=.returned (.slice x.1 x.2.2.length x.2.1)∧x.2.2.Perm Ks∧Sat w0 (.own 0 (.slice x.1 x.2.2.length x.2.1) 3 1 x.2.2.length (flat isV x.2.2)::Kr::M) w':=by
 refine enterR [(0,.slice none 0 0),(1,.func (.func f) #[] cap)] hw Tryd.func61 Tryd.ntmps61 ?_
 all_goals (refine go ?_;and_intros<;>(try exact trivial)<;>repeat (first|refine fun (Bk:Nat)=>?_|intro h))
 apply J.nilOwn (E:=3) (size:=1)
 refine J.rangeK1 (e1:=fun e:Int=>.int .i64 e) (es:=Ks) (K:=K) (fun s:Option Addr×Nat×List Int=>[.own 0 (.slice s.1 s.2.2.length s.2.1) 3 1 s.2.2.length (flat isV s.2.2),.blk Bk 22 [.slice s.1 s.2.2.length s.2.1] 1]) (fun R s=>(s.2.2++R).Perm Ks) (none,0,[]) M hIt rfl rfl rfl (perm_cat [[_],[_],K,M] [0,1,2,3] [2,0,1,3] rfl) (.refl _) ?_ ?_
 ·intro R ⟨au,cu,S⟩ i hi hP L0 rr M' hrs hrp
  dsimp only at hP ⊢
  have hP2:=eraseIdx_perm hi hP
  have hlS:S.length+1≤1000000:=by
   have:=hP.length_eq
   rw [List.length_append] at this
   omega
  have hap:flat isV S++isV R[i]=flat isV (S++[R[i]]):=flat1 isV _ _
  have hsl:(S++[R[i]]).length=S.length+1:=by rw [List.length_append];rfl
  generalize R[i]=y at *
  dsimp only [isV] at hap ⊢
  all_goals (refine goR ?_;and_intros<;>(try exact trivial)<;>repeat (first|refine fun (Bk:Nat)=>?_|intro h))
  repeat' ((first|(refine J.beginR rfl (i:=0) rfl hrs ?_)|(apply G.sliceL;rfl;rfl;rfl;rfl;rfl;rfl;rfl;rfl;intro Bs)|(apply G.apV;rfl;rfl;rfl;(repeat (first|exact RAt.head|apply RAt.tail));exact SrcV.blk (by exact mm) rfl rfl;exact hap;omega;omega;intro a2 c2)|(apply J.regQ;exact Tryd.mixed;decide +kernel)|(apply J.regL';exact Tryd.mixed;decide +kernel))<;>(refine goR ?_;and_intros<;>(try exact trivial)<;>repeat (first|refine fun (Bk:Nat)=>?_|intro h)))
  rw [← hsl]
  exact J.sel (leaveP hrs hrp (a2,c2,S++[y]) hP2 rfl)
 ·intro Bd ⟨au,cu,S⟩ hP
  dsimp only at hP ⊢
  rw [List.append_nil] at hP
  all_goals (refine go ?_;and_intros<;>(try exact trivial)<;>repeat (first|refine fun (Bk:Nat)=>?_|intro h))
  refine J.sel (T:=.obj Bd (.deferred (some []))::.own 0 (.slice au S.length cu) 3 1 S.length (flat isV S)::Kr::M) ?_
  refine leaveM (v:=.slice au S.length cu) (ds:=[Bd]) (M0:=.own 0 (.slice au S.length cu) 3 1 S.length (flat isV S)::Kr::M) Tryd.func61 rfl rfl rfl rfl (RunsTo.one Tryd.results61 (by (first|(apply ResV.tmp;rfl)|(apply ResV.cell;rfl;(first|(apply LdV.one;(first|exact CellV.row0 (by assumption) rfl|exact CellV.rowS (by assumption) rfl|exact CellV.rowSS (by assumption) rfl|(apply CellV.blk;exact mm;rfl)))|(apply LdV.aggBlk;exact mm;rfl)|(apply LdV.part;exact mm;rfl;rfl)|(apply LdV.aggRow;assumption;rfl)|(apply LdV.partRow;assumption;rfl;rfl)))))) (List.Perm.refl _) fun w' hw'=>?_
  exact ⟨(au,cu,S),rfl,hP,hw'⟩
theorem collect_holds (w0:World) (M K:List Row) (Kr:Row) (w:World) (f:FuncId) [hF:Fun Tryd.prog f] (cap:Array Value) (Ks:List Int) (hIt:IterK Tryd.prog w0 K Kr f cap (fun e:Int=>[.int .i64 e]) Ks) (hl:Ks.length≤1000000) (hw:Sat w0 (K++M) w) :
  Calls Tryd.prog 48 #[.func (.func f) #[] cap] w fun e w'=>∃ x:Option Addr×Nat×List Int,e=.returned (.slice x.1 x.2.2.length x.2.1)∧x.2.2.Perm Ks∧Sat w0 (.own 0 (.slice x.1 x.2.2.length x.2.1) 3 1 x.2.2.length (flat isV x.2.2)::Kr::M) w':=by
 refine enterR [(0,.func (.func f) #[] cap)] hw Tryd.func48 Tryd.ntmps48 ?_
 all_goals (refine go ?_;and_intros<;>(try exact trivial)<;>repeat (first|refine fun (Bk:Nat)=>?_|intro h))
 repeat' ((first|(refine G.cP (g:=61) (X:={ x:Option Addr×Nat×List Int // x.2.2.Perm Ks }) (fun x=>.slice x.1.1 x.1.2.2.length x.1.2.1) K (fun x=>[.own 0 (.slice x.1.1 x.1.2.2.length x.1.2.1) 3 1 x.1.2.2.length (flat isV x.1.2.2),Kr]) rfl rfl (List.Perm.refl _) (fun w' hw'=>(appendSeq_holds w0 M K Kr w' f cap Ks hIt hl hw').mono fun e w2 ⟨x,h1,h2,h3⟩=>⟨⟨x,h2⟩,h1,h3⟩) ?_;rintro ⟨⟨au,cu,S⟩,hS⟩))<;>(refine go ?_;and_intros<;>(try exact trivial)<;>repeat (first|refine fun (Bk:Nat)=>?_|intro h)))
 refine ret1 Tryd.func48 Tryd.results48 ?_
 exact fun w' hw'=>⟨(au,cu,S),rfl,hS,hw'⟩
def SortsTo (n:Nat):Prop:=∀ (w0:World) (M:List Row) (w:World) (au:Option Addr) (cu:Nat) (S:List Int),Sat w0 (.own 0 (.slice au n cu) 3 1 n (flat isV S)::M) w→n=S.length →
 Calls Tryd.prog 49 #[.slice au n cu] w fun e w'=>∃ S',e=.returned (.tuple #[])∧(S'.Perm S∧S'.Pairwise (·≤·))∧Sat w0 (.own 0 (.slice au n cu) 3 1 n (flat isV S')::M) w'
theorem sorted_holds (w0:World) (M K:List Row) (Kr:Row) (w:World) (f:FuncId) [hF:Fun Tryd.prog f] (cap:Array Value) (Ks:List Int) (hIt:IterK Tryd.prog w0 K Kr f cap (fun e:Int=>[.int .i64 e]) Ks) (hl:Ks.length≤1000000) (hso:SortsTo Ks.length) (hw:Sat w0 (K++M) w) :
  Calls Tryd.prog 29 #[.func (.func f) #[] cap] w fun e w'=>∃ x:Option Addr×Nat×List Int,e=.returned (.slice x.1 x.2.2.length x.2.1)∧(x.2.2.Perm Ks∧x.2.2.Pairwise (·≤·))∧Sat w0 (.own 0 (.slice x.1 x.2.2.length x.2.1) 3 1 x.2.2.length (flat isV x.2.2)::Kr::M) w':=by
 refine enterR [(0,.func (.func f) #[] cap)] hw Tryd.func29 Tryd.ntmps29 ?_
 all_goals (refine go ?_;and_intros<;>(try exact trivial)<;>repeat (first|refine fun (Bk:Nat)=>?_|intro h))
 repeat' ((first|(refine G.cP (g:=48) (X:={ x:Option Addr×Nat×List Int // x.2.2.Perm Ks }) (fun x=>.slice x.1.1 x.1.2.2.length x.1.2.1) K (fun x=>[.own 0 (.slice x.1.1 x.1.2.2.length x.1.2.1) 3 1 x.1.2.2.length (flat isV x.1.2.2),Kr]) rfl rfl (List.Perm.refl _) (fun w' hw'=>(collect_holds w0 M K Kr w' f cap Ks hIt hl hw').mono fun e w2 ⟨x,h1,h2,h3⟩=>⟨⟨x,h2⟩,h1,h3⟩) ?_;rintro ⟨⟨au,cu,S⟩,hS⟩;have hSl:=hS.length_eq;dsimp only at hS hSl ⊢)|(refine G.cP (g:=49) (X:={ S':List Int // S'.Perm S∧S'.Pairwise (·≤·) }) (fun _=>.tuple #[]) [.own 0 (.slice au S.length cu) 3 1 S.length (flat isV S)] (fun x=>[.own 0 (.slice au S.length cu) 3 1 S.length (flat isV x.1)]) rfl rfl (List.Perm.refl _) (fun w' hw'=>((hSl ▸ hso:SortsTo S.length) w0 (Kr::M) w' au cu S hw' rfl).mono fun e w2 ⟨S',h1,h2,h3⟩=>⟨⟨S',h2⟩,h1,h3⟩) ?_;rintro ⟨S',hS',hs2⟩;have hS'l:=hS'.length_eq;dsimp only at hS' hS'l ⊢))<;>(refine go ?_;and_intros<;>(try exact trivial)<;>repeat (first|refine fun (Bk:Nat)=>?_|intro h)))
 refine ret1 Tryd.func29 Tryd.results29 ?_
 refine fun w' hw'=>⟨(au,cu,S'),by dsimp only;rw [hS'l],⟨hS'.trans hS,hs2⟩,?_⟩
 dsimp only
 rw [hS'l];exact hw'
end KI
end Go.Proofs.YtcdgibkbbcekhaaDoor
/-
 Plain: the keys of a map of counts in order give the table.
-/
namespace Go.Proofs.YtcdgibkbbcekhaaDoor
open Go.RowKit Go.Sl Go.Num
def fT (D:Int→Int) (s:Int):Option (Int×Int):=if 0 < D s then some (s,D s) else none
theorem tab_keys {D:Int→Int}{cs:List Int} (hcs:cs.length=1001) (hg:∀ s (h:s < cs.length),cs[s]=D s):∀ (k m:Nat) (S:List Int),m+k=1001→S.Pairwise (· < ·)→(∀ s∈S,(m:Int)≤s∧s≤1000)→(∀ s:Nat,m≤s→s < 1001→0 < D s→(s:Int)∈S)→S.filterMap (fT D)=tabD m (cs.drop m)
 | 0,m,S,hm,_,h2,_=>by
  rw [List.drop_eq_nil_of_le (by omega),tabD]
  cases S with
  | nil=>rfl
  | cons s S=>have:=h2 s (List.mem_cons_self ..);omega
 | k+1,m,S,hm,h1,h2,h3=>by
  rw [tabD_step (by omega),hg]
  cases S with
  | nil =>
   have h4:=h3 m (Nat.le_refl _) (by omega)
   rw [if_neg (fun h=>by cases h4 h),List.nil_append]
   exact tab_keys hcs hg k (m+1) [] (by omega) h1 (fun s hs=>by cases hs) fun s q1 q2 q3=>h3 s (by omega) q2 q3
  | cons s S =>
   obtain ⟨h5,h6⟩:=List.pairwise_cons.1 h1
   by_cases hs:s=(m:Int)
   ·subst hs
    have ih:=tab_keys hcs hg k (m+1) S (by omega) h6 (fun s hs=>by have:=h5 s hs;have:=h2 s (List.mem_cons_of_mem _ hs);omega) fun s q1 q2 q3=>by
     rcases List.mem_cons.1 (h3 s (by omega) q2 q3) with h|h
     ·omega
     ·exact h
    rw [List.filterMap_cons,fT]
    by_cases hp:0 < D (m:Int)
    ·rw [if_pos hp,if_pos hp,ih];rfl
    ·rw [if_neg hp,if_neg hp,ih];rfl
   ·have h7:=h2 s (List.mem_cons_self ..)
    have h8:∀ x∈s::S,((m+1:Nat):Int)≤x∧x≤1000:=fun x hx=>by
     have h9:=h2 x hx
     rcases List.mem_cons.1 hx with rfl|hx
     ·omega
     ·have:=h5 x hx;omega
    have hp:¬ 0 < D (m:Int):=fun hp=>by have:=h8 _ (h3 m (Nat.le_refl _) (by omega) hp);omega
    rw [if_neg hp,List.nil_append]
    exact tab_keys hcs hg k (m+1) (s::S) (by omega) h1 h8 fun s q1 q2 q3=>h3 s (by omega) q2 q3
theorem strict_of {S K:List Int} (h:S.Perm K) (hk:K.Nodup) (hs:S.Pairwise (·≤·)):S.Pairwise (· < ·):=by
 have h1:S.Nodup:=h.symm.nodup hk
 exact (List.Pairwise.and hs h1).imp fun ⟨a,b⟩=>by omega
theorem setC_keys (y n:Int):∀ (L:List (Int×Int)) (x:Int),x∈(setC y n L).map (·.1) ↔ x=y∨x∈L.map (·.1)
 | [],x=>by simp [setC]
 | (z,m)::r,x=>by
  rw [setC]
  split
  ·rename_i h
   subst h
   simp
  ·rw [List.map_cons,List.mem_cons,setC_keys y n r x,List.map_cons,List.mem_cons]
   constructor
   ·rintro (h|h|h)
    ·exact .inr (.inl h)
    ·exact .inl h
    ·exact .inr (.inr h)
   ·rintro (h|h|h)
    ·exact .inr (.inl h)
    ·exact .inl h
    ·exact .inr (.inr h)
theorem cnt_no {x:Int}:∀ {L:List (Int×Int)},x ∉ L.map (·.1)→cnt x L=0
 | [],_=>rfl
 | (y,n)::r,h=>by
  rw [List.map_cons,List.mem_cons,not_or] at h
  rw [cnt,if_neg h.1,cnt_no h.2]
structure MpI (L:List (Int×Int)) (D:Int→Int):Prop where
 keys:∀ x∈L.map (·.1),0≤x∧x≤1000
 val:∀ x,cnt x L=D x
theorem MpI.nil:MpI [] fun _=>0:=⟨fun x hx=>(by cases hx),fun _=>rfl⟩
theorem MpI.set {L:List (Int×Int)}{D:Int→Int} (h:MpI L D) {y v:Int} (hy:0≤y∧y≤1000):MpI (setC y v L) fun x=>if x=y then v else D x:=⟨fun x hx=>by
 rcases (setC_keys y v L x).1 hx with rfl|h1
 ·exact hy
 ·exact h.keys x h1,fun x=>by rw [cnt_setC,h.val]⟩
theorem MpI.eqD {L:List (Int×Int)}{D D':Int→Int} (h:MpI L D) (he:∀ x,D x=D' x):MpI L D':=⟨h.keys,fun x=>by rw [h.val,he]⟩
theorem MpI.tab {L:List (Int×Int)}{D:Int→Int} (h:MpI L D) (hn:(L.map (·.1)).Nodup) {S:List Int} (hp:S.Perm (L.map (·.1))) (hs:S.Pairwise (·≤·)) {cs:List Int} (hcs:cs.length=1001) (hg:∀ s (h:s < cs.length),cs[s]=D s):S.filterMap (fT D)=tabD 0 cs:=by
 have:=tab_keys hcs hg 1001 0 S rfl (strict_of hp hn hs) (fun s hs=>by have:=h.keys s (hp.mem_iff.1 hs);omega) fun s _ _ q3=>by
  rw [hp.mem_iff]
  refine Decidable.byContradiction fun hc=>?_
  have:=cnt_no hc
  rw [h.val] at this
  omega
 rw [this,List.drop_zero]
def sumAt (s:Int):List (Int×Int)→Int
 | []=>0
 | (y,n)::r=>(if s=y then n else 0)+sumAt s r
theorem sumAt_app (s:Int):∀ a b:List (Int×Int),sumAt s (a++b)=sumAt s a+sumAt s b
 | [],b=>by rw [List.nil_append,sumAt,Int.zero_add]
 | (y,n)::a,b=>by rw [List.cons_append,sumAt,sumAt,sumAt_app s a b,Int.add_assoc]
theorem sumAt_no {s:Int}:∀ {T:List (Int×Int)},s ∉ T.map (·.1)→sumAt s T=0
 | [],_=>rfl
 | (y,n)::r,h=>by
  rw [List.map_cons,List.mem_cons,not_or] at h
  rw [sumAt,if_neg h.1,sumAt_no h.2];rfl
theorem sumAt_cnt {s:Int}:∀ {T:List (Int×Int)},(T.map (·.1)).Nodup→sumAt s T=cnt s T
 | [],_=>rfl
 | (y,n)::r,h=>by
  obtain ⟨h1,h2⟩:=List.nodup_cons.1 h
  rw [sumAt,cnt]
  split
  ·rename_i e
   dsimp only at h1
   rw [e,sumAt_no h1,Int.add_zero]
  ·rw [sumAt_cnt h2,Int.zero_add]
theorem sumAt_take {s:Int}{T:List (Int×Int)}{j:Nat} (h:j < T.length):sumAt s (T.take (j+1))=sumAt s (T.take j)+if s=T[j].1 then T[j].2 else 0:=by
 rw [List.take_succ_eq_append_getElem h,sumAt_app]
 show _+((if s=T[j].1 then T[j].2 else 0)+0)=_
 rw [Int.add_zero]
theorem sumAt_nn {s:Int}:∀ {T:List (Int×Int)},(∀ x∈T,0≤x.2)→0≤sumAt s T
 | [],_=>Int.le_refl _
 | (y,n)::r,h=>by
  have h1:=h (y,n) (List.mem_cons_self ..)
  have h2:=sumAt_nn (s:=s) (T:=r) fun x hx=>h x (List.mem_cons_of_mem _ hx)
  rw [sumAt];dsimp only at h1;split<;>omega
theorem sumAt_le {s:Int}{T:List (Int×Int)} (h:∀ x∈T,0≤x.2) (j:Nat):0≤sumAt s (T.take j)∧sumAt s (T.take j)≤sumAt s T:=by
 have h1:=sumAt_nn (s:=s) (T:=T.take j) fun x hx=>h x (List.mem_of_mem_take hx)
 have h2:=sumAt_nn (s:=s) (T:=T.drop j) fun x hx=>h x (List.mem_of_mem_drop hx)
 have h3:=sumAt_app s (T.take j) (T.drop j)
 rw [List.take_append_drop] at h3
 omega
theorem totC_take {l:List Rn}{k:Nat} (h:k < l.length) (s:Int):totC (l.take (k+1)) s=totC (l.take k) s+cnt s l[k].tab:=by
 rw [List.take_succ_eq_append_getElem h,totC_app]
 show _+(cnt s l[k].tab+0)=_
 rw [Int.add_zero]
theorem sorted_keys:∀ (t:List (Int×Int)) (q:Option (Int×Int)),sortedT q t=true→(t.map (·.1)).Nodup∧∀ p,q=some p→∀ x∈t,p.1 < x.1
 | [],_,_=>⟨List.nodup_nil,fun _ _ x hx=>by cases hx⟩
 | y::t,q,h=>by
  have h:((match q with|none=>true|some q=>decide (q.1 < y.1)) && sortedT (some y) t)=true:=by cases q<;>exact h
  rw [Bool.and_eq_true] at h
  obtain ⟨h1,h2⟩:=sorted_keys t (some y) h.2
  refine ⟨List.nodup_cons.2 ⟨fun hm=>?_,h1⟩,fun p hp x hx=>?_⟩
  ·obtain ⟨z,hz,e⟩:=List.mem_map.1 hm
   have:=h2 y rfl z hz
   dsimp only at e
   omega
  ·subst hp
   have h3:p.1 < y.1:=of_decide_eq_true h.1
   rcases List.mem_cons.1 hx with rfl|hx
   ·exact h3
   ·have:=h2 y rfl x hx
    omega
theorem OkR.tabs {r:Rn} (h:OkR r):(∀ x∈r.tab,(0≤x.1∧x.1≤1000)∧0≤x.2∧x.2≤1402560)∧∀ s,sumAt s r.tab=cnt s r.tab:=by
 by_cases h0:r.tab.length=0
 ·rw [List.length_eq_zero_iff.1 h0]
  exact ⟨fun x hx=>(by cases hx),fun s=>rfl⟩
 ·obtain ⟨h2,h3,_⟩:=oneE_tab h.2 h0
  exact ⟨fun x hx=>by have:=h2 x hx;omega,fun s=>sumAt_cnt (sorted_keys _ none h3).1⟩
end Go.Proofs.YtcdgibkbbcekhaaDoor
/-
 Plain: what is cut at a tick and joined again.
-/
namespace Go.Proofs.YtcdgibkbbcekhaaDoor
open Go.RowKit Go.Sl Go.Num
structure Cutd (at_ f t:Int) (l A B:List Rn):Prop where
 ca:Cn f A at_
 cb:Cn at_ B t
 oa:∀ r∈A,OkR r
 ob:∀ r∈B,OkR r
 jn:∀ o,(joinF o (A++B)).map rbare=(joinF o l).map rbare
 ct:cntL A*cntL B=cntL l
theorem joinE_ok {A B:List Rn}{f m t:Int} (h1:Cn f A m) (h2:Cn m B t) (o1:∀ r∈A,OkR r) (o2:∀ r∈B,OkR r) (ht:t-f≤2000):joinE A B=(joinL (A++B),0):=by
 have l1:=h1.le o1
 have l2:=h2.le o2
 have l3:=joinL_len (A++B)
 rw [List.length_append] at l3
 rw [joinE,if_neg (fun h=>h (runs_of h1 o1 (by omega))),if_neg (fun h=>h (runs_of h2 o2 (by omega))),if_neg,if_neg,if_neg (by omega)]
 ·rintro ⟨e1,e2,e3⟩
  rw [h2.last (fun e=>e2 (by rw [e];rfl)),(h1.first fun e=>e1 (by rw [e];rfl)).1] at e3
  omega
 ·rintro ⟨e1,e2,e3⟩
  rw [h1.last (fun e=>e1 (by rw [e];rfl)),(h2.first fun e=>e2 (by rw [e];rfl)).1] at e3
  exact e3 rfl
end Go.Proofs.YtcdgibkbbcekhaaDoor
/-
 Plain: summaries know the first and the last tick and the totals alone.
-/
namespace Go.Proofs.YtcdgibkbbcekhaaDoor
open Go.RowKit Go.Sl Go.Num
structure Dt (f t a b:Int) (D:Int→Int) (l:List Rn):Prop where
 cn:Cn f l t
 ok:∀ r∈l,OkR r
 gp:∀ r∈l,r.tab.length≠0
 ne:l≠[]
 hd:(headD' l).tab.length=1∧stg (headD' l)=a
 la:(lastD l).tab.length=1∧stg (lastD l)=b
 tot:∀ s,totC l s=D s
theorem putL_ne (o:List Rn) (x:Rn):putL o x≠[]:=by
 rcases nil_or_snoc o with rfl|⟨o,y,rfl⟩
 ·exact List.cons_ne_nil _ _
 ·rw [putL_snoc]
  split<;>exact fun h=>by simp at h
theorem putL_hd {o:List Rn}{x:Rn}{a:Int} (h0:o≠[]) (h:(headD' o).tab.length=1∧stg (headD' o)=a):(headD' (putL o x)).tab.length=1∧stg (headD' (putL o x))=a:=by
 rcases nil_or_snoc o with rfl|⟨o,y,rfl⟩
 ·exact absurd rfl h0
 ·rw [putL_snoc]
  cases o with
  | cons c o=>split<;>exact h
  | nil =>
   have h1:y.tab.length=1∧stg y=a:=h
   by_cases hj:jblB y x=true
   ·rw [if_pos hj]
    show (jnR y x).tab.length=1∧stg (jnR y x)=a
    rw [jblB] at hj
    by_cases hx:x.tab.length=1
    ·rw [if_pos ⟨h1.1,hx⟩,decide_eq_true_eq] at hj
     have e:(jnR y x).tab=[(stg x,x.to_-y.from_)]:=by rw [jnR,if_neg (by omega)]
     rw [stg,e,← h1.2,hj]
     exact ⟨rfl,rfl⟩
    ·rw [if_neg fun h2=>hx h2.2,decide_eq_true_eq] at hj
     exact absurd hj.1 (by omega)
   ·rw [if_neg hj];exact h1
theorem joinF_hd:∀ {l o:List Rn}{a:Int},o≠[]→(headD' o).tab.length=1∧stg (headD' o)=a→(headD' (joinF o l)).tab.length=1∧stg (headD' (joinF o l))=a
 | [],_,_,_,h=>h
 | x::l,o,a,h0,h=>by rw [joinF_cons];exact joinF_hd (putL_ne o x) (putL_hd h0 h)
theorem joinL_hd {l:List Rn}{a:Int} (h0:l≠[]) (h:(headD' l).tab.length=1∧stg (headD' l)=a):(headD' (joinL l)).tab.length=1∧stg (headD' (joinL l))=a:=by
 cases l with
 | nil=>exact absurd rfl h0
 | cons x l=>rw [joinL,joinF_cons,putL_nil];exact joinF_hd (List.cons_ne_nil _ _) h
theorem putL_la {o:List Rn}{x:Rn} (h:x.tab.length=1):(lastD (putL o x)).tab.length=1∧stg (lastD (putL o x))=stg x:=by
 rcases nil_or_snoc o with rfl|⟨o,y,rfl⟩
 ·exact ⟨h,rfl⟩
 ·rw [putL_snoc]
  split
  ·rw [lastD_snoc]
   have e:(jnR y x).tab=[(stg x,x.to_-y.from_)]:=by rw [jnR,if_neg (by omega)]
   rw [show stg (jnR y x)=((jnR y x).tab.headD (0,0)).1 from rfl,e]
   exact ⟨rfl,rfl⟩
  ·rw [lastD_snoc];exact ⟨h,rfl⟩
theorem joinL_la {l:List Rn}{b:Int} (h0:l≠[]) (h:(lastD l).tab.length=1∧stg (lastD l)=b):(lastD (joinL l)).tab.length=1∧stg (lastD (joinL l))=b:=by
 rcases nil_or_snoc l with rfl|⟨o,y,rfl⟩
 ·exact absurd rfl h0
 ·rw [lastD_snoc] at h
  rw [joinL,joinF_app,joinF_cons,joinF_nil,← h.2]
  exact putL_la h.1
theorem Cn.ne {l:List Rn}{f t:Int} (h:Cn f l t) (hft:f < t):l≠[]:=fun e=>by rw [e,Cn] at h;omega
variable {f t a b m c d:Int}{D E:Int→Int}{l k:List Rn}
theorem Dt.lt (h:Dt f t a b D l):f < t:=by
 have h1:=h.cn.le h.ok
 have h2:=List.length_pos_iff.2 h.ne
 omega
theorem Dt.join (h:Dt f t a b D l):Dt f t a b D (joinL l):=by
 obtain ⟨j1,j2,_,j4,j5⟩:=joinL_ok h.cn h.ok
 exact ⟨j1,j2,j5 h.gp,j1.ne h.lt,joinL_hd h.ne h.hd,joinL_la h.ne h.la,fun s=>(j4 s).trans (h.tot s)⟩
theorem headD_app {l k:List Rn} (h:l≠[]):headD' (l++k)=headD' l:=by cases l with
 | nil=>exact absurd rfl h
 | cons x l=>rfl
theorem lastD_app {l k:List Rn} (h:k≠[]):lastD (l++k)=lastD k:=by
 rcases nil_or_snoc k with rfl|⟨o,y,rfl⟩
 ·exact absurd rfl h
 ·rw [← List.append_assoc,lastD_snoc,lastD_snoc]
theorem Dt.app (h:Dt f m a b D l) (g:Dt m t c d E k):Dt f t a d (fun s=>D s+E s) (l++k) :=
 ⟨Cn.app.2 ⟨m,h.cn,g.cn⟩,fun r hr=>(List.mem_append.1 hr).elim (h.ok r) (g.ok r),fun r hr=>(List.mem_append.1 hr).elim (h.gp r) (g.gp r),fun e=>h.ne (List.append_eq_nil_iff.1 e).1,
  by rw [headD_app h.ne];exact h.hd,by rw [lastD_app g.ne];exact g.la,fun s=>by rw [totC_app,h.tot,g.tot]⟩
theorem Dt.eqB {l':List Rn} (h:Dt f t a b D l) (e:l'.map rbare=l.map rbare):Dt f t a b D l':=by
 have e1:=headD_bare l'
 have e2:=lastD_bare l'
 rw [e,headD_bare] at e1
 rw [e,lastD_bare] at e2
 refine ⟨cn_bare.1 (e ▸ cn_bare.2 h.cn),fun r hr=>?_,fun r hr=>?_,fun e0=>h.ne ?_,?_,?_,fun s=>?_⟩
 ·have:=List.mem_map_of_mem (f:=rbare) hr
  rw [e] at this
  obtain ⟨x,hx,ex⟩:=List.mem_map.1 this
  exact ok_bare.1 (ex ▸ ok_bare.2 (h.ok x hx))
 ·have:=List.mem_map_of_mem (f:=rbare) hr
  rw [e] at this
  obtain ⟨x,hx,ex⟩:=List.mem_map.1 this
  have h1:=h.gp x hx
  have h2:=congrArg Rn.tab ex
  intro h3
  exact h1 (by rw [show x.tab=r.tab from h2];exact h3)
 ·rw [e0,List.map_nil] at e
  exact List.map_eq_nil_iff.1 e.symm
 ·have h1:=congrArg Rn.tab e1
  have h2:(headD' l).tab=(headD' l').tab:=h1
  rw [stg,← h2];exact h.hd
 ·have h1:=congrArg Rn.tab e2
  have h2:(lastD l).tab=(lastD l').tab:=h1
  rw [stg,← h2];exact h.la
 ·rw [← totC_bare,e,totC_bare];exact h.tot s
theorem smTab_eq (h:∀ s,totC l s=D s):smTab l a b=tabD 0 ((List.range 1001).map fun s:Nat=>D s-(if (s:Int)=a then 1 else 0)-(if (s:Int)=b then 1 else 0)):=by
 unfold smTab
 simp only [h]
theorem smF_end (n:Nat) (o:List Rn):smF n o []=some o:=by cases n<;>rfl
theorem Dt.sum (h:Dt f t a b D l) (ht:t-f≤2000):sumE l=(joinL (smS f t a b (tabD 0 ((List.range 1001).map fun s:Nat=>D s-(if (s:Int)=a then 1 else 0)-(if (s:Int)=b then 1 else 0)))),0)∧Dt f t a b D (sumE l).1:=by
 have h1:sumE l=(joinL (smS f t a b (tabD 0 ((List.range 1001).map fun s:Nat=>D s-(if (s:Int)=a then 1 else 0)-(if (s:Int)=b then 1 else 0)))),0):=by
  have hp:=List.length_pos_iff.2 h.ne
  have e1:(headD' l).tab.length≠0:=by rw [h.hd.1];decide
  have hn:nst l=l.length:=nst_iff hp (Nat.le_refl _) (fun i hi=>h.gp _ (List.getElem_mem hi)) fun hh=>absurd hh (Nat.lt_irrefl _)
  have ho:smOne l=some (smS f t a b (tabD 0 ((List.range 1001).map fun s:Nat=>D s-(if (s:Int)=a then 1 else 0)-(if (s:Int)=b then 1 else 0)))):=by
   rw [smOne,rawB,rawB,h.hd.1,h.la.1,if_pos (by decide),(h.cn.first h.ne).1,h.cn.last h.ne,h.hd.2,h.la.2,smTab_eq h.tot]
  rw [sumE,if_neg fun e=>e (runs_of h.cn h.ok ht)]
  obtain ⟨n,hl⟩:∃ n,l.length=n+1:=⟨l.length-1,by omega⟩
  rw [hl,smF,if_neg (by omega),if_neg e1,hn,List.take_length,ho]
  dsimp only
  rw [List.drop_length,smF_end,List.nil_append]
 refine ⟨h1,?_⟩
 rw [h1]
 dsimp only
 have hs:=sm_ok h.ne h.cn h.ok h.gp h.hd.1 h.la.1
 rw [smTab_eq h.tot,h.hd.2,h.la.2] at hs
 exact (Dt.join ⟨hs.cn,hs.ok,hs.gp,hs.ne,by rw [hs.hd.2];exact ⟨hs.hd.1,h.hd.2⟩,by rw [hs.la.2];exact ⟨hs.la.1,h.la.2⟩,fun s=>(hs.tot s).trans (h.tot s)⟩)
def Ds (f:Int) (hs:List Int) (l:List Rn):Prop:=(hs=[]∧l=[])∨∃ a b,hs.head?=some a∧hs.getLast?=some b∧Dt f (f+hs.length) a b (fun s=>nIn s hs) l
theorem Ds.cn {f:Int}{hs:List Int}{l:List Rn} (h:Ds f hs l):Cn f l (f+hs.length):=by
 rcases h with ⟨rfl,rfl⟩|⟨a,b,_,_,h⟩
 ·show f=f+((0:Nat):Int);omega
 ·exact h.cn
theorem Ds.ok {f:Int}{hs:List Int}{l:List Rn} (h:Ds f hs l):∀ r∈l,OkR r:=by
 rcases h with ⟨rfl,rfl⟩|⟨a,b,_,_,h⟩
 ·exact fun r hr=>by cases hr
 ·exact h.ok
theorem Ds.tot {f:Int}{hs:List Int}{l:List Rn} (h:Ds f hs l) (s:Int):totC l s=nIn s hs:=by
 rcases h with ⟨rfl,rfl⟩|⟨a,b,_,_,h⟩
 ·rfl
 ·exact h.tot s
theorem Ds.eqB {f:Int}{hs:List Int}{l l':List Rn} (h:Ds f hs l) (e:l'.map rbare=l.map rbare):Ds f hs l':=by
 rcases h with ⟨rfl,rfl⟩|⟨a,b,h1,h2,h⟩
 ·rw [List.map_nil] at e
  exact .inl ⟨rfl,List.map_eq_nil_iff.1 e⟩
 ·exact .inr ⟨a,b,h1,h2,h.eqB e⟩
theorem Ds.of {f:Int}{hs:List Int} (h:rightH f hs=true):Ds f hs (joinL (raws f hs)):=by
 by_cases h0:hs=[]
 ·subst h0;exact .inl ⟨rfl,rfl⟩
 have hg:∀ r∈raws f hs,r.tab.length≠0:=fun r hr=>by
  obtain ⟨k,hk,rfl⟩:=List.mem_iff_getElem.1 hr
  rw [raws_get hs f k (by rwa [raws_len] at hk)]
  exact Nat.one_ne_zero
 have hp:=List.length_pos_iff.2 h0
 have hl:=raws_len hs f
 have ho:=raws_ok h
 refine .inr ⟨hs[0],hs[hs.length-1],by rw [← List.getElem?_eq_getElem hp,List.head?_eq_getElem?],by rw [List.getLast?_eq_getElem?,List.getElem?_eq_getElem],Dt.join ⟨raws_cn hs f,ho,hg,fun e=>?_,?_,?_,fun s=>?_⟩⟩
 ·have:=congrArg List.length e
  rw [raws_len,List.length_nil] at this;omega
 ·rw [headD_at (by omega),raws_get hs f 0 hp];exact ⟨rfl,rfl⟩
 ·rw [lastD_at (by omega)]
  have e:=raws_get hs f (hs.length-1) (by omega)
  simp only [hl]
  rw [e];exact ⟨rfl,rfl⟩
 ·exact (AgS.tot ho hg (raws_ag hs f) s).symm
theorem Ds.join {f:Int}{hs hs':List Int}{l l':List Rn} (h:Ds f hs l) (h':Ds (f+hs.length) hs' l'):Ds f (hs++hs') (joinL (l++l')):=by
 rcases h with ⟨rfl,rfl⟩|⟨a,b,h1,h2,h⟩
 ·rcases h' with ⟨rfl,rfl⟩|⟨c,d,h3,h4,h'⟩
  ·exact .inl ⟨rfl,rfl⟩
  ·refine .inr ⟨c,d,h3,h4,?_⟩
   rw [List.length_nil,Int.ofNat_zero,Int.add_zero] at h'
   exact h'.join
 ·rcases h' with ⟨rfl,rfl⟩|⟨c,d,h3,h4,h'⟩
  ·rw [List.append_nil,List.append_nil]
   exact .inr ⟨a,b,h1,h2,h.join⟩
  ·refine .inr ⟨a,d,by rw [List.head?_append,h1];rfl,by rw [List.getLast?_append,h4];rfl,?_⟩
   rw [show (fun s=>nIn s (hs++hs'))=fun s=>nIn s hs+nIn s hs' from funext fun s=>nIn_app s hs hs',List.length_append,Int.natCast_add,← Int.add_assoc]
   exact (h.app h').join
theorem Ds.sum {f:Int}{hs:List Int}{l:List Rn} (h:Ds f hs l) (hn:hs.length≤2000):(sumE l).2=0∧Ds f hs (sumE l).1:=by
 rcases h with ⟨rfl,rfl⟩|⟨a,b,h1,h2,h⟩
 ·exact ⟨rfl,.inl ⟨rfl,rfl⟩⟩
 ·obtain ⟨e1,e2⟩:=h.sum (by omega)
  exact ⟨by rw [e1],.inr ⟨a,b,h1,h2,e2⟩⟩
theorem Ds.joinE {f:Int}{hs hs':List Int}{l l':List Rn} (h:Ds f hs l) (h':Ds (f+hs.length) hs' l') (hn:hs.length+hs'.length≤2000):joinE l l'=(joinL (l++l'),0) :=
 joinE_ok h.cn h'.cn h.ok h'.ok (by omega)
end Go.Proofs.YtcdgibkbbcekhaaDoor
/-
 Plain: what Finer reckons of one run;contract: run.bounds.
-/
namespace Go.Proofs.YtcdgibkbbcekhaaDoor
open Go.RowKit Go.Sl Go.Num
theorem getLastD_at {t:List (Int×Int)} (h:t.length≠0) (d:Int×Int):t.getLastD d=t[t.length-1]'(by omega):=by
 rw [List.getLastD_eq_getLast?,List.getLast?_eq_getElem?,List.getElem?_eq_getElem (by omega)];rfl
theorem headD_at0 {t:List (Int×Int)} (h:0 < t.length) (d:Int×Int):t.headD d=t[0]:=by cases t with
 | nil=>exact absurd h (Nat.lt_irrefl _)
 | cons x t=>rfl
theorem bnds16_holds (r:Rn) (w:World) (hr:TabAt w r) (hl:r.tab.length≤1000000):Calls Tryd.prog 40 #[rnA r] w fun e w'=>e=.returned (.tuple #[.int .i64 (lstR r),.int .i64 (mstR r)])∧Below w.heap.size w w':=by
 have hg:=fun w'=>gap_holds r w'
 by_cases h0:r.tab.length=0
 ·rw [decide_eq_true h0] at hg
  rw [lstR,mstR,if_pos h0,if_pos h0]
  obtain ⟨f,t,tab,adr,cap,lo,hi⟩:=r
  dsimp only [rnA] at *
  refine enterA [(0,.agg #[.int .i64 f,.int .i64 t,.slice adr tab.length cap,.int .i64 lo,.int .i64 hi])] Tryd.func40 Tryd.ntmps40 ?_
  all_goals (refine go ?_;and_intros<;>(try exact trivial)<;>repeat (first|refine fun (Bk:Nat)=>?_|intro h))
  repeat' ((first|(apply G.cV (g:=24);rfl;rfl;exact fun w' _=>hg w'))<;>(refine go ?_;and_intros<;>(try exact trivial)<;>repeat (first|refine fun (Bk:Nat)=>?_|intro h)))
  all_goals refine ret2b Tryd.func40 Tryd.results40 ?_
  all_goals rfl
 ·rw [decide_eq_false h0] at hg
  rw [lstR,mstR,if_neg h0,if_neg h0,stg,headD_at0 (by omega),getLastD_at h0]
  obtain ⟨b,o,e,hra⟩:=SlAt.all hr (by omega)
  have r0:=hra 0 (by omega)
  have r1:=hra (r.tab.length-1) (by omega)
  have hz:(r.tab.length:Int)-1=((r.tab.length-1:Nat):Int):=by omega
  have h00:0 < r.tab.length:=by omega
  have h01:r.tab.length-1 < r.tab.length:=by omega
  clear hra hr
  obtain ⟨f,t,tab,adr,cap,lo,hi⟩:=r
  dsimp only [rnA] at *
  subst e
  generalize tab[0]=x at *
  generalize tab[tab.length-1]=y at *
  obtain ⟨xs,xn⟩:=x
  obtain ⟨ys,yn⟩:=y
  dsimp only [hoV] at *
  refine enterA [(0,.agg #[.int .i64 f,.int .i64 t,.slice (some ⟨b,o,none⟩) tab.length cap,.int .i64 lo,.int .i64 hi])] Tryd.func40 Tryd.ntmps40 ?_
  all_goals (refine go ?_;and_intros<;>(try exact trivial)<;>repeat (first|refine fun (Bk:Nat)=>?_|intro h))
  repeat' ((first|(apply G.cV (g:=24);rfl;rfl;exact fun w' _=>hg w')|(apply G.ix (i:=0);rfl;rfl;exact rfl;exact h00;rfl)|(apply G.ix (i:=tab.length-1);rfl;rfl;exact hz;exact h01;rfl))<;>(refine go ?_;and_intros<;>(try exact trivial)<;>repeat (first|refine fun (Bk:Nat)=>?_|intro h)))
  all_goals refine ret2b Tryd.func40 Tryd.results40 ?_
  all_goals rfl
theorem last_le':∀ (t:List (Int×Int)) (q:Option (Int×Int)) (d:Int×Int),sortedT q t=true→∀ x∈t,x.1≤(t.getLastD d).1
 | y::t,q,d,h,x,hx=>by
  have h:((match q with|none=>true|some q=>decide (q.1 < y.1)) && sortedT (some y) t)=true:=by cases q<;>exact h
  rw [Bool.and_eq_true] at h
  rw [List.getLastD_cons]
  cases t with
  | nil=>rw [List.mem_singleton.1 hx];exact Int.le_refl _
  | cons z t =>
   have ih:=last_le' (z::t) (some y) y h.2
   have h2:=(sorted_keys (z::t) (some y) h.2).2 y rfl
   rcases List.mem_cons.1 hx with rfl|hx
   ·have:=ih z (List.mem_cons_self ..)
    have:=h2 z (List.mem_cons_self ..)
    omega
   ·exact ih x hx
theorem ls_le' {r:Rn} (h:OkR r):0≤lstR r∧lstR r≤mstR r∧mstR r≤1000:=by
 by_cases h0:r.tab.length=0
 ·rw [lstR,mstR,if_pos h0,if_pos h0];exact h.gap h0
 ·obtain ⟨o1,o2,_⟩:=oneE_tab h.2 h0
  rw [lstR,mstR,if_neg h0,if_neg h0,stg,headD_at0 (by omega)]
  have m0:=List.getElem_mem (l:=r.tab) (n:=0) (by omega)
  have m1:=List.getElem_mem (l:=r.tab) (n:=r.tab.length-1) (by omega)
  have q1:=o1 _ m0
  have q2:=o1 _ m1
  have q3:=last_le' _ none (0,0) o2 _ m0
  rw [getLastD_at h0] at q3 ⊢
  omega
def covT (y:Rn) (s:Int) (x:Rn):Int:=if ovT x y≤ovF x y∨y.tab.length=0 then 0 else if lstR x=mstR x then (if lstR x=s then ovT x y-ovF x y else 0) else cnt s x.tab
theorem covN_app (y:Rn) (s:Int):∀ a b:List Rn,covN y s (a++b)=covN y s a+covN y s b
 | [],b=>by rw [List.nil_append,covN,Int.zero_add]
 | x::a,b=>by rw [List.cons_append,covN,covN,covN_app y s a b,Int.add_assoc]
theorem covN_take {y:Rn}{a:List Rn}{k:Nat} (h:k < a.length) (s:Int):covN y s (a.take (k+1))=covN y s (a.take k)+covT y s a[k]:=by
 rw [List.take_succ_eq_append_getElem h,covN_app]
 show _+(covT y s a[k]+0)=_
 rw [Int.add_zero]
theorem covT_bd {x y:Rn} (hx:OkR x) (s:Int):0≤covT y s x∧covT y s x≤1402560:=by
 have h1:=hx.rng
 have h2:=cnt_bd16 hx s
 rw [covT]
 split
 ·omega
 ·rename_i h
  have h3:ovF x y < ovT x y:=by
   rcases Int.lt_or_le (ovF x y) (ovT x y) with q|q
   ·exact q
   ·exact absurd (.inl q) h
  rw [ovF,ovT] at *
  split
  ·split<;>omega
  ·exact h2
theorem covN_bd {y:Rn} (s:Int):∀ {a:List Rn},(∀ r∈a,OkR r)→0≤covN y s a∧covN y s a≤1402560*a.length
 | [],_=>⟨Int.le_refl _,Int.le_refl _⟩
 | x::a,h=>by
  have h1:=covT_bd (y:=y) (h x (List.mem_cons_self ..)) s
  have h2:=covN_bd (y:=y) s fun r hr=>h r (List.mem_cons_of_mem x hr)
  show 0≤covT y s x+covN y s a∧covT y s x+covN y s a≤1402560*((x::a).length:Nat)
  rw [List.length_cons];omega
theorem covN_gap {y:Rn} (h:y.tab.length=0) (s:Int):∀ a:List Rn,covN y s a=0
 | []=>rfl
 | x::a=>by rw [covN,if_pos (.inr h),covN_gap h s a];rfl
theorem cov_no {a:List Rn}{y:Rn}{k:Nat} (hk:k < a.length) (h:covOk y a[k]=false):covB a y=false:=by
 rw [covB,Bool.and_eq_false_iff]
 left
 rw [List.all_eq_false]
 exact ⟨_,List.getElem_mem hk,by rw [h];decide⟩
theorem cov_ne {a:List Rn}{y:Rn}{s:Int} (hs:0≤s∧s≤1000) (h:cnt s y.tab-covN y s a≠0):covB a y=false:=by
 by_cases h0:y.tab.length=0
 ·rw [covN_gap h0,List.length_eq_zero_iff.1 h0] at h
  exact absurd rfl h
 rw [covB,Bool.and_eq_false_iff]
 right
 rw [decide_eq_false h0,Bool.false_or,List.all_eq_false]
 refine ⟨s.toNat,List.mem_range.2 (by omega),?_⟩
 rw [decide_eq_true_eq,show ((s.toNat:Nat):Int)=s by omega]
 omega
theorem cov_yes {a:List Rn}{y:Rn} (h1:∀ x∈a,covOk y x=true) (h2:∀ s,cnt s y.tab-covN y s a=0):covB a y=true:=by
 rw [covB,Bool.and_eq_true,List.all_eq_true,Bool.or_eq_true,List.all_eq_true]
 refine ⟨h1,.inr fun s _=>?_⟩
 have:=h2 (s:Int)
 rw [decide_eq_true_eq];omega
theorem cnt_mem {y n:Int}:∀ {L:List (Int×Int)},(L.map (·.1)).Nodup→(y,n)∈L→cnt y L=n
 | (z,m)::r,h,hm=>by
  obtain ⟨h1,h2⟩:=List.nodup_cons.1 h
  rw [cnt]
  rcases List.mem_cons.1 hm with e|hm
  ·cases e;rw [if_pos rfl]
  ·rw [if_neg fun e=>h1 (by dsimp only;rw [← e];exact List.mem_map_of_mem (f:=Prod.fst) hm)]
   exact cnt_mem h2 hm
theorem iv_keys (L:List (Int×Int)):(L.map iv).map (·.1)=L.map (·.1):=by rw [List.map_map];rfl
theorem cnt_zero {L:List (Int×Int)} (h:∀ p∈L,p.2=0) (s:Int):cnt s L=0:=by
 induction L with
 | nil=>rfl
 | cons p r ih =>
  rw [cnt.eq_2]
  have:=h p (List.mem_cons_self ..)
  rw [ih fun q hq=>h q (List.mem_cons_of_mem _ hq)]
  split<;>omega
theorem sumAt_new {T:List (Int×Int)} (h:(T.map (·.1)).Nodup) {j:Nat} (hj:j < T.length):sumAt T[j].1 (T.take j)=0:=by
 refine sumAt_no fun hm=>?_
 obtain ⟨x,hx,e⟩:=List.mem_map.1 hm
 obtain ⟨i,hi,e2⟩:=List.mem_iff_getElem.1 hx
 rw [List.length_take] at hi
 rw [List.getElem_take] at e2
 have h1:i < (T.map (·.1)).length:=by rw [List.length_map];omega
 have h2:j < (T.map (·.1)).length:=by rw [List.length_map];omega
 have h3:(T.map (·.1))[i]=(T.map (·.1))[j]:=by rw [List.getElem_map,List.getElem_map,e2];exact e
 have:=(List.getElem_inj h).1 h3
 omega
theorem fin_no {a b:List Rn} (ha:runsErr a=0) (hb:runsErr b=0) (a0:a.length≠0) (b0:b.length≠0) {n:Nat} (hn:n < b.length) (h:covB a b[n]=false):finE a b=(false,0):=by
 rw [finE,if_neg (fun e=>e ha),if_neg (fun e=>e hb),if_neg (by rintro (e|e);exact a0 e;exact b0 e)]
 split
 ·rfl
 ·have:b.all (covB a)=false:=List.all_eq_false.2 ⟨_,List.getElem_mem hn,by rw [h];decide⟩
  rw [this]
theorem fin_yes {a b:List Rn} (ha:runsErr a=0) (hb:runsErr b=0) (a0:a.length≠0) (b0:b.length≠0) (h1:(headD' a).from_=(headD' b).from_) (h2:(lastD a).to_=(lastD b).to_) (h:∀ y∈b,covB a y=true):finE a b=(true,0):=by
 rw [finE,if_neg (fun e=>e ha),if_neg (fun e=>e hb),if_neg (by rintro (e|e);exact a0 e;exact b0 e),if_neg (by rintro (e|e);exact e h1;exact e h2)]
 rw [List.all_eq_true.2 h]
theorem fin_end {a b:List Rn} (ha:runsErr a=0) (hb:runsErr b=0) (a0:a.length≠0) (b0:b.length≠0) (h:(headD' a).from_≠(headD' b).from_∨(lastD a).to_≠(lastD b).to_):finE a b=(false,0):=by
 rw [finE,if_neg (fun e=>e ha),if_neg (fun e=>e hb),if_neg (by rintro (e|e);exact a0 e;exact b0 e),if_pos h]
theorem fin_nil {a b:List Rn} (ha:runsErr a=0) (hb:runsErr b=0) (h:a.length=0∨b.length=0):finE a b=(decide (a.length=b.length),0):=by
 rw [finE,if_neg (fun e=>e ha),if_neg (fun e=>e hb),if_pos h]
end Go.Proofs.YtcdgibkbbcekhaaDoor
