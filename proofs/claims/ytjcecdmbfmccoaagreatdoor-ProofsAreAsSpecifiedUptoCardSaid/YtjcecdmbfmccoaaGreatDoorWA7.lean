/-
  Contracts: the runs that a history is.
-/
import Derived.Test.YtjcecdmbfmccoaaGreatDoorWA6
import Derived.ProofKit
set_option linter.unusedVariables false
set_option linter.unusedSimpArgs false
set_option linter.unusedSectionVars false
namespace Go.Proofs.YtjcecdmbfmccoaaGreatDoor
open Go.RowKit Go.Sl Go.Num
def wK (r:Rn) (s:Int):Prop:=r.tab=[(s,r.to_-r.from_)]/\r.lo=0/\r.hi=0
theorem mL (r:Rn):(rnV r).length=5:=rfl
theorem Dk (p r:Rn) (s:Int) (w:World) (hp:wK p s) (hr:wK r s) (hA:mJ w p) (hB:mJ w r) (h1:0<=p.from_/\p.from_<=1402560) (h2:0<=r.to_/\r.to_<=1402560) :
  Calls Tryz.prog 109 #[rnA p,rnA r] w fun e w'=>∃ a' c',e=.returned (.tuple #[.agg #[.int .i64 p.from_,.int .i64 r.to_,.slice a' 1 c',.int .i64 0,.int .i64 0],.bool true])/\aE w' a' 2 ([(s,r.to_-p.from_)].map hoV)/\(∀ p,a'=some p->w.heap.size<=p.block)/\Below w.heap.size w w':=by
 have hra:=fun w'=>rL p w'
 have hrb:=fun w'=>rL r w'
 have hh:=fun w'=>Ah p.from_ r.to_ s w' h1 h2
 obtain ⟨f,t,tab,adr,cap,lo,hi⟩:=p;obtain ⟨f2,t2,tab2,adr2,cap2,lo2,hi2⟩:=r;dsimp only [wK] at hp hr h1 h2 hh;obtain ⟨rfl,rfl,rfl⟩:=hp;obtain ⟨rfl,rfl,rfl⟩:=hr;obtain ⟨b1,o1,rfl,hr1⟩:=aE.all hA (Nat.succ_pos _);obtain ⟨b2,o2,rfl,hr2⟩:=aE.all hB (Nat.succ_pos _);have hr1:=hr1 0 (Nat.succ_pos _);have hr2:=hr2 0 (Nat.succ_pos _);dsimp only [rnA,hoV,List.getElem_cons_zero,List.length_cons,List.length_nil,List.map_cons,List.map_nil] at *;simp only [Nat.zero_add,eq_self,decide_true] at hra hrb;refine aB [(0,.agg #[.int .i64 f,.int .i64 t,.slice (some ⟨b1,o1,none⟩) 1 cap,.int .i64 0,.int .i64 0]),(1,.agg #[.int .i64 f2,.int .i64 t2,.slice (some ⟨b2,o2,none⟩) 1 cap2,.int .i64 0,.int .i64 0])] Tryz.func109 Tryz.ntmps109 ?_;all_goals (refine goR ?_;and_intros<;>(try exact trivial)<;>intros)
 repeat' ((first|(apply G.cV (g:=143) (vs:=[.agg #[.int .i64 f,.int .i64 t,.slice (some ⟨b1,o1,none⟩) 1 cap,.int .i64 0,.int .i64 0]]);rfl;rfl;exact fun w' _=>hra w')|(apply G.cV (g:=143) (vs:=[.agg #[.int .i64 f2,.int .i64 t2,.slice (some ⟨b2,o2,none⟩) 1 cap2,.int .i64 0,.int .i64 0]]);rfl;rfl;exact fun w' _=>hrb w')|(apply J.Py (.q 0 <| .q 1 <| .q 2 <| .q 3 <| .q 4 <| .q 5 <| .q 6 <| .q 7 <| .q 8 <| .e 9 <| .r 10 <| .q 11 <| .nil);exact Tryz.Pr;decide +kernel)|(apply G.cN (g:=108) (fun a' c'=>.agg #[.int .i64 f,.int .i64 t2,.slice a' 1 c',.int .i64 0,.int .i64 0]) ([(s,t2-f)].map hoV);rfl;rfl;exact fun w' _=>hh w';intro a1 c1 hp1 hq1)|(apply J.Pz;exact Tryz.Pr;decide +kernel)|(apply J.P3;exact Tryz.Pr;decide +kernel))<;>(refine goR ?_;and_intros<;>(try exact trivial)<;>intros))
 refine sK Tryz.func109 Tryz.results109 ?_;exact fun w' hw'=>⟨a1,c1,rfl,hw'.sl (N:=w.heap.size) mm,hq1,hw'.below⟩
theorem Dl (p r:Rn) (s u:Int) (w:World) (hp:wK p s) (hr:wK r u) (hA:mJ w p) (hB:mJ w r) (hsu:s≠u) :
  CR 109 #[rnA p,rnA r] w (.tuple #[.agg #[.int .i64 0,.int .i64 0,.slice none 0 0,.int .i64 0,.int .i64 0],.bool false]):=by
 have hra:=fun w'=>rL p w'
 have hrb:=fun w'=>rL r w'
 have hga:=fun w'=>wJ p w'
 obtain ⟨f,t,tab,adr,cap,lo,hi⟩:=p;obtain ⟨f2,t2,tab2,adr2,cap2,lo2,hi2⟩:=r;dsimp only [wK] at hp hr;obtain ⟨rfl,rfl,rfl⟩:=hp;obtain ⟨rfl,rfl,rfl⟩:=hr;obtain ⟨b1,o1,rfl,hr1⟩:=aE.all hA (Nat.succ_pos _);obtain ⟨b2,o2,rfl,hr2⟩:=aE.all hB (Nat.succ_pos _);have hr1:=hr1 0 (Nat.succ_pos _);have hr2:=hr2 0 (Nat.succ_pos _);dsimp only [rnA,hoV,List.getElem_cons_zero,List.length_cons,List.length_nil,List.map_cons,List.map_nil] at *;simp only [Nat.zero_add,eq_self,decide_true,Nat.one_ne_zero,decide_false] at hra hrb hga;refine aB [(0,.agg #[.int .i64 f,.int .i64 t,.slice (some ⟨b1,o1,none⟩) 1 cap,.int .i64 0,.int .i64 0]),(1,.agg #[.int .i64 f2,.int .i64 t2,.slice (some ⟨b2,o2,none⟩) 1 cap2,.int .i64 0,.int .i64 0])] Tryz.func109 Tryz.ntmps109 ?_;all_goals (refine goR ?_;and_intros<;>(try exact trivial)<;>intros)
 repeat' ((first|(apply G.cV (g:=143) (vs:=[.agg #[.int .i64 f,.int .i64 t,.slice (some ⟨b1,o1,none⟩) 1 cap,.int .i64 0,.int .i64 0]]);rfl;rfl;exact fun w' _=>hra w')|(apply G.cV (g:=143) (vs:=[.agg #[.int .i64 f2,.int .i64 t2,.slice (some ⟨b2,o2,none⟩) 1 cap2,.int .i64 0,.int .i64 0]]);rfl;rfl;exact fun w' _=>hrb w')|(apply G.cV (g:=56) (vs:=[.agg #[.int .i64 f,.int .i64 t,.slice (some ⟨b1,o1,none⟩) 1 cap,.int .i64 0,.int .i64 0]]);rfl;rfl;exact fun w' _=>hga w')|(apply J.Pz;exact Tryz.Pr;decide +kernel)|(apply J.P3;exact Tryz.Pr;decide +kernel))<;>(refine goR ?_;and_intros<;>(try exact trivial)<;>intros))
 all_goals exact hU Tryz.func109 Tryz.results109 rfl
def J4 (o:List (Int×Int×Int)) (k s:Int):List (Int×Int×Int):=match o.getLast? with
 | none=>[(k,k+1,s)]
 | some p=>if p.2.2=s then o.dropLast++[(p.1,k+1,s)] else o++[(k,k+1,s)]
def ofL:Int->List Int->List (Int×Int×Int)->List (Int×Int×Int)
 | _,[],o=>o
 | k,s::r,o=>ofL (k+1) r (J4 o k s)
def stg (r:Rn):Int:=(r.tab.headD (0,0)).1
def key (r:Rn):Int×Int×Int:=(r.from_,r.to_,stg r)
def N4 (o:List Rn) (l:List (Int×Int×Int)):Prop:=o.map key=l/\∀ r∈o,wK r (stg r)
def OB (N:Nat) (o:List Rn):Prop:=∀ r∈o,∀ p,r.adr=some p->N<=p.block
theorem FN {w0 w:World}{M:List Row}{N:Nat}{o:List Rn}{r:Rn} (hw:Sat w0 M w) (hr:r∈o) (hm:iI N Rn.adr 2 (fun r=>r.tab.map hoV) o∈M:=by exact mm):mJ w r:=hw.fam hm r hr
theorem MI {w0 w:World}{M:List Row}{N:Nat}{r:Rn} (hw:Sat w0 M w) (hm:aL N r.adr 2 (r.tab.map hoV)∈M:=by exact mm):mJ w r:=hw.sl hm
theorem Dm (f:Int) (a:Option Addr) (hs:List Int) (c:Nat) (w:World) (hA:aE w a 1 (hs.map isV)) (hl:hs.length<=1000) (hr:dK f hs=true) :
  Calls Tryz.prog 59 #[.agg #[.int .i64 f,.slice a hs.length c]] w fun e w'=>∃ (L:List Rn) (a':Option Addr) (c':Nat),N4 L (ofL f hs [])/\e=.returned (.tuple #[.slice a' L.length c',.int .i64 0])/\L.length<=c'/\L.length<=hs.length/\aW w' a' L/\(∀ p,a'=some p->w.heap.size<=p.block)/\OB w.heap.size L/\Below w.heap.size w w':=by
 have hri:=fun w' (hb:Below w.heap.size w w')=>oH f a hs c w' (hA.below hb) om
 rw [hr] at hri;obtain ⟨k3,k4⟩:=nF hr;generalize hT:ofL f hs []=T;refine aB [(0,.agg #[.int .i64 f,.slice a hs.length c])] Tryz.func59 Tryz.ntmps59 ?_;all_goals (refine go ?_;and_intros<;>(try exact trivial)<;>intros)
 repeat' ((first|(refine G.PG hri ?_))<;>(refine go ?_;and_intros<;>(try exact trivial)<;>intros))
 clear hri;apply J.nilOwn (E:=67) (size:=5);apply J.Re Rn.adr 2 (fun r=>r.tab.map hoV)
 refine J.loop (c:=_) ((0,.slice none 0 0,0,[]):Nat×Value×Nat×List Rn) (fun s=>hs.length-s.1) (fun s=>[(1,.pointer (some ⟨_,0,none⟩)),(4,s.2.1),(14,.slice a hs.length c),(15,.int .i64 hs.length),(16,.int .i64 s.1)]) (fun s=>[iI w.heap.size Rn.adr 2 (fun r=>r.tab.map hoV) s.2.2.2,.own 0 s.2.1 67 5 s.2.2.1 (flat rnV s.2.2.2),.blk _ 30 [.int .i64 f,.slice a hs.length c] 2]) (fun s=>s.1<=hs.length/\s.2.2.2.length=s.2.2.1/\s.2.2.1<=s.1/\ofL (f+s.1) (hs.drop s.1) (s.2.2.2.map key)=T/\(∀ r∈s.2.2.2,wK r (stg r))/\(∀ r∈s.2.2.2,0<=r.from_/\r.from_<=1402560)/\OB w.heap.size s.2.2.2) ?_ sbT sbL ?_
 ·exact ⟨Nat.zero_le _,rfl,Nat.le_refl _,by dsimp only;rw [List.drop_zero,List.map_nil,Int.natCast_zero,Int.add_zero];exact hT,fun r h=>(by cases h),fun r h=>(by cases h),fun r h=>(by cases h)⟩
 clear hT;intro ⟨k,u,j,o⟩ ⟨h3,h4,h5,h6,h7,h8,h9⟩ ih;dsimp only at h3 h4 h5 h6 h7 h8 h9 ⊢;by_cases hk:k < hs.length
 ·obtain ⟨ba,oa,rfl,hra⟩:=aE.all hA om
  have hrk:=hra k hk;rw [List.drop_eq_getElem_cons hk,ofL] at h6;generalize hs[k]=s at *;dsimp only [isV] at *;have hh:=fun w'=>Ah (f+k) (f+k+1) s w' om om
  rcases jY o with rfl|⟨o',p,rfl⟩
  ·obtain rfl:j=0:=by simpa using h4.symm
   all_goals (refine go ?_;and_intros<;>(try exact trivial)<;>intros)
   repeat' ((first|(apply G.cN (g:=108) (fun a' c'=>.agg #[.int .i64 (f+k),.int .i64 (f+k+1),.slice a' 1 c',.int .i64 0,.int .i64 0]) ([(s,f+k+1-(f+k))].map hoV);rfl;rfl;exact fun w' _=>hh w';intro a1 c1 hp1 hq1)|(apply G.Pu;rfl;rfl;rfl;rfl;rfl;rfl;rfl;rfl;intro Bs)|(apply G.ap;rfl;rfl;rfl;(repeat (first|exact RAt.head|apply RAt.tail));exact cB.blk (by exact mm) rfl rfl;exact jV rnV [] ⟨f+k,f+k+1,[(s,f+k+1-(f+k))],a1,c1,0,0⟩;omega;omega;intro v2)|(refine G.ownOpen RAt.au om ?_;intro g cap hgc hcm hv;subst hv))<;>(refine go ?_;and_intros<;>(try exact trivial)<;>intros))
   refine J.blkCut (l':=[⟨f+k,f+k+1,[(s,f+k+1-(f+k))],a1,c1,0,0⟩]) 1 mL RAt.au hgc hcm (Nat.le_refl _) rfl ?_;refine J.famAdd (r:=(⟨f+k,f+k+1,[(s,f+k+1-(f+k))],a1,c1,0,0⟩:Rn)) (o:=[]) mm mm ?_;exact J.fin (ih (k+1,_,1,[⟨f+k,f+k+1,[(s,f+k+1-(f+k))],a1,c1,0,0⟩]) ⟨hk,rfl,by dsimp only;omega,by dsimp only;rw [<- h6,show f+((k+1:Nat):Int)=f+k+1 by omega];rfl,fun r hr=>by rw [List.mem_singleton.1 hr];exact ⟨rfl,rfl,rfl⟩,fun r hr=>by rw [List.mem_singleton.1 hr];dsimp only;omega,fun r hr=>by rw [List.mem_singleton.1 hr];exact hq1⟩ (by dsimp only;omega))
  ·have hj:j=o'.length+1:=by rw [<- h4];simp
   have hpm:p∈o'++[p]:=by simp
   have hp7:=h7 p hpm;have hp8:=h8 p hpm;rw [List.map_append,List.map_cons,List.map_nil,J4,List.getLast?_concat] at h6;dsimp only at h6;subst hj;have hrw:∀ a1 c1,wK (⟨f+k,f+k+1,[(s,f+k+1-(f+k))],a1,c1,0,0⟩:Rn) s:=fun _ _=>⟨rfl,rfl,rfl⟩
   have hL1:∀ a1 c1,((o'++[p])++[(⟨f+k,f+k+1,[(s,f+k+1-(f+k))],a1,c1,0,0⟩:Rn)])[o'.length]?=some p:=fun _ _=>by simp
   have hL2:∀ a1 c1,((o'++[p])++[(⟨f+k,f+k+1,[(s,f+k+1-(f+k))],a1,c1,0,0⟩:Rn)])[o'.length+1]?=some ⟨f+k,f+k+1,[(s,f+k+1-(f+k))],a1,c1,0,0⟩:=fun _ _=>by simp
   by_cases hs:stg p=s
   ·rw [if_pos (show (key p).2.2=s from hs),List.dropLast_concat] at h6
    dsimp only [key] at h6;rw [hs] at hp7;have hbe:=fun a1 c1 w' hA' hB'=>Dk p ⟨f+k,f+k+1,[(s,f+k+1-(f+k))],a1,c1,0,0⟩ s w' hp7 (hrw a1 c1) hA' hB' hp8 (by dsimp only;omega)
    dsimp only at hbe;all_goals (refine goR ?_;and_intros<;>(try exact trivial)<;>intros)
    repeat' ((first|(apply G.cN (g:=108) (fun a' c'=>.agg #[.int .i64 (f+k),.int .i64 (f+k+1),.slice a' 1 c',.int .i64 0,.int .i64 0]) ([(s,f+k+1-(f+k))].map hoV);rfl;rfl;exact fun w' _=>hh w';intro a1 c1 hp1 hq1)|(apply G.Pu;rfl;rfl;rfl;rfl;rfl;rfl;rfl;rfl;intro Bs)|(apply G.ap;rfl;rfl;rfl;(repeat (first|exact RAt.head|apply RAt.tail));exact cB.blk (by exact mm) rfl rfl;exact jV rnV (o'++[p]) ⟨f+k,f+k+1,[(s,f+k+1-(f+k))],a1,c1,0,0⟩;omega;omega;intro v2)|(refine G.ownOpen RAt.au om ?_;intro g cap hgc hcm hv;subst hv)|(apply J.Py (.q 0 <| .q 1 <| .q 2 <| .q 3 <| .q 4 <| .q 5 <| .q 6 <| .q 7 <| .q 8 <| .q 9 <| .f 10 (.q 11 <| .q 12 <| .q 13 <| .e 14 <| .r 15 <| .q 16 <| .nil) 14 (.e 10 <| .q 11 <| .q 12 <| .q 13 <| .r 15 <| .q 16 <| .nil));exact Tryz.Pr;decide +kernel)|(apply G.ix (i:=o'.length);rfl;rfl;omega;omega;rfl)|(apply G.ix (i:=o'.length+1);rfl;rfl;omega;omega;rfl)|(apply G.ld;rfl;exact LdV.flat mL mm (hL1 a1 c1) rfl;rfl)|(apply G.ld;rfl;exact LdV.flat mL mm (hL2 a1 c1) rfl;rfl)|(apply G.cN (g:=109) (fun a' c'=>.tuple #[.agg #[.int .i64 p.from_,.int .i64 (f+k+1),.slice a' 1 c',.int .i64 0,.int .i64 0],.bool true]) ([(s,f+k+1-p.from_)].map hoV);rfl;rfl;exact fun w' hw'=>hbe a1 c1 w' (FN (N:=w.heap.size) hw' hpm) (MI (N:=w.heap.size) hw');intro a2 c2 hp2 hq2)|(apply G.Qi)|(apply J.Pz;exact Tryz.Pr;decide +kernel)|(apply J.P3;exact Tryz.Pr;decide +kernel))<;>(refine goR ?_;and_intros<;>(try exact trivial)<;>intros))
    all_goals
     refine J.blkCut (l':=o') o'.length mL RAt.au om hcm (by simp) (by simp) ?_
     all_goals (refine goR ?_;and_intros<;>(try exact trivial)<;>intros)
     repeat' ((first|(apply J.Py (.q 0 <| .q 1 <| .q 2 <| .q 3 <| .q 4 <| .e 5 <| .r 6 <| .q 7 <| .nil);exact Tryz.Pr;decide +kernel)|(apply G.R4 (len:=o'.length);rfl;rfl;omega;omega;omega;rfl)|(apply G.Pu;rfl;rfl;rfl;rfl;rfl;rfl;rfl;rfl;intro Bs)|(apply G.ap;rfl;rfl;rfl;(repeat (first|exact RAt.head|apply RAt.tail));exact cB.blk (by exact mm) rfl rfl;exact jV rnV o' ⟨p.from_,f+k+1,[(s,f+k+1-p.from_)],a2,c2,0,0⟩;omega;omega;intro v3)|(apply J.Pz;exact Tryz.Pr;decide +kernel)|(apply J.P3;exact Tryz.Pr;decide +kernel))<;>(refine goR ?_;and_intros<;>(try exact trivial)<;>intros))
     refine J.famSub (o:=o'++[p]) (o':=o') mm (fun r hr=>List.mem_append_left _ hr) ?_
     refine J.famAdd (r:=(⟨p.from_,f+k+1,[(s,f+k+1-p.from_)],a2,c2,0,0⟩:Rn)) (o:=o') mm mm ?_;exact J.fin (ih (k+1,_,o'.length+1,o'++[⟨p.from_,f+k+1,[(s,f+k+1-p.from_)],a2,c2,0,0⟩]) ⟨hk,by simp,by dsimp only;omega,by dsimp only;rw [<- h6,show f+((k+1:Nat):Int)=f+k+1 by omega,List.map_append];rfl,fun r hr=>(List.mem_append.1 hr).elim (fun h=>h7 r (List.mem_append_left _ h)) (fun h=>by rw [List.mem_singleton.1 h];exact ⟨rfl,rfl,rfl⟩),fun r hr=>(List.mem_append.1 hr).elim (fun h=>h8 r (List.mem_append_left _ h)) (fun h=>by rw [List.mem_singleton.1 h];exact hp8),fun r hr=>(List.mem_append.1 hr).elim (fun h=>h9 r (List.mem_append_left _ h)) (fun h=>by rw [List.mem_singleton.1 h];exact hq2)⟩ (by dsimp only;omega))
   ·rw [if_neg (show ¬ (key p).2.2=s from hs)] at h6
    have hbn:=fun a1 c1 w' hA' hB'=>Dl p ⟨f+k,f+k+1,[(s,f+k+1-(f+k))],a1,c1,0,0⟩ (stg p) s w' hp7 (hrw a1 c1) hA' hB' hs
    all_goals (refine goR ?_;and_intros<;>(try exact trivial)<;>intros)
    repeat' ((first|(apply G.cN (g:=108) (fun a' c'=>.agg #[.int .i64 (f+k),.int .i64 (f+k+1),.slice a' 1 c',.int .i64 0,.int .i64 0]) ([(s,f+k+1-(f+k))].map hoV);rfl;rfl;exact fun w' _=>hh w';intro a1 c1 hp1 hq1)|(apply G.Pu;rfl;rfl;rfl;rfl;rfl;rfl;rfl;rfl;intro Bs)|(apply G.ap;rfl;rfl;rfl;(repeat (first|exact RAt.head|apply RAt.tail));exact cB.blk (by exact mm) rfl rfl;exact jV rnV (o'++[p]) ⟨f+k,f+k+1,[(s,f+k+1-(f+k))],a1,c1,0,0⟩;omega;omega;intro v2)|(refine G.ownOpen RAt.au om ?_;intro g cap hgc hcm hv;subst hv)|(apply J.Py (.q 0 <| .q 1 <| .q 2 <| .q 3 <| .q 4 <| .q 5 <| .q 6 <| .q 7 <| .q 8 <| .q 9 <| .q 10 <| .q 11 <| .q 12 <| .q 13 <| .e 14 <| .r 15 <| .q 16 <| .nil);exact Tryz.Pr;decide +kernel)|(apply G.ix (i:=o'.length);rfl;rfl;omega;omega;rfl)|(apply G.ix (i:=o'.length+1);rfl;rfl;omega;omega;rfl)|(apply G.ld;rfl;exact LdV.flat mL mm (hL1 a1 c1) rfl;rfl)|(apply G.ld;rfl;exact LdV.flat mL mm (hL2 a1 c1) rfl;rfl)|(apply G.cV (g:=109);rfl;rfl;exact fun w' hw'=>hbn a1 c1 w' (FN (N:=w.heap.size) hw' hpm) (MI (N:=w.heap.size) hw'))|(apply J.Pz;exact Tryz.Pr;decide +kernel)|(apply J.P3;exact Tryz.Pr;decide +kernel))<;>(refine goR ?_;and_intros<;>(try exact trivial)<;>intros))
    refine J.blkCut (l':=o'++[p]++[⟨f+k,f+k+1,[(s,f+k+1-(f+k))],a1,c1,0,0⟩]) (o'.length+2) mL RAt.au om hcm (by simp) (by rw [List.take_of_length_le (by simp)]) ?_
    refine J.famAdd (r:=(⟨f+k,f+k+1,[(s,f+k+1-(f+k))],a1,c1,0,0⟩:Rn)) (o:=o'++[p]) mm mm ?_;exact J.fin (ih (k+1,_,o'.length+2,o'++[p]++[⟨f+k,f+k+1,[(s,f+k+1-(f+k))],a1,c1,0,0⟩]) ⟨hk,by simp,by dsimp only;omega,by dsimp only;rw [<- h6,show f+((k+1:Nat):Int)=f+k+1 by omega,List.map_append,List.map_append];rfl,fun r hr=>(List.mem_append.1 hr).elim (fun h=>h7 r h) (fun h=>by rw [List.mem_singleton.1 h];exact ⟨rfl,rfl,rfl⟩),fun r hr=>(List.mem_append.1 hr).elim (fun h=>h8 r h) (fun h=>by rw [List.mem_singleton.1 h];dsimp only;omega),fun r hr=>(List.mem_append.1 hr).elim (fun h=>h9 r h) (fun h=>by rw [List.mem_singleton.1 h];exact hq1)⟩ (by dsimp only;omega))
 ·obtain rfl:k=hs.length:=by omega
  rw [List.drop_length,ofL] at h6;subst h4;apply J.ownForm (i:=1) rfl;intro a2 c2 hu;subst hu;clear ih;all_goals (refine go ?_;and_intros<;>(try exact trivial)<;>intros)
  refine sK Tryz.func59 Tryz.results59 ?_;intro w' hw';have ho:=hw'.hold (Row.own 0 (.slice a2 o.length c2) 67 5 o.length (flat rnV o)) (by exact mm)
  refine ⟨o,a2,c2,⟨h6,h7⟩,rfl,?_,h5,⟨aE.P8 mL ho rfl,fun r hr=>FN (N:=w.heap.size) hw' hr⟩,?_,h9,hw'.below⟩
  ·obtain ⟨_,⟨e1,e2⟩|⟨g,cap,cur,e1,_,_,e2,_⟩⟩:=ho
   ·omega
   ·cases e1;exact e2
  ·rintro p rfl
   exact ((hw'.old (Row.own 0 (.slice (some p) o.length c2) 67 5 o.length (flat rnV o)) (by exact mm)).2 p.block rfl).1
theorem Ex (f:Int) (a:Option Addr) (hs:List Int) (c:Nat) (w:World) (hA:aE w a 1 (hs.map isV)) (hl:hs.length<=1000000000) (hr:dK f hs=false) :
  CR 59 #[.agg #[.int .i64 f,.slice a hs.length c]] w (.tuple #[.slice none 0 0,.int .i64 1]):=by
 have hri:=fun w' (hb:Below w.heap.size w w')=>oH f a hs c w' (hA.below hb) hl
 rw [hr] at hri;refine aB [(0,.agg #[.int .i64 f,.slice a hs.length c])] Tryz.func59 Tryz.ntmps59 ?_;all_goals (refine go ?_;and_intros<;>(try exact trivial)<;>intros)
 repeat' ((first|(refine G.PG hri ?_))<;>(refine go ?_;and_intros<;>(try exact trivial)<;>intros))
 all_goals exact hU Tryz.func59 Tryz.results59 rfl
theorem Cf (f:Int) (a b:Option Addr) (hs:List Int) (l:List Spn) (c d:Nat) (w:World) (hA:aE w a 1 (hs.map isV)) (hB:aN w b l) (hf:∀ s∈l,fewS s) (hl:hs.length<=1000) (hcap:hs.length<=c) :
  CR 21 #[.agg #[.int .i64 f,.slice a hs.length c],.slice b l.length d] w (.tuple #[qA (kI f hs l).1,.int .i64 (kI f hs l).2]):=by
 refine Dj f a b hs l c d w hA hB hf hl hcap fun w' hb=>?_
 cases hr:dK f hs with
 | false=>exact (Ex f a hs c w' (hA.below hb) om hr).mono fun e w'' h=>⟨.slice none 0 0,h.1,h.2⟩
 | true=>exact (Dm f a hs c w' (hA.below hb) hl hr).mono fun e w'' ⟨L,a',c',_,h2,_,_,_,_,_,h8⟩=>⟨.slice a' L.length c',h2,h8⟩
theorem Ak {r:Rn} (h:eB r=0) (h0:r.tab.length=0):0<=r.lo/\r.lo<=r.hi/\r.hi<=1000:=by
 rw [eB,if_pos h0] at h
 split at h
 ·cases h
 ·omega
theorem fR {r:Rn} (h:eB r=0) (h0:r.tab.length≠0):(∀ x∈r.tab,(0<=x.1/\x.1<=1000)/\1<=x.2/\x.2<=1402560)/\cJ none r.tab=true/\iM r.tab=r.to_-r.from_/\r.lo=0/\r.hi=0:=by
 rw [eB,if_neg h0] at h
 split at h
 ·cases h
 ·rename_i h1
  split at h
  ·rename_i h2
   refine ⟨fun x hx=>?_,h2⟩
   have h3:=fun e=>h1 (List.any_eq_true.2 ⟨x,hx,e⟩)
   simpa [nG] using h3
  ·cases h
theorem Ii {p:Option Rn}{l:List Rn} (h:gP p l=0):∀ r∈l,eB r=0:=by
 induction l generalizing p with
 | nil=>simp
 | cons s r ih =>
  obtain ⟨B,hs⟩:∃ B:Bool,(if inT s=false then 3 else if B=true then 1 else if eB s≠0 then eB s else gP (some s) r)=(0:Int):=by
   cases p with
   | none=>exact ⟨false,h⟩
   | some q=>exact ⟨decide (s.from_≠q.to_),h⟩
  by_cases c1:inT s=false
  ·rw [if_pos c1] at hs;cases hs
  rw [if_neg c1] at hs;cases B
  ·rw [if_neg dc] at hs
   by_cases c2:eB s≠0
   ·rw [if_pos c2] at hs;exact absurd hs c2
   rw [if_neg c2] at hs;intro t ht;rcases List.mem_cons.1 ht with rfl|ht
   ·exact Decidable.not_not.1 c2
   ·exact ih hs t ht
  ·rw [if_pos rfl] at hs;cases hs
theorem tG {l:List Rn} (h:aX l=0):gP none l=0:=by
 rw [aX] at h
 split at h
 ·cases h
 ·split at h
  ·rename_i h1;exact absurd h h1
  ·rename_i h1;exact Decidable.not_not.1 h1
theorem xW {l:List Rn} (h:aX l=0):∀ r∈l,eB r=0:=Ii (tG h)
def J5 (r:Rn) (s:Spn):Q3×Int :=
 if aX [r]≠0 then (aY,aX [r]) else if ¬ aQ s then (aY,1) else if r.from_ < s.from_∨s.to_ < r.to_ then (aY,3)
 else if r.tab.length=0 then (if bC s r.lo=bC s r.hi then (rQ (((r.to_-r.from_:Int):Rat)*bC s r.lo),0) else (aY,29)) else (rQ (eX (bC s) r.tab),0)
def ovl (r:Rn) (s:Spn):Int:=min s.to_ r.to_-max s.from_ r.from_
def Dn (r:Rn):Int->Int->List Spn->List (Int×Int)
 | _,rest,[]=>if 0 < rest then [(-1,rest)] else []
 | k,rest,s::t=>if ovl r s<=0 then Dn r (k+1) rest t else (k,ovl r s)::Dn r (k+1) (rest-ovl r s) t
def jK (l:List Spn) (r:Rn):List (Int×Int):=Dn r 0 (r.to_-r.from_) l
def okE (l:List Spn) (r:Rn) (e:Int×Int):Prop:=match r.tab with
 | []=>ofR l e.1 r.lo=ofR l e.1 r.hi
 | h::_=>∀ x∈r.tab,ofR l e.1 x.1-ofR l ((jK l r).headD (0,0)).1 x.1=ofR l e.1 h.1-ofR l ((jK l r).headD (0,0)).1 h.1
def takeB (l:List Spn) (r:Rn):Prop:=∀ e∈jK l r,okE l r e
def Hc (l:List Spn) (r:Rn):Rat:=match r.tab with
 | []=>eX (fun k=>ofR l k r.lo) (jK l r)
 | h::_=>eX (ofR l ((jK l r).headD (0,0)).1) r.tab+eX (fun k=>ofR l k h.1-ofR l ((jK l r).headD (0,0)).1 h.1) (jK l r)
theorem Do {r:Rn}{l0:List Spn}:∀ (l:List Spn) (k q:Int),0<=k->k+l.length<=l0.length->q<=1402560->(∀ s∈l,0<=s.from_/\s.to_<=1402560)->∀ e∈Dn r k q l,e.1 < l0.length/\-1<=e.1/\0 < e.2/\e.2<=1402560
 | [],k,q,h0,h,hq,_,e,he=>by
  rw [Dn] at he;split at he
  ·rw [List.mem_singleton.1 he];refine ⟨?_,Int.le_refl _,by assumption,hq⟩;dsimp only;omega
  ·cases he
 | s::t,k,q,h0,h,hq,hs,e,he=>by
  rw [Dn] at he;have h1:=hs s (List.mem_cons_self ..);simp only [List.length_cons] at h
  split at he
  ·exact Do t (k+1) q om om hq (fun x hx=>hs x (mC _ hx)) e he
  ·rename_i h2
   unfold ovl at *;rcases List.mem_cons.1 he with rfl|he
   ·refine ⟨?_,?_,?_,?_⟩<;>dsimp only<;>omega
   ·exact Do t (k+1) _ om om om (fun x hx=>hs x (mC _ hx)) e he
instance (l:List Spn) (r:Rn) (e:Int×Int):Decidable (okE l r e):=by unfold okE;split<;>exact inferInstance
instance (l:List Spn) (r:Rn):Decidable (takeB l r):=by unfold takeB;exact inferInstance
def OC (rs:List Rn) (s:Spn):Bool:=match rs[0]?,rs[rs.length-1]? with
 | some a,some b=>decide (s.from_ < a.from_) || decide (b.to_ < s.to_)
 | _,_=>true
def Hd (l:List Spn):List Rn->Rat
 | []=>0
 | r::t=>Hc l r+Hd l t
def exE (rs:List Rn) (l:List Spn):Q3×Int :=
 if aX rs≠0 then (aY,aX rs) else if aZ l≠0 then (aY,aZ l) else if l.any (OC rs)=true then (aY,19) else if ∀ r∈rs,takeB l r then (rQ (Hd l rs),0) else (aY,29)
def pB (t:List (Int×Int)):List Int:=t.flatMap fun x=>List.replicate x.2.toNat x.1
def eU (r:Rn):List Int:=if r.tab.length=0 then List.replicate (r.to_-r.from_).toNat r.lo else pB r.tab
def oI:List Rn->List Int
 | []=>[]
 | r::t=>eU r++oI t
def Al (l:List Rn):Int:=match l with
 | []=>0
 | r::_=>r.from_
theorem rM (x:Int×Int) (t:List (Int×Int)):pB (x::t)=List.replicate x.2.toNat x.1++pB t:=List.flatMap_cons
def N5 (x:Rn) (l:List Spn):Prop:=∃ (k:Nat) (h0:0 < x.tab.length) (hk:k < x.tab.length),0 < k/\∃ j:Nat,0 < j/\x.from_+j < x.to_/\bH l x.from_ x.tab[0].1+bH l (x.from_+j) x.tab[k].1≠bH l x.from_ x.tab[k].1+bH l (x.from_+j) x.tab[0].1
def J6 (l:List Spn) (r:Rn):Prop:=(r.tab.length=0/\J2 r l=true)∨(r.tab.length≠0/\N5 r l)
def pl:Int->List Spn->Int->Int
 | _,[],_=>-1
 | k,s::l,t=>if inS t s=true then k else pl (k+1) l t
def tS (g:Int->Rat):Int->Nat->Rat
 | _,0=>0
 | f,n+1=>g f+tS g (f+1) n
theorem Ey {g h:Int->Rat}:∀ (n:Nat) (f:Int),(∀ t,f<=t->t < f+n->g t=h t)->tS g f n=tS h f n
 | 0,_,_=>rfl
 | n+1,f,H=>by rw [tS,tS,H f om om,Ey n (f+1) fun t h1 h2=>H t om om]
theorem J7 (g h:Int->Rat):∀ (n:Nat) (f:Int),tS (fun t=>g t+h t) f n=tS g f n+tS h f n
 | 0,_=>by simp [tS,Rat.add_zero]
 | n+1,f=>by rw [tS,tS,tS,J7 g h n];grind
theorem MJ (s:Spn) (c:Rat):∀ (n:Nat) (f:Int),tS (fun t=>if inS t s=true then c else 0) f n=((max 0 (min s.to_ (f+n)-max s.from_ f):Int):Rat)*c
 | 0,f=>by
  rw [tS,show max 0 (min s.to_ (f+(0:Nat))-max s.from_ f)=(0:Int) from by omega];simp
 | n+1,f=>by
  rw [tS,MJ s c n (f+1)];by_cases h:inS f s=true
  ·rw [if_pos h]
   simp only [inS,Bool.and_eq_true,decide_eq_true_eq] at h
   rw [show max 0 (min s.to_ (f+(n+1:Nat))-max s.from_ f)=max 0 (min s.to_ (f+1+n)-max s.from_ (f+1))+1 from by omega,Rat.intCast_add]
   grind
  ·rw [if_neg h]
   simp only [inS,Bool.and_eq_true,decide_eq_true_eq] at h
   rw [show max 0 (min s.to_ (f+(n+1:Nat))-max s.from_ f)=max 0 (min s.to_ (f+1+n)-max s.from_ (f+1)) from by omega]
   grind
theorem He:∀ {l:List Spn}{x t:Int} (k:Int),aR x l->t < x->pl k l t=-1
 | [],_,_,_,_,_=>rfl
 | s::l,x,t,k,h,ht=>by
  rw [pl,if_neg (by have:=h.1;simp [inS];omega),He (k+1) h.2.2 (by have:=h.1;have:=h.2.1;omega)]
theorem LA {g:Int->Rat}{s:Spn}{l:List Spn}{x t k:Int} (h:aR x (s::l)):g (pl k (s::l) t)=(if inS t s=true then g k-g (-1) else 0)+g (pl (k+1) l t):=by
 rw [pl];by_cases hi:inS t s=true
 ·rw [if_pos hi,if_pos hi,He (k+1) h.2.2 (by simp only [inS,Bool.and_eq_true,decide_eq_true_eq] at hi;exact hi.2)];grind
 ·rw [if_neg hi,if_neg hi];grind
theorem Dp {g:Int->Rat}{r:Rn}{n:Nat} (hn:r.to_=r.from_+n):∀ (l:List Spn) (x k q:Int),aR x l->0<=q->r.to_-max x r.from_<=q->tS (fun t=>g (pl k l t)) r.from_ n+((q-n:Int):Rat)*g (-1)=eX g (Dn r k q l)
 | [],x,k,q,_,hq,_=>by
  have h1:tS (fun t=>g (pl k [] t)) r.from_ n=(n:Rat)*g (-1):=by
   generalize r.from_=f;clear hn
   induction n generalizing f with
   | zero=>simp [tS]
   | succ n ih=>rw [tS,ih,pl,show ((n+1:Nat):Rat)=(n:Rat)+1 from by simp];grind
  have e:((n:Int):Rat)=(n:Rat):=rfl;rw [h1,Dn,Rat.intCast_sub,e];split
  ·rw [eX,eX];grind
  ·rw [eX,show q=0 from by omega];simp;grind
 | s::l,x,k,q,h,hq,h1=>by
  rw [Ey n r.from_ (h:=fun t=>(if inS t s=true then g k-g (-1) else 0)+g (pl (k+1) l t)) fun t _ _=>LA h,J7,MJ,Dn,<- hn]
  have:=h.1;have:=h.2.1;split
  ·rename_i ho
   rw [ovl] at ho;rw [<- Dp hn l s.to_ (k+1) q h.2.2 hq om,show max 0 (min s.to_ r.to_-max s.from_ r.from_)=(0:Int) from by omega]
   simp;grind
  ·rename_i ho
   rw [ovl] at ho;rw [eX,<- Dp hn l s.to_ (k+1) (q-ovl r s) h.2.2 (by rw [ovl];omega) (by rw [ovl];omega)]
   show ((max 0 (min s.to_ r.to_-max s.from_ r.from_):Int):Rat)*(g k-g (-1))+tS (fun t=>g (pl (k+1) l t)) r.from_ n+((q-n:Int):Rat)*g (-1)=((ovl r s:Int):Rat)*g k+(tS (fun t=>g (pl (k+1) l t)) r.from_ n+((q-ovl r s-n:Int):Rat)*g (-1))
   rw [show max 0 (min s.to_ r.to_-max s.from_ r.from_)=ovl r s from by rw [ovl];omega,show q-ovl r s-n=(q-n)-ovl r s from by omega,Rat.intCast_sub (q-n)]
   grind
theorem J8 {P:Int->Prop} [DecidablePred P]:∀ (n:Nat) (f:Int),0<=tS (fun t=>if P t then 1 else 0) f n/\(0 < tS (fun t=>if P t then 1 else 0) f n ↔ ∃ i:Nat,i < n/\P (f+i))
 | 0,f=>⟨Rat.le_refl,by simp [tS]⟩
 | n+1,f=>by
  have ⟨h1,h2⟩:=J8 (P:=P) n (f+1);rw [tS];have h3:(∃ i:Nat,i < n+1/\P (f+i)) ↔ P f∨∃ i:Nat,i < n/\P (f+1+i):=by
   constructor
   ·rintro ⟨i,hi,hp⟩
    cases i with
    | zero=>left;simpa using hp
    | succ i=>right;exact ⟨i,by omega,by rw [show f+1+(i:Int)=f+(i+1:Nat) from by omega];exact hp⟩
   ·rintro (hp|⟨i,hi,hp⟩)
    ·exact ⟨0,by omega,by simpa using hp⟩
    ·exact ⟨i+1,by omega,by rw [show f+((i+1:Nat):Int)=f+1+(i:Int) from by omega];exact hp⟩
  rw [h3,<- h2];split
  ·rename_i hp;exact ⟨by grind,by constructor<;>intro _<;>first|exact .inl hp|grind⟩
  ·rename_i hp
   rw [Rat.zero_add];exact ⟨h1,by simp [hp]⟩
theorem Ez {P:Int->Prop} [DecidablePred P]:∀ (L:List (Int×Int)),(∀ e∈L,0 < e.2)->0<=eX (fun t=>if P t then 1 else 0) L/\(0 < eX (fun t=>if P t then 1 else 0) L ↔ ∃ e∈L,P e.1)
 | [],_=>⟨Rat.le_refl,by simp [eX]⟩
 | (y,m)::L,h=>by
  have ⟨h1,h2⟩:=Ez (P:=P) L fun e he=>h e (mC _ he)
  have h3:(0:Rat) < (m:Rat):=by have:=h _ (List.mem_cons_self ..);exact_mod_cast this
  rw [eX];have h4:(∃ e∈(y,m)::L,P e.1) ↔ P y∨∃ e∈L,P e.1:=by simp
  rw [h4,<- h2];split
  ·rename_i hp;exact ⟨by grind,by constructor<;>intro _<;>first|exact .inl hp|grind⟩
  ·rename_i hp
   rw [Rat.mul_zero,Rat.zero_add];exact ⟨h1,by simp [hp]⟩
theorem OD {r:Rn} (h:inT r=true):r.to_=r.from_+(r.to_-r.from_).toNat:=by
 rw [inT,decide_eq_true_eq] at h;omega
theorem LB {r:Rn}{l:List Spn} (h:inT r=true) (hR:∀ s∈l,aQ s):∀ e∈jK l r,0 < e.2:=by
 rw [inT,decide_eq_true_eq] at h
 exact fun e he=>(Do (l0:=l) l 0 (r.to_-r.from_) (Int.le_refl _) om om (fun s hs=>by have:=(hR s hs).1;omega) e he).2.2.1
theorem Am {g:Int->Rat}{r:Rn}{l:List Spn}{x:Int} (h:inT r=true) (hl:aR x l):tS (fun t=>g (pl 0 l t)) r.from_ (r.to_-r.from_).toNat=eX g (jK l r):=by
 have h1:=OD h;rw [inT,decide_eq_true_eq] at h
 rw [jK,<- Dp h1 l x 0 (r.to_-r.from_) hl om om,show r.to_-r.from_-((r.to_-r.from_).toNat:Int)=0 from by omega]
 simp;grind
theorem yP {P:Int->Prop}{r:Rn}{l:List Spn}{x:Int} (h:inT r=true) (hl:aR x l) (hR:∀ s∈l,aQ s):(∃ e∈jK l r,P e.1) ↔ ∃ i:Nat,i < (r.to_-r.from_).toNat/\P (pl 0 l (r.from_+i)):=by
 haveI:DecidablePred P:=fun _=>Classical.propDecidable _
 rw [<- (Ez (P:=P) (jK l r) (LB h hR)).2,<- Am h hl];exact (J8 (P:=fun t=>P (pl 0 l t)) _ _).2
theorem uS {l:List Spn}{t st:Int}:bH l t st=ofR l (pl 0 l t) st:=by
 have key:∀ (m l0:List Spn) (k:Nat),l0.drop k=m->(match m[bW m t]? with|none=>0|some s=>bC s st)=ofR l0 (pl k m t) st:=by
  intro m
  induction m with
  | nil=>intro l0 k _;rw [pl,ofR,if_pos dc];rfl
  | cons s m ih =>
   intro l0 k hd;have hk:k < l0.length:=by
    rcases Nat.lt_or_ge k l0.length with h|h
    ·exact h
    ·rw [List.drop_eq_nil_of_le h] at hd;cases hd
   rw [List.drop_eq_getElem_cons hk] at hd;injection hd with h1 h2
   rw [pl];unfold bW at *;rw [List.findIdx_cons];by_cases hi:inS t s=true
   ·rw [if_pos hi,hi,FH hk,h1];rfl
   ·rw [if_neg hi,Bool.eq_false_iff.2 hi,<- Int.natCast_succ,<- ih l0 (k+1) h2];rfl
 rw [bH];exact key l l 0 rfl
theorem fM (l:List Spn):∀ (a b:List Int) (f:Int),aI l f (a++b)=aI l f a+aI l (f+a.length) b
 | [],b,f=>by rw [aI,List.nil_append,Rat.zero_add];simp
 | y::a,b,f=>by rw [List.cons_append,aI,aI,fM l a b (f+1),List.length_cons,show f+((a.length+1:Nat):Int)=f+1+a.length from by omega];grind
theorem An (l:List Spn) (x:Int):∀ (n:Nat) (f:Int),aI l f (List.replicate n x)=tS (fun t=>bH l t x) f n
 | 0,_=>rfl
 | n+1,f=>by rw [List.replicate_succ,aI,tS,An l x n]
theorem tH (l:List Spn) (A B:Int->Rat):∀ (hs:List Int) (f:Int),(∀ t,f<=t->t < f+hs.length->∀ x∈hs,bH l t x=A x+B t)->aI l f hs=cC A hs+tS B f hs.length
 | [],_,_=>by rw [aI,cC];simp [tS,Rat.add_zero]
 | y::hs,f,h=>by
  rw [aI,cC,List.length_cons,tS,h f om (by rw [List.length_cons];omega) y (List.mem_cons_self ..),tH l A B hs (f+1) fun t h1 h2 x hx=>h t om (by rw [List.length_cons];omega) x (mC _ hx)]
  grind
theorem Ao (g:Int->Rat):∀ (a b:List Int),cC g (a++b)=cC g a+cC g b
 | [],b=>by rw [List.nil_append,cC,Rat.zero_add]
 | y::a,b=>by rw [List.cons_append,cC,cC,Ao g a b,Rat.add_assoc]
theorem Ap (g:Int->Rat) (x:Int):∀ n:Nat,cC g (List.replicate n x)=(n:Rat)*g x
 | 0=>by simp [cC]
 | n+1=>by rw [List.replicate_succ,cC,Ap g x n,show ((n+1:Nat):Rat)=(n:Rat)+1 from by simp];grind
theorem tI (g:Int->Rat):∀ (t:List (Int×Int)),(∀ x∈t,1<=x.2)->cC g (pB t)=eX g t
 | [],_=>rfl
 | (x,m)::t,h=>by
  have h1:=h _ (List.mem_cons_self ..);dsimp only at h1;have e:((m.toNat:Nat):Rat)=(m:Rat):=by
   show ((m.toNat:Int):Rat)=(m:Rat)
   rw [Int.toNat_of_nonneg om]
  rw [rM,Ao,Ap,tI g t fun x hx=>h x (mC _ hx),eX,e]
theorem nH:∀ (t:List (Int×Int)),(∀ x∈t,1<=x.2)->((pB t).length:Int)=iM t
 | [],_=>rfl
 | x::t,h=>by
  have h1:=nH t fun y hy=>h y (mC _ hy)
  have h2:=h x (List.mem_cons_self ..);rw [rM,List.length_append,List.length_replicate,iM];omega
theorem jG {t:List (Int×Int)}{x:Int} (h:x∈pB t):∃ m,(x,m)∈t:=by
 obtain ⟨⟨y,m⟩,h1,h2⟩:=List.mem_flatMap.1 h;rw [List.mem_replicate] at h2;exact ⟨m,h2.2 ▸ h1⟩
theorem qC {r:Rn} (h:inT r=true) (h1:eB r=0):((eU r).length:Int)=r.to_-r.from_:=by
 rw [inT,decide_eq_true_eq] at h
 rw [eU];split
 ·rw [List.length_replicate];omega
 ·rename_i h0
  obtain ⟨e1,_,e3,_⟩:=fR h1 h0;rw [nH _ fun x hx=>(e1 x hx).2.1,e3]
theorem FO {r:Rn} (h1:eB r=0):∀ x∈eU r,0<=x/\x<=1000:=by
 rw [eU];split
 ·rename_i h0
  obtain ⟨e1,e2,e3⟩:=Ak h1 h0;intro x hx;rw [(List.mem_replicate.1 hx).2];omega
 ·rename_i h0
  intro x hx;obtain ⟨m,hm⟩:=jG hx;exact ((fR h1 h0).1 _ hm).1
theorem Ij {l:List Spn}{r:Rn}{x:Int} (h:inT r=true) (hl:aR x l) (hR:∀ s∈l,aQ s):takeB l r ↔ ¬ J6 l r:=by
 have hT:=h;rw [inT,decide_eq_true_eq] at hT;cases ht:r.tab with
 | nil =>
  have hb:J6 l r ↔ J2 r l=true:=by rw [J6,ht];simp
  have he:takeB l r ↔ ¬ ∃ e∈jK l r,ofR l e.1 r.lo≠ofR l e.1 r.hi:=by
   unfold takeB okE;rw [ht];constructor
   ·rintro h1 ⟨e,he,h2⟩;exact h2 (h1 e he)
   ·intro h1 e he;exact Classical.byContradiction fun h2=>h1 ⟨e,he,h2⟩
  rw [hb,he,yP (P:=fun k=>ofR l k r.lo≠ofR l k r.hi) h hl hR,J2,List.any_eq_true]
  simp only [List.mem_range,decide_eq_true_eq,uS]
 | cons y t =>
  have hb:J6 l r ↔ N5 r l:=by rw [J6,ht];simp
  rw [hb];have hd:∀ (z:Int×Int),z∈r.tab->∀ c:Rat,(∀ e∈jK l r,ofR l e.1 z.1-ofR l e.1 y.1=c) ↔ ∀ i:Nat,i < (r.to_-r.from_).toNat->bH l (r.from_+i) z.1-bH l (r.from_+i) y.1=c:=by
   intro z _ c;have:=yP (P:=fun k=>ofR l k z.1-ofR l k y.1≠c) h hl hR
   simp only [uS];constructor
   ·intro h1 i hi
    exact Classical.byContradiction fun h2=>by obtain ⟨e,he,h3⟩:=this.2 ⟨i,hi,h2⟩;exact h3 (h1 e he)
   ·intro h1 e he
    exact Classical.byContradiction fun h2=>by obtain ⟨i,hi,h3⟩:=this.1 ⟨e,he,h2⟩;exact h3 (h1 i hi)
  have hne:∃ e∈jK l r,True:=(yP (P:=fun _=>True) h hl hR).2 ⟨0,by omega,trivial⟩
  have hhd:(jK l r).headD (0,0)∈jK l r:=by
   obtain ⟨e,he,_⟩:=hne;cases hc:jK l r with
   | nil=>rw [hc] at he;cases he
   | cons a b=>exact List.mem_cons_self ..
  have hk:takeB l r ↔ ∀ z∈r.tab,∃ c,∀ e∈jK l r,ofR l e.1 z.1-ofR l e.1 y.1=c:=by
   unfold takeB okE;rw [ht];constructor
   ·intro h1 z hz
    exact ⟨ofR l ((jK l r).headD (0,0)).1 z.1-ofR l ((jK l r).headD (0,0)).1 y.1,fun e he=>by have:=h1 e he z hz;grind⟩
   ·intro h1 e he z hz
    obtain ⟨c,hc⟩:=h1 z hz;have:=hc e he;have:=hc _ hhd;grind
  have hm:(¬ N5 r l) ↔ ∀ z∈r.tab,∀ i:Nat,i < (r.to_-r.from_).toNat->bH l (r.from_+i) z.1-bH l (r.from_+i) y.1=bH l r.from_ z.1-bH l r.from_ y.1:=by
   have hp:0 < r.tab.length:=by rw [ht];exact Nat.zero_lt_succ _
   have h0:r.tab[0]=y:=by simp [ht]
   constructor
   ·intro h1 z hz i hi
    obtain ⟨k,hk,rfl⟩:=List.getElem_of_mem hz;refine Classical.byContradiction fun h2=>h1 ⟨k,hp,hk,?_,i,?_,by omega,?_⟩
    ·rcases Nat.eq_zero_or_pos k with rfl|h3
     ·exact absurd (by rw [h0];grind) h2
     ·exact h3
    ·rcases Nat.eq_zero_or_pos i with rfl|h3
     ·exact absurd (by simp) h2
     ·exact h3
    ·rw [h0]
     intro h3;apply h2;grind
   ·rintro h1 ⟨k,_,hk,_,j,_,hj,h2⟩
    have:=h1 _ (gM hk) j om;rw [h0] at h2;apply h2;grind
  rw [hk,hm];constructor
  ·intro h1 z hz i hi
   obtain ⟨c,hc⟩:=h1 z hz;have h2:=(hd z hz c).1 hc;have:=h2 i hi;have:=h2 0 om;simp only [Int.natCast_zero,Int.add_zero] at this;grind
  ·intro h1 z hz
   exact ⟨_,(hd z hz _).2 (h1 z hz)⟩
theorem J9 {l:List Spn}{r:Rn}{x:Int} (h:inT r=true) (h1:eB r=0) (hl:aR x l) (hb:takeB l r) (hR:∀ s∈l,aQ s):Hc l r=aI l r.from_ (eU r):=by
 have hT:=h;rw [inT,decide_eq_true_eq] at hT;cases ht:r.tab with
 | nil =>
  rw [Hc,ht,eU,if_pos (by rw [ht];rfl),An]
  simp only [uS];exact (Am (g:=fun k=>ofR l k r.lo) h hl).symm
 | cons y t =>
  have h0:r.tab.length≠0:=by rw [ht];exact Nat.succ_ne_zero _
  obtain ⟨e1,_,e3,_⟩:=fR h1 h0;have hlen:=nH _ fun x hx=>(e1 x hx).2.1
  unfold takeB okE at hb;rw [ht] at hb;dsimp only at hb;rw [Hc,ht,eU,if_neg h0];dsimp only;rw [<- ht,<- tI _ _ fun x hx=>(e1 x hx).2.1,<- Am h hl,show (r.to_-r.from_).toNat=(pB r.tab).length from by omega]
  rw [tH l (ofR l ((jK l r).headD (0,0)).1) (fun t=>ofR l (pl 0 l t) y.1-ofR l ((jK l r).headD (0,0)).1 y.1)]
  intro t ht1 ht2 z hz;obtain ⟨m,hm⟩:=jG hz;have hall:¬ ∃ e∈jK l r,ofR l e.1 z-ofR l ((jK l r).headD (0,0)).1 z≠ofR l e.1 y.1-ofR l ((jK l r).headD (0,0)).1 y.1:=by
   rintro ⟨e,he,h5⟩
   exact h5 (hb e he (z,m) (ht ▸ hm))
  rw [yP (P:=fun k=>ofR l k z-ofR l ((jK l r).headD (0,0)).1 z≠ofR l k y.1-ofR l ((jK l r).headD (0,0)).1 y.1) h hl hR] at hall
  have h6:=Classical.byContradiction fun h7=>hall ⟨(t-r.from_).toNat,by omega,h7⟩
  rw [show r.from_+((t-r.from_).toNat:Int)=t from by omega] at h6
  rw [uS];grind
def Chn:Int->List Rn->Prop
 | _,[]=>True
 | f,r::t=>r.from_=f/\Chn r.to_ t
theorem FP:∀ {l:List Rn}{p:Option Rn},gP p l=0->Chn (match p with|none=>Al l|some q=>q.to_) l
 | [],_,_=>trivial
 | r::t,p,h=>by
  have h5:gP (some r) t=0/\∀ q,p=some q->r.from_=q.to_:=by
   cases p with
   | none =>
    have h6:(if inT r=false then 3 else if false=true then 1 else if eB r≠0 then eB r else gP (some r) t)=0:=h
    split at h6
    ·cases h6
    rw [if_neg dc] at h6;split at h6
    ·rename_i h3;exact absurd h6 h3
    exact ⟨h6,fun q e=>by cases e⟩
   | some q =>
    have h6:(if inT r=false then 3 else if decide (r.from_≠q.to_)=true then 1 else if eB r≠0 then eB r else gP (some r) t)=0:=h
    split at h6
    ·cases h6
    split at h6
    ·cases h6
    rename_i h2;split at h6
    ·rename_i h3;exact absurd h6 h3
    exact ⟨h6,fun q' e=>by cases e;simpa using h2⟩
  refine ⟨?_,FP (p:=some r) h5.1⟩;cases p with
  | none=>rfl
  | some q=>exact h5.2 q rfl
theorem E0 {l:List Spn}{x:Int} (hl:aR x l) (hR:∀ s∈l,aQ s):∀ (rs:List Rn) (f:Int),Chn f rs->(∀ r∈rs,inT r=true)->(∀ r∈rs,eB r=0)->(∀ r∈rs,takeB l r)->Hd l rs=aI l f (oI rs)
 | [],_,_,_,_,_=>rfl
 | r::t,f,h,h1,h2,h3=>by
  have m:=List.mem_cons_self (a:=r) (l:=t);rw [Hd,oI,fM,J9 (h1 r m) (h2 r m) hl (h3 r m) hR,E0 hl hR t r.to_ h.2 (fun y hy=>h1 y (mC _ hy)) (fun y hy=>h2 y (mC _ hy)) (fun y hy=>h3 y (mC _ hy)),
   qC (h1 r m) (h2 r m),h.1]
  congr 2;have:=h.1;omega
def bare (s:Spn):Spn:={ s with adr:=none,cap:=0 }
def gQ (r:Rn):Rn:={ r with adr:=none,cap:=0 }
theorem Cg {l:List Spn}{z:Int}:mI z l=0 ↔ (∀ s∈l,aQ s)/\aR z l:=by
 constructor
 ·exact fun h=>⟨Eu h,qB h⟩
 ·induction l generalizing z with
  | nil=>exact fun _=>rfl
  | cons s l ih =>
   rintro ⟨h1,h2,h3,h4⟩
   have h5:=h1 s (List.mem_cons_self ..);rw [mI,if_neg (by simp [h5];omega)]
   exact ih ⟨fun t ht=>h1 t (mC _ ht),h4⟩
theorem aR.cut {x y:Int}:∀ {l:List Spn}{z:Int},aR z l->aR z (eP x y l)
 | [],_,_=>trivial
 | s::l,z,h=>by
  have h1:=aR.cut (x:=x) (y:=y) h.2.2;have:=h.1;have:=h.2.1;rw [eP];split
  ·rename_i hc
   exact ⟨by show z<=max s.from_ x;omega,hc,h1.mono (by show min s.to_ y<=s.to_;omega)⟩
  ·exact h1.mono om
theorem aR.scale {q:Rat}:∀ {l:List Spn}{z:Int},aR z l->aR z (l.map (N3 q))
 | [],_,_=>trivial
 | s::l,_,h=>⟨h.1,h.2.1,aR.scale h.2.2⟩
def Chq:Int->List (Int×Int×Int)->Int->Prop
 | f,[],e=>f=e
 | f,p::t,e=>p.1=f/\f < p.2.1/\Chq p.2.1 t e
theorem Chq.app:∀ {o:List (Int×Int×Int)}{f e:Int}{p:Int×Int×Int},Chq f (o++[p]) e ↔ Chq f o p.1/\p.1 < p.2.1/\p.2.1=e
 | [],f,e,p=>by
  simp only [List.nil_append,Chq];constructor
  ·rintro ⟨rfl,h2,h3⟩;exact ⟨rfl,h2,h3⟩
  ·rintro ⟨rfl,h2,h3⟩;exact ⟨rfl,h2,h3⟩
 | q::o,f,e,p=>by
  simp only [List.cons_append,Chq,Chq.app (o:=o),and_assoc]
theorem JA {r:Rn} (h:wK r (stg r)) (h1:0<=stg r/\stg r<=1000) (h2:0<=r.from_/\r.from_ < r.to_/\r.to_<=1402560):eB r=0:=by
 obtain ⟨k1,k2,k3⟩:=h;rw [eB,k1,if_neg (by exact Nat.succ_ne_zero _)]
 rw [if_neg (by simp [nG];omega),if_pos ⟨rfl,by simp [iM],k2,k3⟩]
theorem rN:∀ {L:List Rn}{p:Option Rn}{f:Int},Chn f L->(∀ q,p=some q->q.to_=f)->(∀ r∈L,inT r=true)->(∀ r∈L,eB r=0)->gP p L=0
 | [],_,_,_,_,_,_=>rfl
 | r::L,p,f,h,hp,h1,h2=>by
  have m:=List.mem_cons_self (a:=r) (l:=L);have h3:=rN (p:=some r) h.2 (fun q hq=>by cases hq;rfl) (fun x hx=>h1 x (mC _ hx)) fun x hx=>h2 x (mC _ hx)
  have h4:=h1 r m;have h5:=h2 r m;have h6:=h.1;cases p with
  | none =>
   show (if inT r=false then (3:Int) else if false=true then 1 else if eB r≠0 then eB r else gP (some r) L)=0
   rw [h4,if_neg dc,if_neg dc,h5,if_neg dc];exact h3
  | some q =>
   have h7:=hp q rfl;show (if inT r=false then (3:Int) else if decide (r.from_≠q.to_)=true then 1 else if eB r≠0 then eB r else gP (some r) L)=0
   rw [h4,if_neg dc,if_neg (by simp;omega),h5,if_neg dc];exact h3
def lP (L:List (Int×Int)):List (Int×Int)->List (Int×Int)
 | []=>L
 | (s,t)::r=>lP (pX s t L) r
theorem E1 {m:Int} (hm:0<=m):∀ (tab L:List (Int×Int)),(∀ x,0<=cnt x L/\cnt x L<=m)->(∀ p∈tab,0<=p.2/\p.2<=m)->∀ x,0<=cnt x (lP L tab)/\cnt x (lP L tab)<=m
 | [],_,h,_,x=>h x
 | (s,t)::r,L,h,h2,x=>E1 hm r (pX s t L) (fun y=>by
   have:=h2 _ (List.mem_cons_self ..);rw [fQ];split
   ·exact this
   ·exact h y) (fun p hp=>h2 p (mC _ hp)) x
def Dq (g:Bool) (lo hi:Int) (L:List (Int×Int)) (s:Int):Bool:=if g=true then !decide (lo<=s/\s<=hi) else decide (cnt s L=0)
def goC (g:Bool) (lo hi:Int):List (Int×Int)->List Int->Bool
 | _,[]=>true
 | L,s::r=>!Dq g lo hi L s && goC g lo hi (pX s (cnt s L-1) L) r
def agr1 (r:Rn) (seg:List Int):Bool:=goC (decide (r.tab.length=0)) r.lo r.hi (lP [] r.tab) seg
def agrL (f:Int) (hs:List Int):List Rn->Bool
 | []=>true
 | r::t=>agr1 r ((hs.drop (r.from_-f).toNat).take (r.to_-r.from_).toNat) && agrL f hs t
def dP (rs:List Rn) (f:Int) (hs:List Int):Bool :=
 if aX rs≠0∨dK f hs=false then false else match rs[0]?,rs[rs.length-1]? with
 | some a,some b=>if f≠a.from_∨(hs.length:Int)≠b.to_-f then false else agrL f hs rs
 | _,_=>decide (hs.length=0)
theorem JB:∀ {L:List Rn}{f:Int} (hp:0 < L.length),Chn f L->(∀ r∈L,inT r=true)->∀ (k:Nat) (hk:k < L.length),f<=L[k].from_/\L[k].from_ < L[k].to_/\L[k].to_<=(L[L.length-1]).to_
 | [r],f,_,h,h1,k,hk=>by
  have h2:=h1 r (List.mem_cons_self ..);rw [inT,decide_eq_true_eq] at h2;have:=h.1;obtain rfl:k=0:=by rw [List.length_singleton] at hk;omega
  simp only [List.length_singleton,Nat.sub_self,List.getElem_cons_zero];omega
 | r::s::t,f,_,h,h1,k,hk=>by
  have h2:=h1 r (List.mem_cons_self ..);rw [inT,decide_eq_true_eq] at h2;have h3:=h.1;have h4:=JB (L:=s::t) (Nat.zero_lt_succ _) h.2 fun x hx=>h1 x (mC _ hx)
  simp only [List.length_cons,Nat.add_sub_cancel,List.getElem_cons_succ] at h4 ⊢;cases k with
  | zero =>
   have:=h4 0 om;simp only [List.getElem_cons_zero] at this ⊢;omega
  | succ k =>
   have:=h4 k (by simpa using hk)
   simp only [List.getElem_cons_succ];omega
set_option maxHeartbeats 4000000 in
theorem xX (a b:Option Addr) (rs:List Rn) (f:Int) (hs:List Int) (c d:Nat) (w:World) (hA:aW w a rs) (hB:aE w b 1 (hs.map isV)) (hfr:∀ r∈rs,r.tab.length<=64) (hcap:hs.length<=d) (hl:hs.length<=1000000000) :
  CR 20 #[.slice a rs.length c,.agg #[.int .i64 f,.slice b hs.length d]] w (.bool (dP rs f hs)):=by
 have hc:=fun w' (hb:Below w.heap.size w w')=>xV a rs c w' (hA.below hb) hfr
 have hr:=fun w' (hb:Below w.heap.size w w')=>oH f b hs d w' (hB.below hb) hl
 rw [dP];by_cases h1:¬ aX rs=0
 ·rw [if_pos (.inl h1)]
  generalize aX rs=E at *;refine aB [(0,.slice a rs.length c),(1,.agg #[.int .i64 f,.slice b hs.length d])] Tryz.func20 Tryz.ntmps20 ?_;all_goals (refine go ?_;and_intros<;>(try exact trivial)<;>intros)
  repeat' ((first|(refine G.PG hc ?_))<;>(refine go ?_;and_intros<;>(try exact trivial)<;>intros))
  all_goals exact aA Tryz.func20 Tryz.results20 rfl
 rw [Decidable.not_not] at h1;have ⟨_,k5,_⟩:=jQ h1;have k6:=xW h1;have hch:Chn (Al rs) rs:=FP (p:=none) (tG h1);by_cases h2:dK f hs=false
 ·rw [if_pos (.inr h2)]
  rw [h1] at hc;rw [h2] at hr;refine aB [(0,.slice a rs.length c),(1,.agg #[.int .i64 f,.slice b hs.length d])] Tryz.func20 Tryz.ntmps20 ?_;all_goals (refine go ?_;and_intros<;>(try exact trivial)<;>intros)
  repeat' ((first|(refine G.PG hc ?_)|(refine G.PG hr ?_))<;>(refine go ?_;and_intros<;>(try exact trivial)<;>intros))
  all_goals exact aA Tryz.func20 Tryz.results20 rfl
 rw [if_neg (by rw [h1];simp [h2])]
 rw [Bool.not_eq_false] at h2;rw [h1] at hc;rw [h2] at hr;obtain ⟨k3,k4⟩:=nF h2;clear h1 h2;rcases Nat.eq_zero_or_pos rs.length with h0|h0
 ·rw [List.getElem?_eq_none om]
  show Calls _ _ _ _ fun e w'=>e=.returned (.bool (decide (hs.length=0)))/\Below w.heap.size w w'
  by_cases h3:hs.length=0
  ·rw [dT h3]
   refine aB [(0,.slice a rs.length c),(1,.agg #[.int .i64 f,.slice b hs.length d])] Tryz.func20 Tryz.ntmps20 ?_;all_goals (refine go ?_;and_intros<;>(try exact trivial)<;>intros)
   repeat' ((first|(refine G.PG hc ?_)|(refine G.PG hr ?_))<;>(refine go ?_;and_intros<;>(try exact trivial)<;>intros))
   all_goals refine aA Tryz.func20 Tryz.results20 ?_
   all_goals exact bL (by first|(rw [dT om])|rfl)
  ·rw [dF h3]
   refine aB [(0,.slice a rs.length c),(1,.agg #[.int .i64 f,.slice b hs.length d])] Tryz.func20 Tryz.ntmps20 ?_;all_goals (refine go ?_;and_intros<;>(try exact trivial)<;>intros)
   repeat' ((first|(refine G.PG hc ?_)|(refine G.PG hr ?_))<;>(refine go ?_;and_intros<;>(try exact trivial)<;>intros))
   all_goals refine aA Tryz.func20 Tryz.results20 ?_
   all_goals exact bL (by first|(rw [dF om])|rfl)
 rw [gE h0,gE (show rs.length-1 < rs.length by omega)]
 dsimp only;have hin:=JB h0 hch k5;have hz:(rs.length:Int)-1=((rs.length-1:Nat):Int):=by omega
 have hfF:Al rs=rs[0].from_:=by
  cases rs with
  | nil=>exact absurd h0 (Nat.lt_irrefl _)
  | cons r t=>rfl
 rw [hfF] at hin;obtain ⟨ba,oa,rfl,hra⟩:=aE.all hA.1 om;have r1:=hra 0 h0;have r2:=hra (rs.length-1) om;have i1:=k5 _ (gM h0);have i2:=k5 _ (gM (show rs.length-1 < rs.length by omega))
 rw [inT,decide_eq_true_eq] at i1 i2;refine aB [(0,.slice (some ⟨ba,oa,none⟩) rs.length c),(1,.agg #[.int .i64 f,.slice b hs.length d])] Tryz.func20 Tryz.ntmps20 ?_;by_cases h3:f≠rs[0].from_∨(hs.length:Int)≠(rs[rs.length-1]).to_-f
 ·rw [if_pos h3]
  clear hin hfF hch;generalize rs[0]=x at *;generalize rs[rs.length-1]=y at *;obtain ⟨f1,u,tab,adr,cap,lo,hi⟩:=x;obtain ⟨f2,u2,tab2,adr2,cap2,lo2,hi2⟩:=y;dsimp only [rnV] at *;rcases h3 with h3|h3
  ·skip
   all_goals (refine go ?_;and_intros<;>(try exact trivial)<;>intros)
   repeat' ((first|(refine G.PG hc ?_)|(refine G.PG hr ?_)|(apply G.ix;rfl;rfl;exact hz;omega;rfl)|(apply G.ix (i:=0);rfl;rfl;exact rfl;omega;rfl))<;>(refine go ?_;and_intros<;>(try exact trivial)<;>intros))
   all_goals exact aA Tryz.func20 Tryz.results20 rfl
  ·skip
   all_goals (refine go ?_;and_intros<;>(try exact trivial)<;>intros)
   repeat' ((first|(refine G.PG hc ?_)|(refine G.PG hr ?_)|(apply G.ix;rfl;rfl;exact hz;omega;rfl)|(apply G.ix (i:=0);rfl;rfl;exact rfl;omega;rfl))<;>(refine go ?_;and_intros<;>(try exact trivial)<;>intros))
   all_goals
    all_goals exact aA Tryz.func20 Tryz.results20 rfl
 rw [if_neg h3];rw [not_or,Decidable.not_not,Decidable.not_not] at h3;obtain ⟨h3,h4⟩:=h3;rw [<- h3] at hin;have hin2:∀ (k:Nat) (hk:k < rs.length),f<=rs[k].from_/\rs[k].from_ < rs[k].to_/\rs[k].to_<=f+hs.length:=fun k hk=>by have:=hin k hk;omega
 clear hin hfF hch;have r1':=r1;have r2':=r2;rw [show rnV rs[0]=[.int .i64 rs[0].from_,.int .i64 rs[0].to_,.slice rs[0].adr rs[0].tab.length rs[0].cap,.int .i64 rs[0].lo,.int .i64 rs[0].hi] from rfl] at r1'
 rw [show rnV rs[rs.length-1]=[.int .i64 (rs[rs.length-1]).from_,.int .i64 (rs[rs.length-1]).to_,.slice (rs[rs.length-1]).adr (rs[rs.length-1]).tab.length (rs[rs.length-1]).cap,.int .i64 (rs[rs.length-1]).lo,.int .i64 (rs[rs.length-1]).hi] from rfl] at r2'
 all_goals (refine go ?_;and_intros<;>(try exact trivial)<;>intros)
 repeat' ((first|(refine G.PG hc ?_)|(refine G.PG hr ?_)|(apply G.ix;rfl;rfl;exact hz;omega;rfl)|(apply G.ix (i:=0);rfl;rfl;exact rfl;omega;rfl))<;>(refine go ?_;and_intros<;>(try exact trivial)<;>intros))
 clear hc hr r1 r2 r1' r2' i1 i2;generalize hT:agrL f hs rs=T;refine J.loop (c:=_) (0:Nat) (fun s=>rs.length-s) (fun s=>[(3,.pointer (some ⟨_,0,none⟩)),(50,.slice (some ⟨ba,oa,none⟩) rs.length c),(51,.int .i64 rs.length),(52,.int .i64 s)]) (fun s=>[.blk _ 30 [.int .i64 f,.slice b hs.length d] 2]) (fun s=>s<=rs.length/\agrL f hs (rs.drop s)=T) ?_ sbT sbL ?_
 ·exact ⟨Nat.zero_le _,hT⟩
 clear hT;intro k ⟨e1,e2⟩ ih;by_cases hk:k < rs.length
 ·have hrk:=hra k hk
  have htk:=hA.2 _ (gM hk);have hik:=hin2 k hk;have hok:=k6 _ (gM hk);have hik2:=k5 _ (gM hk);rw [inT,decide_eq_true_eq] at hik2;have hlk:=hfr _ (gM hk);rw [List.drop_eq_getElem_cons hk,agrL] at e2;have hbd:∀ x,0<=cnt x (lP [] rs[k].tab)/\cnt x (lP [] rs[k].tab)<=1402560:=by
   by_cases ht:rs[k].tab.length=0
   ·rw [List.length_eq_zero_iff.1 ht];exact fun x=>⟨Int.le_refl _,by show (0:Int)<=1402560;decide⟩
   ·obtain ⟨t1,_⟩:=fR hok ht
    exact E1 dc _ _ (fun x=>⟨Int.le_refl _,by show (0:Int)<=1402560;decide⟩) fun p hp=>by have:=(t1 p hp).2;omega
  have hg:=fun w'=>wJ rs[k] w'
  have ih':=ih (k+1);clear hra hin2 k6 k5 hok ih;generalize hV:agrL f hs (rs.drop (k+1))=V at *;generalize rs[k]=r at *;obtain ⟨fr,to,tab,adr,cap,lo,hi⟩:=r;dsimp only [rnV,rnA,mJ,agr1] at *;obtain ⟨p,hp⟩:∃ p:Nat,fr=f+p:=⟨(fr-f).toNat,by omega⟩
  obtain ⟨n,hn⟩:∃ n:Nat,to=fr+n:=⟨(to-fr).toNat,by omega⟩
  rw [show (fr-f).toNat=p by omega,show (to-fr).toNat=n by omega] at e2
  subst hn;subst hp;have hseg:∀ i (hi:i < n),((hs.drop p).take n).drop i=hs[p+i]::((hs.drop p).take n).drop (i+1):=fun i hi=>by
   rw [List.drop_eq_getElem_cons (by simp;omega)]
   simp
  have hlen:((hs.drop p).take n).length=n:=by simp;omega
  generalize hsg:(hs.drop p).take n=sg at *;generalize hFL:lP [] tab=FL at *;all_goals (refine go ?_;and_intros<;>(try exact trivial)<;>intros)
  repeat' ((first|(apply G.Qv;rfl;intro bq))<;>(refine go ?_;and_intros<;>(try exact trivial)<;>intros))
  refine J.loop (c:=_) ((0,#[],0,[]):Nat×Array MapEntry×Nat×List (Int×Int)) (fun s=>tab.length-s.1) (fun s=>[(3,.pointer (some ⟨_,0,none⟩)),(6,.pointer (some ⟨_,0,none⟩)),(7,.map (some bq)),(50,.slice (some ⟨ba,oa,none⟩) rs.length c),(51,.int .i64 rs.length),(52,.int .i64 k),(58,.slice adr tab.length cap),(59,.int .i64 tab.length),(60,.int .i64 s.1)]) (fun s=>[.obj bq (.map s.2.1 s.2.2.1),.blk _ 67 [.int .i64 (f+p),.int .i64 (f+p+n),.slice adr tab.length cap,.int .i64 lo,.int .i64 hi] 5,.blk _ 30 [.int .i64 f,.slice b hs.length d] 2]) (fun s=>s.1<=tab.length/\dQ (Value.int .i64) s.2.1 s.2.2.1 (s.2.2.2.map iv)/\lP s.2.2.2 (tab.drop s.1)=FL) ?_ sbT sbL ?_
  ·exact ⟨Nat.zero_le _,dQ.nil,hFL⟩
  clear hFL;intro ⟨j,es,ck,Lc⟩ ⟨d1,hI,d2⟩ ih2;dsimp only at d1 hI d2 ⊢;by_cases hj:j < tab.length
  ·obtain ⟨bt,ot,rfl,hrt⟩:=aE.all htk om
   have hrj:=hrt j hj;rw [List.drop_eq_getElem_cons hj,lP] at d2;clear hrt ih';generalize tab[j]=z at *;obtain ⟨zs,zt⟩:=z;dsimp only [hoV] at *;all_goals (refine go ?_;and_intros<;>(try exact trivial)<;>intros)
   repeat' ((first|(apply G.mu (kf:=Value.int .i64) (a:=zs) hI (Aa zs zt Lc);rfl;rfl;rfl;rfl;(repeat (first|exact RAt.head|apply RAt.tail));intro es2 c2 hI2))<;>(refine go ?_;and_intros<;>(try exact trivial)<;>intros))
   exact J.fin (ih2 (j+1,es2,c2,pX zs zt Lc) ⟨hj,hI2,d2⟩ (by dsimp only;omega))
  obtain rfl:j=tab.length:=by omega
  rw [List.drop_length,lP] at d2;subst d2;clear ih2;by_cases hn0:hs.length=0
  ·exfalso;omega
  obtain ⟨bb,ob,rfl,hrb⟩:=aE.all hB om;all_goals (refine go ?_;and_intros<;>(try exact trivial)<;>intros)
  repeat' ((first|(apply G.Q8 (l:=p) (h:=p+n) (off:=ob+p*1) (len:=n);rfl;rfl;rfl;omega;omega;omega;omega;omega;rfl;omega;rfl))<;>(refine go ?_;and_intros<;>(try exact trivial)<;>intros))
  refine J.loop (c:=_) ((0,es,ck,Lc):Nat×Array MapEntry×Nat×List (Int×Int)) (fun s=>n-s.1) (fun s=>[(3,.pointer (some ⟨_,0,none⟩)),(6,.pointer (some ⟨_,0,none⟩)),(7,.map (some bq)),(50,.slice (some ⟨ba,oa,none⟩) rs.length c),(51,.int .i64 rs.length),(52,.int .i64 k),(82,.slice (some ⟨bb,ob+p*1,none⟩) n _),(83,.int .i64 n),(84,.int .i64 s.1)]) (fun s=>[.obj bq (.map s.2.1 s.2.2.1),.blk _ 67 [.int .i64 (f+p),.int .i64 (f+p+n),.slice adr tab.length cap,.int .i64 lo,.int .i64 hi] 5,.blk _ 30 [.int .i64 f,.slice (some ⟨bb,ob,none⟩) hs.length d] 2]) (fun s=>s.1<=n/\dQ (Value.int .i64) s.2.1 s.2.2.1 (s.2.2.2.map iv)/\(goC (decide (tab.length=0)) lo hi s.2.2.2 (sg.drop s.1) && V)=T/\∀ x,-(s.1:Int)<=cnt x s.2.2.2/\cnt x s.2.2.2<=1402560) ?_ sbT sbL ?_
  ·exact ⟨Nat.zero_le _,hI,e2,fun x=>by have:=hbd x;dsimp only;omega⟩
  clear hbd e2 hI;intro ⟨i,es2,ck2,L2⟩ ⟨c1,hI,c2,c3⟩ ih2;dsimp only at c1 hI c2 c3 ⊢;by_cases hi2:i < n
  ·have hr1:bG w bb (ob+p*1+i*1) [.int .i64 hs[p+i]]:=by
    have:=hrb (p+i) om;rw [show ob+p*1+i*1=ob+(p+i)*1 by omega];exact this
   rw [hseg i hi2,goC] at c2;clear hrb;generalize hs[p+i]=z at *;have hcz:=c3 z;have hlk2:=FC z L2;have hpt:=Aa z (cnt z L2-1) L2;have hw:=fun w'=>fL z lo hi w'
   have hnx:∀ x,-((i+1:Nat):Int)<=cnt x (pX z (cnt z L2-1) L2)/\cnt x (pX z (cnt z L2-1) L2)<=1402560:=fun x=>by
    rw [fQ];have:=c3 x;split<;>omega
   clear c3;by_cases hgp:tab.length=0
   ·rw [dT hgp] at hg c2 ih2
    by_cases hwi:lo<=z/\z<=hi
    ·rw [dT hwi] at hw
     rw [Dq,if_pos rfl,dT hwi,Bool.not_true,Bool.not_false,Bool.true_and] at c2;have ih3:=fun es3 c4 hI3=>ih2 (i+1,es3,c4,pX z (cnt z L2-1) L2) ⟨hi2,hI3,c2,hnx⟩ (by dsimp only;omega)
     generalize cnt z L2=N at *;all_goals (refine go ?_;and_intros<;>(try exact trivial)<;>intros)
     repeat' ((first|(apply G.cV (g:=56);rfl;rfl;exact fun w' _=>hg w')|(apply G.cV (g:=57);rfl;rfl;exact fun w' _=>hw w')|(apply G.lk (kf:=Value.int .i64) (a:=z) hI;rfl;rfl;exact mm;exact hlk2;rfl)|(apply G.mu (kf:=Value.int .i64) (a:=z) hI hpt;rfl;rfl;rfl;rfl;(repeat (first|exact RAt.head|apply RAt.tail));intro es3 c4 hI3))<;>(refine go ?_;and_intros<;>(try exact trivial)<;>intros))
     exact J.fin (ih3 es3 c4 hI3)
    ·rw [dF hwi] at hw
     rw [Dq,if_pos rfl,dF hwi,Bool.not_false,Bool.not_true,Bool.false_and,Bool.false_and] at c2;subst c2;all_goals (refine go ?_;and_intros<;>(try exact trivial)<;>intros)
     repeat' ((first|(apply G.cV (g:=56);rfl;rfl;exact fun w' _=>hg w')|(apply G.cV (g:=57);rfl;rfl;exact fun w' _=>hw w'))<;>(refine go ?_;and_intros<;>(try exact trivial)<;>intros))
     all_goals exact aA Tryz.func20 Tryz.results20 rfl
   ·rw [dF hgp] at hg c2 ih2
    by_cases hc0:cnt z L2=0
    ·rw [Dq,if_neg dc,dT hc0,Bool.not_true,Bool.false_and,Bool.false_and] at c2
     subst c2;rw [hc0] at hlk2;all_goals (refine go ?_;and_intros<;>(try exact trivial)<;>intros)
     repeat' ((first|(apply G.cV (g:=56);rfl;rfl;exact fun w' _=>hg w')|(apply G.lk (kf:=Value.int .i64) (a:=z) hI;rfl;rfl;exact mm;exact hlk2;rfl))<;>(refine go ?_;and_intros<;>(try exact trivial)<;>intros))
     all_goals exact aA Tryz.func20 Tryz.results20 rfl
    ·rw [Dq,if_neg dc,dF hc0,Bool.not_false,Bool.true_and] at c2
     have ih3:=fun es3 c4 hI3=>ih2 (i+1,es3,c4,pX z (cnt z L2-1) L2) ⟨hi2,hI3,c2,hnx⟩ (by dsimp only;omega)
     generalize cnt z L2=N at *;all_goals (refine go ?_;and_intros<;>(try exact trivial)<;>intros)
     repeat' ((first|(apply G.cV (g:=56);rfl;rfl;exact fun w' _=>hg w')|(apply G.lk (kf:=Value.int .i64) (a:=z) hI;rfl;rfl;exact mm;exact hlk2;rfl)|(apply G.mu (kf:=Value.int .i64) (a:=z) hI hpt;rfl;rfl;rfl;rfl;(repeat (first|exact RAt.head|apply RAt.tail));intro es3 c4 hI3))<;>(refine go ?_;and_intros<;>(try exact trivial)<;>intros))
     exact J.fin (ih3 es3 c4 hI3)
  ·obtain rfl:i=n:=by omega
   rw [List.drop_eq_nil_of_le om,goC,Bool.true_and] at c2;clear ih2;all_goals (refine go ?_;and_intros<;>(try exact trivial)<;>intros)
   exact J.fin (ih' ⟨hk,c2⟩ om)
 ·rw [List.drop_eq_nil_of_le om,agrL] at e2
  subst e2;clear ih;all_goals (refine go ?_;and_intros<;>(try exact trivial)<;>intros)
  all_goals exact aA Tryz.func20 Tryz.results20 rfl
end Go.Proofs.YtjcecdmbfmccoaaGreatDoor
/-
 Contract of the law's table: the duration table of stages.
-/
namespace Go.Proofs
open Go.Sl
end Go.Proofs
namespace Go.Proofs.YtjcecdmbfmccoaaGreatDoor
open Go.RowKit Go.Sl Go.Num
def nIn (x:Int):List Int->Int
 | []=>0
 | y::r=>(if y=x then 1 else 0)+nIn x r
theorem oJ (x:Int):∀ l:List Int,0<=nIn x l/\nIn x l<=l.length
 | []=>⟨Int.le_refl _,Int.le_refl _⟩
 | y::r=>by
  have:=oJ x r;rw [nIn,List.length_cons];split<;>omega
def yH:Nat->List Int->List (Int×Int)
 | _,[]=>[]
 | s,n::r=>if 0 < n then ((s:Int),n)::yH (s+1) r else yH (s+1) r
def Dr (seg:List Int):List (Int×Int):=yH 0 ((List.range 1001).map fun s:Nat=>nIn (s:Int) seg)
theorem Hf (x:Int×Int):(hoV x).length=2:=rfl
def tJ (g:Int->Rat):Nat->List Int->Rat
 | _,[]=>0
 | s,n::r=>(n:Rat)*g s+tJ g (s+1) r
theorem Ch (g:Int->Rat):∀ (l:List Int) (s:Nat),(∀ x∈l,0<=x)->eX g (yH s l)=tJ g s l
 | [],_,_=>rfl
 | n::r,s,h=>by
  have ih:=Ch g r (s+1) fun x hx=>h x (mC _ hx)
  have:=h n (List.mem_cons_self ..);rw [yH,tJ];split
  ·rw [eX,ih]
  ·obtain rfl:n=0:=by omega
   rw [ih,Rat.intCast_zero];grind
theorem E3 (g:Int->Rat) (a b:Nat->Int):∀ (l:List Nat) (s:Nat),tJ g s (l.map fun x=>a x+b x)=tJ g s (l.map a)+tJ g s (l.map b)
 | [],_=>by simp [tJ,Rat.add_zero]
 | x::l,s=>by
  simp only [List.map_cons,tJ];rw [E3 g a b l (s+1),Rat.intCast_add];grind
theorem Ci (g:Int->Rat):∀ (l:List Nat) (s:Nat),tJ g s (l.map fun _=>0)=0
 | [],_=>rfl
 | x::l,s=>by
  simp only [List.map_cons,tJ];rw [Ci g l (s+1),Rat.intCast_zero];grind
theorem Cj (g:Int->Rat) (y:Int):∀ (n s:Nat),y < s->tJ g s ((List.range' s n).map fun x:Nat=>if y=(x:Int) then 1 else 0)=0
 | 0,_,_=>rfl
 | n+1,s,h=>by
  rw [List.range'_succ,List.map_cons,tJ,Cj g y n (s+1) om,if_neg om,Rat.intCast_zero];grind
theorem E4 (g:Int->Rat) (y:Int):∀ (n s:Nat),(s:Int)<=y->y < s+n->tJ g s ((List.range' s n).map fun x:Nat=>if y=(x:Int) then 1 else 0)=g y
 | 0,_,h1,h2=>by omega
 | n+1,s,h1,h2=>by
  rw [List.range'_succ,List.map_cons,tJ];by_cases h:y=s
  ·rw [Cj g y n (s+1) om,if_pos h,h];simp [Rat.add_zero]
  ·rw [E4 g y n (s+1) om om,if_neg h];simp [Rat.zero_add]
theorem E5 (g:Int->Rat) (n:Nat):∀ (seg:List Int),(∀ y∈seg,0<=y/\y < n)->tJ g 0 ((List.range' 0 n).map fun x:Nat=>nIn (x:Int) seg)=cC g seg
 | [],_=>Ci g _ 0
 | y::r,h=>by
  have h1:=h y (List.mem_cons_self ..);rw [cC,<- E5 g n r fun z hz=>h z (mC _ hz),<- E4 g y n 0 om om,<- E3]
  rfl
theorem N6 (seg:List Int):∀ x∈(List.range 1001).map fun s:Nat=>nIn (s:Int) seg,0<=x:=fun x hx=>by
 obtain ⟨s,_,rfl⟩:=List.mem_map.1 hx;exact (oJ _ seg).1
theorem wL (g:Int->Rat) {seg:List Int} (h:∀ y∈seg,0<=y/\y<=1000):eX g (Dr seg)=cC g seg:=by
 rw [Dr,Ch g _ 0 (N6 seg),List.range_eq_range'];exact E5 g 1001 seg fun y hy=>by have:=h y hy;omega
theorem Aq:∀ seg:List Int,cC (fun _=>1) seg=((seg.length:Int):Rat)
 | []=>rfl
 | y::r=>by rw [cC,Aq r,List.length_cons,show ((r.length+1:Nat):Int)=1+(r.length:Int) from by omega,Rat.intCast_add];rfl
theorem E6:∀ t:List (Int×Int),eX (fun _=>1) t=((iM t:Int):Rat)
 | []=>rfl
 | (x,n)::t=>by rw [eX,E6 t,iM,Rat.intCast_add];grind
theorem wM {seg:List Int} (h:∀ y∈seg,0<=y/\y<=1000):iM (Dr seg)=seg.length:=by
 have:=wL (fun _=>1) h
 rw [E6,Aq] at this;exact Rat.intCast_inj.1 this
theorem Ar:∀ (l:List Int) (s:Nat) {p:Int×Int},p∈yH s l->(s:Int)<=p.1/\p.1 < s+l.length/\0 < p.2/\p.2∈l
 | [],_,p,h=>by cases h
 | n::r,s,p,h=>by
  rw [yH] at h
  split at h
  ·rcases List.mem_cons.1 h with rfl|h
   ·rename_i h1
    exact ⟨Int.le_refl _,by rw [List.length_cons];dsimp only;omega,h1,List.mem_cons_self ..⟩
   ·have:=Ar r (s+1) h
    exact ⟨by omega,by rw [List.length_cons];omega,this.2.2.1,mC _ this.2.2.2⟩
  ·have:=Ar r (s+1) h
   exact ⟨by omega,by rw [List.length_cons];omega,this.2.2.1,mC _ this.2.2.2⟩
theorem qD:∀ (l:List Int) (s:Nat) (p:Option (Int×Int)),(∀ q,p=some q->q.1 < (s:Int))->cJ p (yH s l)=true
 | [],_,p,_=>by rw [yH];cases p<;>rfl
 | n::r,s,p,h=>by
  rw [yH];split
  ·have ih:=qD r (s+1) (some ((s:Int),n)) fun q hq=>by cases hq;dsimp only;omega
   cases p with
   | none=>show (true && cJ (some ((s:Int),n)) (yH (s+1) r))=true;rw [ih];rfl
   | some q=>show (decide (q.1 < (s:Int)) && cJ (some ((s:Int),n)) (yH (s+1) r))=true;rw [ih,dT (h q rfl)];rfl
  ·exact qD r (s+1) p fun q hq=>by have:=h q hq;omega
theorem JC {lo hi:Int}:∀ (seg:List Int) (C:List (Int×Int)),(∀ x,cnt x C=nIn x seg)->goC false lo hi C seg=true
 | [],_,_=>rfl
 | s::r,C,h=>by
  have h1:=h s;rw [nIn,if_pos rfl] at h1;have h2:=oJ s r;rw [goC,Dq,if_neg dc,dF om,Bool.not_false,Bool.true_and];refine JC r _ fun x=>?_
  have h3:=h x;rw [nIn] at h3;rw [fQ];by_cases hx:x=s
  ·subst hx;rw [if_pos rfl];omega
  ·rw [if_neg om] at h3;rw [if_neg hx];omega
theorem Hg {seg:List Int} (h:∀ y∈seg,0<=y/\y<=1000) (h0:0 < seg.length):(Dr seg).length≠0:=fun hz=>by
 have:=wM h;rw [List.length_eq_zero_iff.1 hz,iM] at this;omega
theorem As {seg:List Int}{p:Int×Int} (hp:p∈Dr seg):(0<=p.1/\p.1<=1000)/\1<=p.2/\p.2<=seg.length:=by
 have:=Ar _ 0 hp;rw [List.length_map,List.length_range] at this;obtain ⟨s,_,h2⟩:=List.mem_map.1 this.2.2.2;have:=oJ s seg;omega
theorem Ik {r:Rn}{seg:List Int} (h:∀ y∈seg,0<=y/\y<=1000) (h0:0 < seg.length) (hl:seg.length<=1402560) (ht:r.tab=Dr seg) (h1:r.to_=r.from_+seg.length) (h2:r.lo=0) (h3:r.hi=0):eB r=0:=by
 rw [eB,ht,if_neg (Hg h h0),if_neg,if_pos]
 ·exact ⟨qD _ 0 none (fun q hq=>by cases hq),by rw [wM h];omega,h2,h3⟩
 ·intro hb
  obtain ⟨p,hp,hb⟩:=List.any_eq_true.1 hb;have:=As hp;rw [nG,dT om,dT om] at hb;cases hb
def PtL:Int->List Int->List Rn->List Spn->Prop
 | _,hs,[],[]=>hs=[]
 | f,hs,r::L,s::l=>∃ n:Nat,0 < n/\n<=hs.length/\(r.from_=f/\r.to_=f+n/\r.tab=Dr (hs.take n)/\r.lo=0/\r.hi=0)/\(s.from_=f/\s.to_=f+n/\aQ s/\fewS s)/\PtL (f+n) (hs.drop n) L l
 | _,_,_,_=>False
theorem PtL.snoc:∀ {L:List Rn}{l:List Spn}{f:Int}{hs seg:List Int}{r:Rn}{s:Spn},PtL f hs L l->0 < seg.length ->
  (r.from_=f+hs.length/\r.to_=f+hs.length+seg.length/\r.tab=Dr seg/\r.lo=0/\r.hi=0)->(s.from_=f+hs.length/\s.to_=f+hs.length+seg.length/\aQ s/\fewS s)->PtL f (hs++seg) (L++[r]) (l++[s])
 | [],[],f,hs,seg,r,s,h,h0,h1,h2=>by
  obtain rfl:hs=[]:=h;simp only [List.length_nil,Int.natCast_zero,Int.add_zero] at h1 h2;exact ⟨seg.length,h0,by simp,by simpa using h1,h2,by simp [PtL]⟩
 | r0::L,s0::l,f,hs,seg,r,s,⟨n,k1,k2,k3,k4,k5⟩,h0,h1,h2=>by
  refine ⟨n,k1,by rw [List.length_append];omega,?_,k4,?_⟩
  ·rw [List.take_append_of_le_length k2];exact k3
  ·rw [List.drop_append_of_le_length k2]
   have hl:f+n+((hs.drop n).length:Int)=f+hs.length:=by rw [List.length_drop];omega
   exact PtL.snoc k5 h0 (by rw [hl];exact h1) (by rw [hl];exact h2)
 | [],_::_,_,_,_,_,_,h,_,_,_=>h.elim
 | _::_,[],_,_,_,_,_,h,_,_,_=>h.elim
def tK:List Rn->List Spn->Rat
 | r::L,s::l=>eX (bC s) r.tab+tK L l
 | _,_=>0
theorem At {l:List Spn}{x t st:Int} (h:aR x l) (ht:t < x):bH l t st=0:=by
 rw [bH,List.getElem?_eq_none (by rw [h.none ht];exact Nat.le_refl _)]
theorem xY {s:Spn}{l:List Spn}{f:Int}{n:Nat} (hs:s.from_=f) (ht:s.to_=f+n) (h:aR f (s::l)):∀ (seg:List Int),seg.length=n->aI (s::l) f seg=cC (bC s) seg:=fun seg hn=>by
 rw [tH (s::l) (bC s) (fun _=>0) seg f fun t h1 h2 x _=>?_]
 ·rw [show tS (fun _=>(0:Rat)) f seg.length=0 from ?_,Rat.add_zero]
  generalize seg.length=m;clear hn hs ht h
  induction m generalizing f with
  | zero=>rfl
  | succ m ih=>rw [tS,ih,Rat.add_zero]
 ·rw [lO h,if_pos (by rw [inS,dT om,dT om];rfl),At h.2.2 om]
theorem qE {s:Spn}{l:List Spn}{x:Int} (h:aR x (s::l)):∀ (hs:List Int) (f:Int),s.to_<=f->aI (s::l) f hs=aI l f hs
 | [],_,_=>rfl
 | y::r,f,hf=>by
  rw [aI,aI,qE h r (f+1) om,lO h,if_neg (by rw [inS,dF (show ¬ f < s.to_ by omega),Bool.and_false];decide),Rat.zero_add]
structure sQ (f:Int) (hs:List Int) (L:List Rn) (l:List Spn):Prop where
 ord:aR f l
 rng:∀ s∈l,(f<=s.from_/\s.to_<=f+hs.length)/\aQ s/\fewS s
 chn:Chn f L
 int:∀ r∈L,inT r=true
 one:∀ r∈L,eB r=0
 len:L.length=l.length
 fin:∀ (h:0 < L.length),(L[L.length-1]).to_=f+hs.length
 nil:L.length=0->hs=[]
 sep:∀ r∈L,r.tab.length≠0/\f<=r.from_/\∃ s,∀ t,r.from_<=t->t < r.to_->∀ st,bH l t st=bC s st
 sum:aI l f (oI L)=tK L l/\aI l f hs=tK L l
 tbl:∀ k (h1:k < L.length) (h2:k < l.length),L[k].from_=l[k].from_/\L[k].to_=l[k].to_
theorem PtL.ok:∀ {L:List Rn}{l:List Spn}{f:Int}{hs:List Int},PtL f hs L l->0<=f->f+hs.length<=1402560->(∀ y∈hs,0<=y/\y<=1000)->sQ f hs L l
 | [],[],f,hs,h,_,_,_=>by
  obtain rfl:hs=[]:=h;exact { ord:=trivial,rng:=fun s h=>by (cases h),chn:=trivial,int:=fun s h=>by (cases h),one:=fun s h=>by (cases h),len:=rfl,fin:=fun h=>absurd h (Nat.lt_irrefl _),nil:=fun _=>rfl,sep:=fun s h=>by (cases h),sum:=⟨rfl,rfl⟩,tbl:=fun k h1=>absurd h1 (Nat.not_lt_zero _) }
 | r::L,s::l,f,hs,⟨n,k1,k2,⟨a1,a2,a3,a4,a5⟩,⟨b1,b2,b3,b4⟩,k5⟩,h0,h1,h2=>by
  have hd:((hs.drop n).length:Int)=hs.length-n:=by rw [List.length_drop];omega
  have ih:=PtL.ok k5 om om fun y hy=>h2 y (List.mem_of_mem_drop hy)
  have hseg:∀ y∈hs.take n,0<=y/\y<=1000:=fun y hy=>h2 y (List.mem_of_mem_take hy)
  have hlen:(hs.take n).length=n:=by rw [List.length_take];omega
  have ho:aR f (s::l):=⟨by omega,by omega,by rw [b2];exact ih.ord⟩
  have h1e:eB r=0:=Ik hseg om om a3 (by rw [hlen];omega) a4 a5
  have hin:inT r=true:=dT om;have hne:r.tab.length≠0:=by rw [a3];exact Hg hseg om
  have hst:eU r=pB r.tab:=by rw [eU,if_neg hne]
  have hsl:(eU r).length=n:=by have:=qC hin h1e;omega
  have hpos:∀ x∈r.tab,1<=x.2:=fun x hx=>by rw [a3] at hx;exact (As hx).2.1
  exact {
   ord:=ho
   rng:=fun x hx=>by
    rcases List.mem_cons.1 hx with rfl|hx
    ·exact ⟨⟨by omega,by omega⟩,b3,b4⟩
    ·have:=ih.rng x hx;exact ⟨⟨by omega,by omega⟩,this.2⟩
   chn:=⟨a1,by rw [a2];exact ih.chn⟩
   int:=fun x hx=>by
    rcases List.mem_cons.1 hx with rfl|hx
    ·exact hin
    ·exact ih.int x hx
   one:=fun x hx=>by
    rcases List.mem_cons.1 hx with rfl|hx
    ·exact h1e
    ·exact ih.one x hx
   len:=by rw [List.length_cons,List.length_cons,ih.len]
   fin:=fun h=>by
    rcases Nat.eq_zero_or_pos L.length with hz|hz
    ·have:=ih.nil hz
     have hd2:=hd;rw [this,List.length_nil] at hd2;obtain rfl:=List.length_eq_zero_iff.1 hz;show r.to_=_
     omega
    ·have:=ih.fin hz
     have e:((r::L)[(r::L).length-1]'(by rw [List.length_cons];omega))=L[L.length-1]:=by
      simp only [List.length_cons,Nat.add_sub_cancel];rw [List.getElem_cons,dif_neg om]
     rw [e,this];omega
   nil:=fun h=>by rw [List.length_cons] at h;omega
   sep:=fun x hx=>by
    rcases List.mem_cons.1 hx with rfl|hx
    ·exact ⟨hne,by omega,s,fun t t1 t2 st=>by rw [lO ho,if_pos (by rw [inS,dT om,dT om];rfl),At ho.2.2 om,Rat.add_zero]⟩
    ·obtain ⟨c1,c2,s1,c3⟩:=ih.sep x hx
     exact ⟨c1,by omega,s1,fun t t1 t2 st=>by rw [lO ho,if_neg (by rw [inS,dF (show ¬ t < s.to_ by omega),Bool.and_false];decide),Rat.zero_add];exact c3 t t1 t2 st⟩
   sum:=by
    have e1:aI (s::l) f (eU r)=eX (bC s) r.tab:=by rw [xY b1 b2 ho _ hsl,hst,tI _ _ hpos]
    have e2:aI (s::l) f (hs.take n)=eX (bC s) r.tab:=by rw [xY b1 b2 ho _ hlen,a3,wL _ hseg]
    constructor
    ·rw [oI,fM,e1,hsl,qE ho _ _ om,ih.sum.1,tK]
    ·conv=>lhs;rw [<- List.take_append_drop n hs]
     rw [fM,e2,hlen,qE ho _ _ om,ih.sum.2,tK]
   tbl:=fun k q1 q2=>by
    cases k with
    | zero=>exact ⟨by show r.from_=s.from_;omega,by show r.to_=s.to_;omega⟩
    | succ k=>exact ih.tbl k (by simpa using q1) (by simpa using q2) }
 | [],_::_,_,_,h,_,_,_=>h.elim
 | _::_,[],_,_,h,_,_,_=>h.elim
section
variable {f:Int}{hs:List Int}{L:List Rn}{l:List Spn} (h:sQ f hs L l) (hf:0<=f) (hn:hs.length<=1000) (hb:f+hs.length<=1402560) (hL:L.length<=100)
include h hf hn hb hL
theorem sQ.runs:aX L=0:=by
 rw [aX,if_neg om,rN h.chn (fun q hq=>by cases hq) h.int h.one,if_neg dc,if_neg]
 rw [pA];rcases Nat.eq_zero_or_pos L.length with hz|hz
 ·rw [List.getElem?_eq_none om];exact (by decide:¬ (40000:Int) < 0)
 ·rw [gE hz,gE (show L.length-1 < L.length by omega)]
  have:=(h.sep _ (gM hz)).2.1;have:=h.fin hz;dsimp only;omega
theorem sQ.spans:aZ l=0:=by
 rw [aZ,if_neg (by have:=h.len;omega)]
 exact Cg.2 ⟨fun s hs=>(h.rng s hs).2.1,h.ord.mono hf⟩
theorem sQ.fewS:∀ s∈l,Proofs.YtjcecdmbfmccoaaGreatDoor.fewS s:=fun s hs=>(h.rng s hs).2.2
theorem sQ.right:∀ s∈l,aQ s:=fun s hs=>(h.rng s hs).2.1
theorem sQ.takeB:∀ r∈L,takeB l r:=fun r hr=>by
 rw [Ij (h.int r hr) h.ord (fun s hs=>(h.rng s hs).2.1)]
 obtain ⟨h1,_,s,h3⟩:=h.sep r hr;have h4:=h.int r hr;rw [inT,decide_eq_true_eq] at h4;rintro (⟨h2,_⟩|⟨_,k,h0,hk,_,j,_,hj,hne⟩)
 ·exact h1 h2
 ·rw [h3 _ (Int.le_refl _) om,h3 _ om hj,h3 _ (Int.le_refl _) om,h3 _ om hj] at hne
  exact hne (Rat.add_comm _ _)
theorem sQ.exact:exE L l=(rQ (tK L l),0):=by
 rw [exE,h.runs hf hn hb hL,if_neg dc,h.spans hf hn hb hL,if_neg dc,if_neg,if_pos (h.takeB hf hn hb hL),E0 h.ord (h.right hf hn hb hL) L f h.chn h.int h.one (h.takeB hf hn hb hL),h.sum.1];intro hx;obtain ⟨s,hs1,hs2⟩:=List.any_eq_true.1 hx;have h1:=(h.rng s hs1).1;have hz:0 < L.length:=by rw [h.len];exact List.length_pos_of_mem hs1
 rw [OC,gE hz,gE (show L.length-1 < L.length by omega)] at hs2
 have h2:=h.fin hz;have h3:L[0].from_=f:=by
  have:=h.chn;cases L with
  | nil=>cases hz
  | cons r t=>exact this.1
 dsimp only at hs2;rw [Bool.or_eq_true,decide_eq_true_eq,decide_eq_true_eq] at hs2;omega
theorem sQ.value (hr:∀ y∈hs,0<=y/\y<=1000):kI f hs l=(rQ (tK L l),0):=by
 have h2:dK f hs=true:=by
  rw [dK,dT om,Bool.true_and];have h3:hs.any jM=false:=List.any_eq_false.2 fun y hy=>by rw [jM,dT (hr y hy)];decide
  rw [h3];rfl
 rw [kI,h.spans hf hn hb hL,if_neg dc,h2,if_neg dc,if_neg,h.sum.2];intro hx;obtain ⟨s,hs1,hs2⟩:=List.any_eq_true.1 hx;have h1:=(h.rng s hs1).1;rw [pZ,Bool.or_eq_true,decide_eq_true_eq,decide_eq_true_eq] at hs2;omega
theorem sQ.R1 (k:Nat) (h1:k < L.length) (h2:k < l.length):J5 L[k] l[k]=(rQ (eX (bC l[k]) L[k].tab),0):=by
 have k1:=h.int _ (gM h1);have k2:=h.one _ (gM h1);have k3:=(h.sep _ (gM h1)).1;have k4:=(h.rng _ (gM h2)).2.1;have k5:=h.tbl k h1 h2;have k8:=h.runs hf hn hb hL;have k6:aX [L[k]]=0:=by
  rw [aX,if_neg (by simp),rN (L:=[L[k]]) (p:=none) (f:=L[k].from_) ⟨rfl,trivial⟩ (fun q hq=>by cases hq) (fun r hr=>by rw [List.mem_singleton.1 hr];exact k1) (fun r hr=>by rw [List.mem_singleton.1 hr];exact k2),if_neg dc,if_neg]
  have k7:=(h.sep _ (gM h1)).2.1;have k9:=(h.rng _ (gM h2)).1;show ¬ 40000 < L[k].to_-L[k].from_
  omega
 rw [J5,k6,if_neg dc,if_neg (fun h=>h k4),if_neg om,if_neg k3]
end
theorem E7 {s:Spn} (hf:fewS s) (hR:aQ s):∀ (hs:List Int),(∀ x∈hs,0<=x/\x<=1000)->aH (1+141*hs.length) (rQ (cC (bC s) hs))
 | [],_=>dX
 | x::hs,h=>by
  have h1:=E7 hf hR hs fun y hy=>h y (mC _ hy)
  have h2:=h x (List.mem_cons_self ..);rw [cC];exact aF (eT (nD hf hR h2.1 h2.2) h1 dc om) (by rw [List.length_cons];omega)
theorem PtL.few:∀ {L:List Rn}{l:List Spn}{f:Int}{hs:List Int},PtL f hs L l->(∀ y∈hs,0<=y/\y<=1000)->∀ k (h1:k < L.length) (h2:k < l.length),aH (1+141*hs.length) (rQ (eX (bC l[k]) L[k].tab))/\L[k].tab.length<=hs.length
 | r::L,s::l,f,hs,⟨n,k1,k2,⟨a1,a2,a3,a4,a5⟩,⟨b1,b2,b3,b4⟩,k5⟩,h,k,h1,h2=>by
  cases k with
  | zero =>
   have hseg:∀ y∈hs.take n,0<=y/\y<=1000:=fun y hy=>h y (List.mem_of_mem_take hy)
   have:=E7 b4 b3 (hs.take n) hseg;show aH _ (rQ (eX (bC s) r.tab))/\r.tab.length<=_
   rw [a3];refine ⟨by rw [wL _ hseg];exact aF this (by rw [List.length_take];omega),?_⟩
   have hq:∀ t:List (Int×Int),(∀ p∈t,1<=p.2)->(t.length:Int)<=iM t:=fun t=>by
    induction t with
    | nil=>intro _;exact Int.le_refl _
    | cons p t ih =>
     intro hp;have:=ih fun x hx=>hp x (mC _ hx)
     have:=hp p (List.mem_cons_self ..);rw [List.length_cons,iM];omega
   have:=hq (Dr (hs.take n)) fun p hp=>(As hp).2.1
   rw [wM hseg,List.length_take] at this;omega
  | succ k =>
   have:=PtL.few k5 (fun y hy=>h y (List.mem_of_mem_drop hy)) k (by simpa using h1) (by simpa using h2)
   rw [List.length_drop] at this;exact ⟨aF this.1 om,Nat.le_trans this.2 (Nat.sub_le _ _)⟩
 | [],_::_,_,_,h,_,_,_,_=>h.elim
 | _::_,[],_,_,h,_,_,_,_=>h.elim
end Go.Proofs.YtjcecdmbfmccoaaGreatDoor
/-
 Plain laws: histories that agree with runs,and what an exchange of stages changes.
-/
namespace Go.Proofs.YtjcecdmbfmccoaaGreatDoor
open Go.RowKit Go.Sl Go.Num
def wN (S:List Int) (p n:Nat):List Int:=(S.drop p).take n
theorem Au {S:List Int}{p n:Nat} (h:p+n<=S.length):(wN S p n).length=n:=by rw [wN,List.length_take,List.length_drop];omega
theorem E8 {S:List Int}{p n i:Nat} (h:p+n<=S.length) (hi:i < n):(wN S p n)[i]'(by rw [Au h];exact hi)=S[p+i]'om:=by
 simp [wN]
theorem nI {S:List Int}{p n x:Nat}{v:Int} (h:x < p∨p+n<=x):wN (S.set x v) p n=wN S p n:=by
 rw [wN,List.drop_set];split
 ·rfl
 ·rw [List.take_set,List.set_eq_of_length_le]
  ·rfl
  ·rw [List.length_take];omega
theorem Hh {S:List Int}{p n x:Nat}{v:Int} (h:p<=x):wN (S.set x v) p n=(wN S p n).set (x-p) v:=by
 rw [wN,List.drop_set,if_neg om,List.take_set];rfl
theorem uT {x:Int}{a b:List Int} (h:a.Perm b):nIn x a=nIn x b:=by
 induction h with
 | nil=>rfl
 | cons y _ ih=>rw [nIn,nIn,ih]
 | swap y z l=>rw [nIn,nIn,nIn,nIn];omega
 | trans _ _ h1 h2=>exact h1.trans h2
theorem Hi (x:Int):∀ a b:List Int,nIn x (a++b)=nIn x a+nIn x b
 | [],b=>by rw [List.nil_append,nIn,Int.zero_add]
 | y::a,b=>by rw [List.cons_append,nIn,nIn,Hi x a b,Int.add_assoc]
theorem Hj (x y:Int):∀ n:Nat,nIn x (List.replicate n y)=if y=x then (n:Int) else 0
 | 0=>by simp [nIn]
 | n+1=>by
  rw [List.replicate_succ,nIn,Hj x y n];split<;>omega
theorem Ds {x:Int}:∀ {l:List Int},0 < nIn x l ↔ x∈l
 | []=>by simp [nIn]
 | y::l=>by
  have h1:=oJ x l;have h2:=Ds (x:=x) (l:=l);rw [nIn,List.mem_cons,<- h2];by_cases h:y=x
  ·rw [if_pos h];exact ⟨fun _=>.inl h.symm,fun _=>by omega⟩
  ·rw [if_neg h];exact ⟨fun h3=>.inr om,fun h3=>h3.elim (fun h4=>absurd h4.symm h) fun h4=>by omega⟩
theorem yQ:∀ (t:List (Int×Int)) (q:Int×Int) {x:Int},cJ (some q) t=true->x<=q.1->cnt x t=0
 | [],_,_,_,_=>rfl
 | p::t,q,x,h,hx=>by
  rw [cJ,Bool.and_eq_true,decide_eq_true_eq] at h
  obtain ⟨y,n⟩:=p;rw [cnt,if_neg (by have:=h.1;dsimp only at this;omega)]
  exact yQ t (y,n) h.2 (by have:=h.1;dsimp only at this ⊢;omega)
theorem Ck:∀ (t:List (Int×Int)) (q:Int×Int) (L:List (Int×Int)),cJ (some q) t=true->(∀ x,q.1 < x->cnt x L=0)->∀ x,cnt x (lP L t)=if x<=q.1 then cnt x L else cnt x t
 | [],q,L,_,h,x=>by
  rw [lP];split
  ·rfl
  ·exact h x om
 | (y,n)::t,q,L,hs,h,x=>by
  rw [cJ,Bool.and_eq_true,decide_eq_true_eq] at hs;have hy:=hs.1;dsimp only at hy;rw [lP,Ck t (y,n) (pX y n L) hs.2 (fun z hz=>by dsimp only at hz;rw [fQ,if_neg om];exact h z om) x,fQ]
  dsimp only;by_cases h1:x<=q.1
  ·rw [if_pos om,if_neg om,if_pos h1]
  ·rw [if_neg h1,cnt]
   by_cases h2:x=y
   ·rw [if_pos om,if_pos h2,if_pos h2]
   ·rw [if_neg h2,if_neg h2]
    split
    ·rw [h x om,yQ t (y,n) hs.2 (by dsimp only;omega)]
    ·rfl
theorem rO {t:List (Int×Int)} (hs:cJ none t=true) (x:Int):cnt x (lP [] t)=cnt x t:=by
 cases t with
 | nil=>rfl
 | cons p t =>
  obtain ⟨y,n⟩:=p;rw [cJ,Bool.and_eq_true] at hs;rw [lP,Ck t (y,n) (pX y n []) hs.2 (fun z hz=>by dsimp only at hz;rw [fQ,if_neg om];rfl) x,fQ]
  rw [show cnt x ((y,n)::t)=if x=y then n else cnt x t from rfl]
  dsimp only;by_cases h2:x=y
  ·rw [if_pos om,if_pos h2,if_pos h2]
  ·rw [if_neg h2,if_neg h2]
   split
   ·rw [yQ t (y,n) hs.2 (by dsimp only;omega)];rfl
   ·rfl
theorem Av:∀ (t:List (Int×Int)) (q:Option (Int×Int)),cJ q t=true->(∀ p∈t,1<=p.2)->∀ x,nIn x (pB t)=cnt x t
 | [],_,_,_,_=>rfl
 | (y,n)::t,q,hs,hp,x=>by
  have h2:cJ (some (y,n)) t=true:=by unfold cJ at hs;rw [Bool.and_eq_true] at hs;exact hs.2
  have h3:=hp _ (List.mem_cons_self ..);have ih:=Av t (some (y,n)) h2 (fun p h=>hp p (mC _ h)) x
  dsimp only at h3;show nIn x (List.replicate n.toNat y++pB t)=_
  rw [Hi,Hj,ih,cnt];by_cases h:x=y
  ·rw [if_pos h.symm,if_pos h,yQ t (y,n) h2 (by dsimp only;omega)];omega
  ·rw [if_neg (fun e=>h e.symm),if_neg h,Int.zero_add]
def uV (r:Rn) (seg:List Int):Prop:=if r.tab.length=0 then (seg.length=(r.to_-r.from_).toNat/\∀ x∈seg,x=r.lo∨x=r.hi) else seg.Perm (pB r.tab)
def E9 (f:Int) (S:List Int) (rs:List Rn):Prop:=∀ k (hk:k < rs.length),uV rs[k] (wN S (rs[k].from_-f).toNat (rs[k].to_-rs[k].from_).toNat)
theorem Aw:∀ {L:List Rn}{f:Int},Chn f L->(∀ r∈L,inT r=true)->∀ i j (hij:i < j) (hj:j < L.length),f<=(L[i]'om).from_/\(L[i]'om).to_<=L[j].from_
 | r::t,f,h,h1,i,j,hij,hj=>by
  have h2:=h1 r (List.mem_cons_self ..);rw [inT,decide_eq_true_eq] at h2;have h3:=h.1;have hlow:∀ {M:List Rn}{g:Int},Chn g M->(∀ r∈M,inT r=true)->∀ k (hk:k < M.length),g<=M[k].from_:=fun {M}=>by
   induction M with
   | nil=>intro g _ _ k hk;exact absurd hk (Nat.not_lt_zero _)
   | cons x M ih =>
    intro g hg hM k hk;have h5:=hM x (List.mem_cons_self ..);rw [inT,decide_eq_true_eq] at h5;have h6:=hg.1;cases k with
    | zero=>show g<=x.from_;omega
    | succ k =>
     have:=ih hg.2 (fun y hy=>hM y (mC _ hy)) k (by simpa using hk)
     simp only [List.getElem_cons_succ];omega
  cases j with
  | zero=>omega
  | succ j =>
   cases i with
   | zero =>
    have:=hlow h.2 (fun y hy=>h1 y (mC _ hy)) j (by simpa using hj)
    exact ⟨by show f<=r.from_;omega,this⟩
   | succ i =>
    have:=Aw h.2 (fun y hy=>h1 y (mC _ hy)) i j om (by simpa using hj)
    simp only [List.getElem_cons_succ];exact ⟨by omega,this.2⟩
def EA:Int->List Int->List Rn->Prop
 | _,S,[]=>S=[]
 | f,S,r::t=>∃ n:Nat,r.from_=f/\r.to_=f+n/\n<=S.length/\uV r (S.take n)/\EA (f+n) (S.drop n) t
theorem E9.step {f0:Int}{S0:List Int}:∀ {rs:List Rn}{d:Nat},Chn (f0+d) rs->(∀ r∈rs,inT r=true)->(∀ r∈rs,eB r=0)->S0.length=d+(oI rs).length->(∀ k (hk:k < rs.length),uV rs[k] (wN S0 (rs[k].from_-f0).toNat (rs[k].to_-rs[k].from_).toNat))->EA (f0+d) (S0.drop d) rs
 | [],d,_,_,_,hl,_=>by
  rw [oI,List.length_nil] at hl;exact List.drop_eq_nil_of_le om
 | r::t,d,hc,hT,hO,hl,h=>by
  have h1:=hT r (List.mem_cons_self ..);have h2:=qC h1 (hO r (List.mem_cons_self ..));rw [inT,decide_eq_true_eq] at h1;have h3:=hc.1;rw [oI,List.length_append] at hl;have h4:=h 0 (Nat.zero_lt_succ _);simp only [List.getElem_cons_zero] at h4;have h5:r.to_=f0+((d+(r.to_-r.from_).toNat:Nat):Int):=by omega
  have h6:=hc.2;rw [h5] at h6;have ih:=E9.step (rs:=t) (d:=d+(r.to_-r.from_).toNat) h6 (fun x hx=>hT x (mC _ hx)) (fun x hx=>hO x (mC _ hx)) om fun k hk=>h (k+1) (by simpa using hk)
  refine ⟨(r.to_-r.from_).toNat,h3,by omega,by rw [List.length_drop];omega,?_,?_⟩
  ·rw [show (r.from_-f0).toNat=d by omega] at h4;exact h4
  ·rw [List.drop_drop,show f0+d+(((r.to_-r.from_).toNat:Nat):Int)=f0+((d+(r.to_-r.from_).toNat:Nat):Int) by omega]
   exact ih
theorem uV.first {r:Rn}:uV r (eU r):=by
 rw [uV,eU];split
 ·exact ⟨List.length_replicate,fun x hx=>.inl (List.eq_of_mem_replicate hx)⟩
 ·exact List.Perm.refl _
theorem Hk {lo hi:Int}:∀ (seg:List Int) (C:List (Int×Int)),(∀ x∈seg,lo<=x/\x<=hi)->goC true lo hi C seg=true
 | [],_,_=>rfl
 | s::r,C,h=>by
  rw [goC,Dq,if_pos rfl,dT (h s (List.mem_cons_self ..)),Bool.not_true,Bool.not_false,Bool.true_and];exact Hk r _ fun x hx=>h x (mC _ hx)
theorem uV.agr1 {r:Rn}{seg:List Int} (h1:eB r=0) (h:uV r seg):agr1 r seg=true:=by
 rw [uV] at h
 rw [Proofs.YtjcecdmbfmccoaaGreatDoor.agr1];by_cases h0:r.tab.length=0
 ·have:=Ak h1 h0
  rw [if_pos h0] at h
  rw [dT h0];exact Hk seg _ fun x hx=>by rcases h.2 x hx with rfl|rfl<;>omega
 ·obtain ⟨t1,t2,t3,_⟩:=fR h1 h0
  rw [if_neg h0] at h
  rw [dF h0];exact JC seg _ fun x=>by rw [rO t2,uT h,Av r.tab none t2 (fun p hp=>(t1 p hp).2.1)]
theorem uV.bd {r:Rn}{seg:List Int} (h1:eB r=0) (h:uV r seg):∀ x∈seg,0<=x/\x<=1000:=by
 rw [uV] at h
 by_cases h0:r.tab.length=0
 ·have:=Ak h1 h0
  rw [if_pos h0] at h
  intro x hx;rcases h.2 x hx with rfl|rfl<;>omega
 ·rw [if_neg h0] at h
  have:=FO h1;rw [eU,if_neg h0] at this;exact fun x hx=>this x (h.mem_iff.1 hx)
theorem EA.agrL {f0:Int}{S0:List Int}:∀ {rs:List Rn}{d:Nat},(∀ r∈rs,eB r=0)->EA (f0+d) (S0.drop d) rs->agrL f0 S0 rs=true
 | [],_,_,_=>rfl
 | r::t,d,hO,⟨n,h1,h2,h3,h4,h5⟩=>by
  rw [Proofs.YtjcecdmbfmccoaaGreatDoor.agrL,show (r.from_-f0).toNat=d by omega,show (r.to_-r.from_).toNat=n by omega,h4.agr1 (hO r (List.mem_cons_self ..)),Bool.true_and]
  rw [List.drop_drop,show f0+d+(n:Int)=f0+((d+n:Nat):Int) by omega] at h5
  exact EA.agrL (fun x hx=>hO x (mC _ hx)) h5
theorem EA.bd:∀ {rs:List Rn}{f:Int}{S:List Int},(∀ r∈rs,eB r=0)->EA f S rs->∀ x∈S,0<=x/\x<=1000
 | [],_,S,_,h,x,hx=>by rw [show S=[] from h] at hx;cases hx
 | r::t,f,S,hO,⟨n,h1,h2,h3,h4,h5⟩,x,hx=>by
  rw [<- List.take_append_drop n S] at hx;rcases List.mem_append.1 hx with hx|hx
  ·exact h4.bd (hO r (List.mem_cons_self ..)) x hx
  ·exact EA.bd (fun x hx=>hO x (mC _ hx)) h5 x hx
section
variable {f:Int}{S:List Int}{rs:List Rn} (hc:Chn f rs) (hT:∀ r∈rs,inT r=true)
include hc hT
theorem E9.set {p:Nat}{v:Int}{k:Nat} (hk:k < rs.length) (h:E9 f S rs) (hp1:(rs[k].from_-f).toNat<=p) (hp2:p < (rs[k].to_-f).toNat) (hn:uV rs[k] (wN (S.set p v) (rs[k].from_-f).toNat (rs[k].to_-rs[k].from_).toNat)):E9 f (S.set p v) rs:=fun j hj=>by
 rcases Nat.lt_trichotomy j k with hlt|rfl|hlt
 ·have:=Aw hc hT j k hlt hk
  have hin:=hT _ (gM hj);rw [inT,decide_eq_true_eq] at hin;rw [nI om];exact h j hj
 ·exact hn
 ·have:=Aw hc hT k j hlt hj
  have hin:=hT _ (gM hk);rw [inT,decide_eq_true_eq] at hin;rw [nI om];exact h j hj
theorem E9.swap {b n i j:Nat}{k:Nat} (hk:k < rs.length) (hb:rs[k].from_=f+b) (hn:rs[k].to_=rs[k].from_+n) (hS:b+n<=S.length) (h:E9 f S rs) (hi:i < n) (hj:j < n) (h0:rs[k].tab.length≠0):E9 f ((S.set (b+i) (S[b+j]'om)).set (b+j) (S[b+i]'om)) rs:=fun z hz=>by
 rcases Nat.lt_trichotomy z k with hlt|rfl|hlt
 ·have:=Aw hc hT z k hlt hk
  have hin:=hT _ (gM hz);rw [inT,decide_eq_true_eq] at hin;rw [nI om,nI om];exact h z hz
 ·have h1:=h z hz
  rw [uV,if_neg h0] at h1 ⊢;have e1:(rs[z].from_-f).toNat=b:=by omega
  have e2:(rs[z].to_-rs[z].from_).toNat=n:=by omega
  rw [e1,e2] at h1 ⊢;rw [Hh om,Hh om,show b+i-b=i by omega,show b+j-b=j by omega,<- E8 hS hi,<- E8 hS hj]
  exact (swap_perm _ i j (by rw [Au hS];exact hi) (by rw [Au hS];exact hj)).trans h1
 ·have:=Aw hc hT k z hlt hz
  have hin:=hT _ (gM hk);rw [inT,decide_eq_true_eq] at hin;rw [nI om,nI om];exact h z hz
end
end Go.Proofs.YtjcecdmbfmccoaaGreatDoor
/-
 Ranges over functions inside a round of another one.
-/
namespace Go.Sl
open Go.RowKit
variable {C:Ctx}{st:List (Nat×Value)}{M:List Row}{k:List Item}{q q':Md}{all rest:List Oper}{d:Nat}{ty:TypeId}{pos:String}{after:Array Edge}{gd:Option (Nat×Bool)}
theorem En.pre (T:List Row):∀ K:List Row,En T (K++T) K
 | []=>.nil
 | _::K=>.cons (En.pre T K)
theorem G.sA {T n:TypeId}{x y:Operand}{vs:List Value}{b j tot:Nat}{e:TypeId}{cs out:List Value}{F:Row->List Row} (hs:wqB all st gd q.res=some q')
  (hx:evS st x=some (.pointer (some ⟨b,j,none⟩))) (hy:evS st y=some (.agg vs.toArray)) (hm:RAt (.blk b e cs tot) M F) [hT:cP C.P T n] (hn:vs.length=n) (h1:vs.all (·.oneCell')=true) (hj:j+vs.length<=cs.length) (ho:dU cs j vs=out)
  (h:G q' C all st (F (.blk b e out tot)) rest k) :
  G q C all st M ({ dst:=none,op:=.store T x y,type:=ty,pos,after,guard:=gd }::rest) k:=by
 obtain ⟨g1,g2⟩:=pL hs;obtain ⟨i,h5,h6⟩:=hm.idx;subst ho;rw [<- h6] at h
 exact G.Qa (vs:=vs) g1 g2 hx h5 hy rfl h1 hj hn h
end Go.Sl
/-
 Plain: runs that are joined,cut,summarized and compared.
-/
namespace Go.Proofs.YtjcecdmbfmccoaaGreatDoor
open Go.RowKit Go.Sl Go.Num
def mkR (f t s:Int):Rn:=⟨f,t,[(s,t-f)],none,0,0,0⟩
def Il (a b:Rn):Bool:=if a.tab.length=1/\b.tab.length=1 then decide (stg a=stg b) else decide (a.tab.length=0/\b.tab.length=0/\a.lo=b.lo/\a.hi=b.hi)
def jnR (a b:Rn):Rn:=⟨a.from_,b.to_,if b.tab.length=0 then [] else [(stg b,b.to_-a.from_)],none,0,b.lo,b.hi⟩
def gI (l:List Rn) (x:Rn):List Rn:=match l.getLast? with
 | none=>[x]
 | some y=>if Il y x=true then l.dropLast++[jnR y x] else l++[x]
def lQ (o l:List Rn):List Rn:=l.foldl gI o
def oX (l:List Rn):List Rn:=lQ [] l
theorem rP (l:List Rn) (y x:Rn):gI (l++[y]) x=if Il y x=true then l++[jnR y x] else l++[y]++[x]:=by
 rw [gI,List.getLast?_concat];dsimp only;rw [List.dropLast_concat]
theorem Im (o:List Rn):lQ o []=o:=rfl
theorem oK (o:List Rn) (x:Rn) (l:List Rn):lQ o (x::l)=lQ (gI o x) l:=rfl
theorem Io (o a b:List Rn):lQ o (a++b)=lQ (lQ o a) b:=List.foldl_append
theorem Ip (a b:Rn):Il (gQ a) (gQ b)=Il a b:=rfl
theorem JD (a b:Rn):jnR (gQ a) (gQ b)=gQ (jnR a b):=rfl
theorem Iq (l:List Rn) (x:Rn):gI (l.map gQ) (gQ x)=(gI l x).map gQ:=by
 rcases jY l with rfl|⟨o,y,rfl⟩
 ·rfl
 ·rw [List.map_append,List.map_cons,List.map_nil,rP,rP,Ip,JD]
  split<;>simp
theorem FQ:∀ (l o:List Rn),lQ (o.map gQ) (l.map gQ)=(lQ o l).map gQ
 | [],_=>rfl
 | x::l,o=>by rw [List.map_cons,oK,oK,Iq,FQ l]
theorem JE (l:List Rn) (x:Rn):(gI l x).length<=l.length+1:=by
 rcases jY l with rfl|⟨o,y,rfl⟩
 ·exact Nat.le_refl _
 ·rw [rP];split<;>simp
theorem Cl:∀ (l o:List Rn),(lQ o l).length<=o.length+l.length
 | [],_=>Nat.le_refl _
 | x::l,o=>by
  have:=Cl l (gI o x);have:=JE o x;rw [oK,List.length_cons];omega
theorem Ir (l:List Rn):(oX l).length<=l.length:=by have:=Cl l [];simpa [oX] using this
def jZ (l:List Rn) (s:Int):Int:=match l with
 | []=>0
 | r::t=>cnt s r.tab+jZ t s
theorem uW (s:Int):∀ a b:List Rn,jZ (a++b) s=jZ a s+jZ b s
 | [],b=>by rw [List.nil_append,jZ,Int.zero_add]
 | r::a,b=>by rw [List.cons_append,jZ,jZ,uW s a b,Int.add_assoc]
def bX (l:List Rn):Rn:=(l.getLast?).getD (mkR 0 0 0)
def bI (l:List Rn):Rn:=l.headD (mkR 0 0 0)
def rowS (g:Nat->Nat):Nat->Nat
 | 0=>1
 | k+1=>g (k+1)+rowS g k
def OkR (r:Rn):Prop:=inT r=true/\eB r=0
def AgP (r:Rn) (A:List Int):Prop:=if r.tab.length=0 then A.length=(r.to_-r.from_).toNat/\∀ x∈A,r.lo<=x/\x<=r.hi else A.Perm (pB r.tab)
def AgS:List Rn->List Int->Prop
 | [],S=>S=[]
 | r::t,S=>∃ A B,S=A++B/\AgP r A/\AgS t B
theorem uX:∀ {a b:List Rn}{S:List Int},AgS (a++b) S ↔ ∃ A B,S=A++B/\AgS a A/\AgS b B
 | [],b,S=>⟨fun h=>⟨[],S,rfl,rfl,h⟩,fun ⟨A,B,h1,h2,h3⟩=>by rw [AgS] at h2;subst h2 h1;exact h3⟩
 | r::a,b,S=>by
  rw [List.cons_append,AgS];constructor
  ·rintro ⟨A,B,rfl,h2,h3⟩
   obtain ⟨A2,B2,rfl,h4,h5⟩:=uX.1 h3;exact ⟨A++A2,B2,(List.append_assoc ..).symm,⟨A,A2,rfl,h2,h4⟩,h5⟩
  ·rintro ⟨_,B,rfl,⟨A,A2,rfl,h2,h4⟩,h5⟩
   exact ⟨A,A2++B,List.append_assoc ..,h2,uX.2 ⟨A2,B,rfl,h4,h5⟩⟩
theorem Dt {r:Rn}{S:List Int}:AgS [r] S ↔ AgP r S:=by
 constructor
 ·rintro ⟨A,B,rfl,h2,h3⟩
  rw [AgS] at h3;subst h3;rw [List.append_nil];exact h2
 ·exact fun h=>⟨S,[],(List.append_nil _).symm,h,rfl⟩
theorem OkR.rng {r:Rn} (h:OkR r):0<=r.from_/\r.from_ < r.to_/\r.to_<=1402560:=by have:=h.1;rw [inT,decide_eq_true_eq] at this;exact this
theorem OkR.gap {r:Rn} (h:OkR r) (h0:r.tab.length=0):0<=r.lo/\r.lo<=r.hi/\r.hi<=1000:=by
 have:=h.2;rw [eB,if_pos h0] at this;split at this
 ·cases this
 ·omega
theorem OkR.raw {r:Rn} (h:OkR r) (h1:r.tab.length=1):wK r (stg r)/\0<=stg r/\stg r<=1000:=by
 obtain ⟨h2,_,h4,h5,h6⟩:=fR h.2 om;obtain ⟨f,t,tab,ad,cp,lo,hi⟩:=r
 match tab,h1 with
 | [(s,n)],_ =>
  have:=(h2 (s,n) (List.mem_cons_self ..)).1;dsimp only at h4 h5 h6 this;rw [iM,iM,Int.add_zero] at h4;dsimp only at h4;subst h4 h5 h6;exact ⟨⟨rfl,rfl,rfl⟩,this⟩
theorem AgP.len {r:Rn}{A:List Int} (h:OkR r) (ha:AgP r A):(A.length:Int)=r.to_-r.from_:=by
 have hr:=h.rng;rw [AgP] at ha;split at ha
 ·rw [ha.1];omega
 ·rename_i h0
  obtain ⟨h2,_,h4,_⟩:=fR h.2 h0;rw [ha.length_eq,nH _ fun x hx=>(h2 x hx).2.1,h4]
theorem AgP.bd {r:Rn}{A:List Int} (h:OkR r) (ha:AgP r A):∀ x∈A,0<=x/\x<=1000:=by
 intro x hx;rw [AgP] at ha;split at ha
 ·rename_i h0
  have:=h.gap h0;have:=ha.2 x hx;omega
 ·rename_i h0
  obtain ⟨m,hm⟩:=jG (ha.mem_iff.1 hx);exact ((fR h.2 h0).1 _ hm).1
theorem AgP.QD {r:Rn} (h:OkR r):AgP r (eU r):=by
 rw [AgP,eU];split
 ·rename_i h0
  have:=h.gap h0;exact ⟨List.length_replicate,fun x hx=>by rw [List.eq_of_mem_replicate hx];omega⟩
 ·exact List.Perm.refl _
theorem AgS.first:∀ {l:List Rn},(∀ r∈l,OkR r)->AgS l (oI l)
 | [],_=>rfl
 | r::t,h=>⟨_,_,rfl,AgP.QD (h r (List.mem_cons_self ..)),AgS.first fun x hx=>h x (mC _ hx)⟩
theorem AgS.bd':∀ {l:List Rn}{S:List Int},(∀ r∈l,OkR r)->AgS l S->∀ x∈S,0<=x/\x<=1000
 | [],S,_,h,x,hx=>by rw [AgS] at h;subst h;cases hx
 | r::t,S,h,⟨A,B,e,h1,h2⟩,x,hx=>by
  subst e;rcases List.mem_append.1 hx with hx|hx
  ·exact AgP.bd (h r (List.mem_cons_self ..)) h1 x hx
  ·exact AgS.bd' (fun y hy=>h y (mC _ hy)) h2 x hx
theorem AgP.raw {r:Rn}{A:List Int}{s:Int} (h:wK r s):AgP r A ↔ A=List.replicate (r.to_-r.from_).toNat s:=by
 rw [AgP,h.1];simp only [List.length_cons,List.length_nil,Nat.zero_add,Nat.one_ne_zero,if_false];rw [show pB [(s,r.to_-r.from_)]=List.replicate (r.to_-r.from_).toNat s by rw [rM,show pB []=[] from rfl,List.append_nil]]
 exact List.perm_replicate
def Cn:Int->List Rn->Int->Prop
 | f,[],t=>f=t
 | f,r::l,t=>r.from_=f/\Cn r.to_ l t
theorem Cn.app:∀ {a b:List Rn}{f t:Int},Cn f (a++b) t ↔ ∃ m,Cn f a m/\Cn m b t
 | [],b,f,t=>⟨fun h=>⟨f,rfl,h⟩,fun ⟨m,h1,h2⟩=>by rw [Cn] at h1;subst h1;exact h2⟩
 | r::a,b,f,t=>by
  rw [List.cons_append,Cn,Cn.app];exact ⟨fun ⟨h1,m,h2,h3⟩=>⟨m,⟨h1,h2⟩,h3⟩,fun ⟨m,⟨h1,h2⟩,h3⟩=>⟨h1,m,h2,h3⟩⟩
theorem Cn.one {r:Rn}{f t:Int}:Cn f [r] t ↔ r.from_=f/\r.to_=t:=Iff.rfl
theorem Cn.le:∀ {l:List Rn}{f t:Int},Cn f l t->(∀ r∈l,OkR r)->f+l.length<=t
 | [],f,t,h,_=>by rw [Cn] at h;rw [List.length_nil];omega
 | r::l,f,t,h,ho=>by
  have h1:=(ho r (List.mem_cons_self ..)).rng;have h2:=h.2.le fun x hx=>ho x (mC _ hx)
  have:=h.1;rw [List.length_cons];omega
theorem FR (l:List Rn) (x:Rn):bX (l++[x])=x:=by rw [bX,List.getLast?_concat];rfl
theorem Cn.last {l:List Rn}{f t:Int} (h:Cn f l t) (h0:l≠[]):(bX l).to_=t:=by
 rcases jY l with rfl|⟨o,y,rfl⟩
 ·exact absurd rfl h0
 ·obtain ⟨m,_,h2⟩:=Cn.app.1 h
  rw [FR];exact h2.2
theorem Cn.first {l:List Rn}{f t:Int} (h:Cn f l t) (h0:l≠[]):(bI l).from_=f/\Al l=f:=by
 cases l with
 | nil=>exact absurd rfl h0
 | cons r l=>exact ⟨h.1,h.1⟩
theorem yR {l:List Rn} (h0:l≠[]):pA l=(bX l).to_-(bI l).from_:=by
 cases l with
 | nil=>exact absurd rfl h0
 | cons r t =>
  unfold pA;rw [<- List.getLast?_eq_getElem?]
  have:(r::t).getLast?=some (bX (r::t)):=by rw [bX,List.getLast?_eq_some_getLast h0];rfl
  rw [this];rfl
theorem MK:∀ {l:List Rn}{f:Int},Chn f l->l≠[]->Cn f l (bX l).to_
 | [r],f,h,_=>⟨h.1,rfl⟩
 | r::s::l,f,h,_=>by
  have:=MK (l:=s::l) h.2 (List.cons_ne_nil _ _);refine ⟨h.1,?_⟩;rw [show bX (r::s::l)=bX (s::l) by rw [bX,bX,List.getLast?_cons_cons]]
  exact this
theorem gK {l:List Rn} (h:aX l=0):(∀ r∈l,OkR r)/\l.length<=2000/\(l≠[]->Cn (bI l).from_ l (bX l).to_/\(bX l).to_-(bI l).from_<=40000):=by
 obtain ⟨h1,h2,h3⟩:=jQ h;refine ⟨fun r hr=>⟨h2 r hr,xW h r hr⟩,h1,fun h0=>⟨?_,by rw [<- yR h0];exact h3⟩⟩
 have h4:Chn (Al l) l:=FP (p:=none) (tG h);have h5:=MK h4 h0;have h6:=h5.first h0
 rw [h6.1];exact h5
theorem AgS.len:∀ {l:List Rn}{S:List Int}{f t:Int},Cn f l t->(∀ r∈l,OkR r)->AgS l S->f+S.length=t
 | [],S,f,t,h,_,ha=>by rw [Cn] at h;rw [AgS] at ha;subst ha h;rw [List.length_nil];omega
 | r::l,S,f,t,h,ho,⟨A,B,e,h1,h2⟩=>by
  subst e;have h3:=AgP.len (ho r (List.mem_cons_self ..)) h1;have h4:=AgS.len h.2 (fun x hx=>ho x (mC _ hx)) h2
  have:=h.1;rw [List.length_append];omega
theorem N7 {a b:Rn} (ha:OkR a) (hb:OkR b) (hj:Il a b=true) (h:b.from_=a.to_):OkR (jnR a b)/\(∀ A B,AgP a A->AgP b B->AgP (jnR a b) (A++B))/\(∀ s,cnt s (jnR a b).tab=cnt s a.tab+cnt s b.tab)/\(jnR a b).tab.length=a.tab.length:=by
 have r1:=ha.rng;have r2:=hb.rng;rw [Il] at hj;split at hj
 ·rename_i h1
  rw [decide_eq_true_eq] at hj;obtain ⟨⟨a1,a2,a3⟩,a4⟩:=ha.raw h1.1;obtain ⟨⟨b1,b2,b3⟩,b4⟩:=hb.raw h1.2;rw [hj] at a1;have e1:(jnR a b).tab=[(stg b,(jnR a b).to_-(jnR a b).from_)]:=by rw [jnR,if_neg om]
  have e2:wK (jnR a b) (stg b):=⟨e1,b2,b3⟩;have e3:stg (jnR a b)=stg b:=by rw [stg,e1];rfl
  refine ⟨⟨?_,JA (by rw [e3];exact e2) (by rw [e3];exact b4) ?_⟩,fun A B hA hB=>?_,fun s=>?_,by rw [e1,h1.1];rfl⟩
  ·rw [inT,decide_eq_true_eq];show 0<=a.from_/\a.from_ < b.to_/\b.to_<=1402560;omega
  ·show 0<=a.from_/\a.from_ < b.to_/\b.to_<=1402560;omega
  ·rw [AgP.raw ⟨a1,a2,a3⟩] at hA
   rw [AgP.raw ⟨b1,b2,b3⟩] at hB;subst hA hB;rw [AgP.raw e2,List.replicate_append_replicate];congr 1;show _=(b.to_-a.from_).toNat
   omega
  ·rw [e1,a1,b1]
   simp only [cnt];show (if s=stg b then b.to_-a.from_ else 0)=_
   split<;>omega
 ·rw [decide_eq_true_eq] at hj
  obtain ⟨h1,h2,h3,h4⟩:=hj;have g1:=hb.gap h2;have e1:(jnR a b).tab=[]:=by rw [jnR,if_pos h2]
  have e0:(jnR a b).tab.length=0:=by rw [e1];rfl
  refine ⟨⟨?_,?_⟩,fun A B hA hB=>?_,fun s=>?_,by rw [e0,h1]⟩
  ·rw [inT,decide_eq_true_eq];show 0<=a.from_/\a.from_ < b.to_/\b.to_<=1402560;omega
  ·rw [eB,if_pos e0,if_neg]
   show ¬ (b.lo < 0∨b.hi < b.lo∨1000 < b.hi)
   omega
  ·rw [AgP,if_pos h1] at hA
   rw [AgP,if_pos h2] at hB;rw [AgP,if_pos e0];refine ⟨?_,fun x hx=>?_⟩
   ·rw [List.length_append,hA.1,hB.1]
    show _=(b.to_-a.from_).toNat
    omega
   ·show b.lo<=x/\x<=b.hi
    rcases List.mem_append.1 hx with hx|hx
    ·have:=hA.2 x hx;omega
    ·exact hB.2 x hx
  ·rw [e1,List.length_eq_zero_iff.1 h1,List.length_eq_zero_iff.1 h2];rfl
structure Jnd (f t:Int) (o:List Rn) (S:List Int->Prop) (c:Int->Int) (g:Prop):Prop where
 cn:Cn f o t
 ok:∀ r∈o,OkR r
 ag:∀ A,S A->AgS o A
 tot:∀ s,jZ o s=c s
 gp:g->∀ r∈o,r.tab.length≠0
theorem LC {f m:Int}{o:List Rn}{x:Rn} (h1:Cn f o m) (h2:∀ r∈o,OkR r) (h3:OkR x) (h4:x.from_=m) :
  Cn f (gI o x) x.to_/\(∀ r∈gI o x,OkR r)/\(∀ S A,AgS o S->AgP x A->AgS (gI o x) (S++A))/\(∀ s,jZ (gI o x) s=jZ o s+cnt s x.tab)/\((∀ r∈o,r.tab.length≠0)->x.tab.length≠0->∀ r∈gI o x,r.tab.length≠0):=by
 have key:Cn f (o++[x]) x.to_/\(∀ r∈o++[x],OkR r)/\(∀ S A,AgS o S->AgP x A->AgS (o++[x]) (S++A))/\(∀ s,jZ (o++[x]) s=jZ o s+cnt s x.tab)/\((∀ r∈o,r.tab.length≠0)->x.tab.length≠0->∀ r∈o++[x],r.tab.length≠0):=by
  refine ⟨Cn.app.2 ⟨m,h1,h4,rfl⟩,fun r hr=>?_,fun S A hS hA=>uX.2 ⟨S,A,rfl,hS,Dt.2 hA⟩,fun s=>?_,fun q1 q2 r hr=>?_⟩
  ·rcases List.mem_append.1 hr with hr|hr
   ·exact h2 r hr
   ·rw [List.mem_singleton.1 hr];exact h3
  ·rw [uW,jZ,jZ,Int.add_zero]
  ·rcases List.mem_append.1 hr with hr|hr
   ·exact q1 r hr
   ·rw [List.mem_singleton.1 hr];exact q2
 rcases jY o with rfl|⟨o,y,rfl⟩
 ·exact key
 rw [rP];split
 ·rename_i hj
  obtain ⟨n,e1,e2,e3⟩:=Cn.app.1 h1;rw [Cn] at e3;have hy:=h2 y (by simp)
  obtain ⟨j1,j2,j3,j4⟩:=N7 hy h3 hj om;refine ⟨Cn.app.2 ⟨n,e1,e2,rfl⟩,fun r hr=>?_,fun S A hS hA=>?_,fun s=>?_,fun q1 _ r hr=>?_⟩
  ·rcases List.mem_append.1 hr with hr|hr
   ·exact h2 r (List.mem_append_left _ hr)
   ·rw [List.mem_singleton.1 hr];exact j1
  ·obtain ⟨S1,S2,rfl,e4,e5⟩:=uX.1 hS
   exact uX.2 ⟨S1,S2++A,List.append_assoc ..,e4,Dt.2 (j2 _ _ (Dt.1 e5) hA)⟩
  ·rw [uW,uW,jZ,jZ,jZ,jZ,Int.add_zero,Int.add_zero,j3];omega
  ·rcases List.mem_append.1 hr with hr|hr
   ·exact q1 r (List.mem_append_left _ hr)
   ·rw [List.mem_singleton.1 hr,j4];exact q1 y (by simp)
 ·exact key
theorem EB:∀ {l o:List Rn}{f m t:Int},Cn f o m->(∀ r∈o,OkR r)->Cn m l t->(∀ r∈l,OkR r) ->
  Cn f (lQ o l) t/\(∀ r∈lQ o l,OkR r)/\(∀ S A,AgS o S->AgS l A->AgS (lQ o l) (S++A))/\(∀ s,jZ (lQ o l) s=jZ o s+jZ l s)/\((∀ r∈o,r.tab.length≠0)->(∀ r∈l,r.tab.length≠0)->∀ r∈lQ o l,r.tab.length≠0)
 | [],o,f,m,t,h1,h2,h3,_=>by
  rw [Cn] at h3;subst h3;rw [Im];exact ⟨h1,h2,fun S A hS hA=>by rw [AgS] at hA;subst hA;rw [List.append_nil];exact hS,fun s=>by rw [jZ,Int.add_zero],fun q _=>q⟩
 | x::l,o,f,m,t,h1,h2,h3,h4=>by
  have hx:=h4 x (List.mem_cons_self ..);obtain ⟨p1,p2,p3,p4,p5⟩:=LC h1 h2 hx h3.1;obtain ⟨q1,q2,q3,q4,q5⟩:=EB p1 p2 h3.2 fun r hr=>h4 r (mC _ hr)
  rw [oK];refine ⟨q1,q2,fun S A hS hA=>?_,fun s=>?_,fun g1 g2=>q5 (p5 g1 (g2 x (List.mem_cons_self ..))) fun r hr=>g2 r (mC _ hr)⟩
  ·obtain ⟨A1,A2,rfl,e1,e2⟩:=hA
   rw [<- List.append_assoc];exact q3 _ _ (p3 _ _ hS e1) e2
  ·rw [q4,p4,jZ,Int.add_assoc]
theorem JF {l:List Rn}{f t:Int} (h1:Cn f l t) (h2:∀ r∈l,OkR r):Cn f (oX l) t/\(∀ r∈oX l,OkR r)/\(∀ A,AgS l A->AgS (oX l) A)/\(∀ s,jZ (oX l) s=jZ l s)/\((∀ r∈l,r.tab.length≠0)->∀ r∈oX l,r.tab.length≠0):=by
 obtain ⟨q1,q2,q3,q4,q5⟩:=EB (o:=[]) (f:=f) rfl (fun r hr=>by cases hr) h1 h2
 exact ⟨q1,q2,fun A hA=>q3 [] A rfl hA,fun s=>by rw [oX,q4,jZ,Int.zero_add],q5 fun r hr=>by cases hr⟩
theorem xZ {lo hi:Int}:∀ (seg:List Int) (C:List (Int×Int)),goC true lo hi C seg=true ↔ ∀ x∈seg,lo<=x/\x<=hi
 | [],_=>⟨fun _ x hx=>(by cases hx),fun _=>rfl⟩
 | s::r,C=>by
  rw [goC,Bool.and_eq_true,xZ r,Dq,if_pos rfl,Bool.not_not,decide_eq_true_eq];exact ⟨fun ⟨h1,h2⟩ x hx=>(List.mem_cons.1 hx).elim (fun e=>e ▸ h1) (h2 x),fun h=>⟨h s (List.mem_cons_self ..),fun x hx=>h x (mC _ hx)⟩⟩
theorem qF {lo hi:Int}:∀ (seg:List Int) (C:List (Int×Int)),(∀ x,0<=cnt x C)->(goC false lo hi C seg=true ↔ ∀ x,nIn x seg<=cnt x C)
 | [],C,h=>⟨fun _ x=>h x,fun _=>rfl⟩
 | s::r,C,h=>by
  have hs:=h s;rw [goC,Bool.and_eq_true,Dq,if_neg dc,Bool.not_eq_true',decide_eq_false_iff_not];constructor
  ·rintro ⟨h1,h2⟩ x
   have h3:=(qF r (pX s (cnt s C-1) C) fun y=>by rw [fQ];have:=h y;split<;>omega).1 h2 x
   rw [fQ] at h3;rw [nIn];by_cases hx:x=s
   ·subst hx;rw [if_pos rfl] at h3 ⊢;omega
   ·rw [if_neg hx] at h3;rw [if_neg (fun e=>hx e.symm)];omega
  ·intro h1
   have h2:=h1 s;have h3:=oJ s r;rw [nIn,if_pos rfl] at h2;refine ⟨by omega,(qF r (pX s (cnt s C-1) C) fun y=>by rw [fQ];have:=h y;split<;>omega).2 fun x=>?_⟩
   have h4:=h1 x;rw [nIn] at h4;rw [fQ];by_cases hx:x=s
   ·subst hx;rw [if_pos rfl] at h4 ⊢;omega
   ·rw [if_neg (fun e=>hx e.symm)] at h4;rw [if_neg hx];omega
theorem Du:∀ {a b:List Int},a.length=b.length->(∀ x,nIn x a<=nIn x b)->a.Perm b
 | [],b,h,_=>by rw [List.length_eq_zero_iff.1 h.symm]
 | x::a,b,h,h1=>by
  have hx:x∈b:=by
   have:=h1 x;have h2:=oJ x a;rw [nIn,if_pos rfl] at this;exact Ds.1 om
  have hp:=List.perm_cons_erase hx;refine List.Perm.trans (List.Perm.cons x (Du (a:=a) (b:=b.erase x) ?_ fun y=>?_)) hp.symm
  ·rw [List.length_erase_of_mem hx]
   rw [List.length_cons] at h;omega
  ·have h3:=h1 y
   rw [uT hp,nIn,nIn] at h3;omega
theorem JG {t:List (Int×Int)} (h:∀ p∈t,1<=p.2) (x:Int):0<=cnt x t:=by
 induction t with
 | nil=>exact Int.le_refl _
 | cons p t ih =>
  obtain ⟨y,n⟩:=p;have:=h (y,n) (List.mem_cons_self ..);have:=ih fun q hq=>h q (mC _ hq)
  rw [cnt];dsimp only at *;split<;>omega
theorem yS {r:Rn} (h:OkR r) (h0:r.tab.length≠0) (x:Int):nIn x (pB r.tab)=cnt x r.tab:=by
 obtain ⟨h2,h3,_⟩:=fR h.2 h0;exact Av _ none h3 (fun p hp=>(h2 p hp).2.1) x
theorem EC {r:Rn}{seg:List Int} (h:OkR r) (hl:(seg.length:Int)=r.to_-r.from_):agr1 r seg=true ↔ AgP r seg:=by
 rw [agr1,AgP];by_cases h0:r.tab.length=0
 ·rw [if_pos h0,dT h0,xZ]
  exact ⟨fun h=>⟨by omega,h⟩,fun h=>h.2⟩
 ·obtain ⟨h2,h3,h4,_⟩:=fR h.2 h0
  rw [if_neg h0,dF h0,qF _ _ fun x=>by rw [rO h3];exact JG (fun p hp=>(h2 p hp).2.1) x]
  constructor
  ·intro h5
   refine Du ?_ fun x=>?_
   ·have:=nH _ fun x hx=>(h2 x hx).2.1
    omega
   ·have:=h5 x
    rw [rO h3] at this;rw [yS h h0];exact this
  ·intro h5 x
   rw [rO h3,<- yS h h0,uT h5];exact Int.le_refl _
theorem Ax {f:Int}{hs:List Int}:∀ {L:List Rn}{d:Nat},Cn (f+d) L (f+hs.length)->(∀ r∈L,OkR r)->(agrL f hs L=true ↔ AgS L (hs.drop d))
 | [],d,h,_=>by
  rw [Cn] at h
  rw [AgS,List.drop_eq_nil_of_le om];exact ⟨fun _=>rfl,fun _=>rfl⟩
 | r::t,d,h,ho=>by
  have h1:=ho r (List.mem_cons_self ..);have h2:=h1.rng;have h3:=h.1;have h4:=h.2.le fun x hx=>ho x (mC _ hx)
  have h5:r.to_=f+((d+(r.to_-r.from_).toNat:Nat):Int):=by omega
  have h6:=h.2;rw [h5] at h6;have ih:=Ax (L:=t) (d:=d+(r.to_-r.from_).toNat) h6 fun x hx=>ho x (mC _ hx)
  have h7:(((hs.drop d).take (r.to_-r.from_).toNat).length:Int)=r.to_-r.from_:=by rw [List.length_take,List.length_drop];omega
  rw [agrL,Bool.and_eq_true,ih,show (r.from_-f).toNat=d by omega,EC h1 h7,AgS]
  constructor
  ·rintro ⟨e1,e2⟩
   exact ⟨_,_,by rw [<- List.drop_drop,List.take_append_drop],e1,e2⟩
  ·rintro ⟨A,B,e1,e2,e3⟩
   have e4:=AgP.len h1 e2;have e5:(r.to_-r.from_).toNat=A.length:=by omega
   rw [e5,<- List.drop_drop,e1,List.take_left,List.drop_left];exact ⟨e2,e3⟩
theorem Ay {rs:List Rn}{f:Int}{hs:List Int} (h:aX rs=0) (h0:rs≠[]):dP rs f hs=true ↔ f=(bI rs).from_/\AgS rs hs:=by
 obtain ⟨h1,h2,h3⟩:=gK h;obtain ⟨h4,h5⟩:=h3 h0;have hp:0 < rs.length:=List.length_pos_iff.2 h0;have e0:rs[0]?=some (bI rs):=by cases rs with
  | nil=>exact absurd rfl h0
  | cons r t=>rfl
 have e1:rs[rs.length-1]?=some (bX rs):=by
  rw [<- List.getLast?_eq_getElem?,bX,List.getLast?_eq_some_getLast h0];rfl
 rw [dP,e0,e1];dsimp only;constructor
 ·intro h6
  split at h6
  ·cases h6
  split at h6
  ·cases h6
  rename_i h7 h8;rw [not_or,Decidable.not_not,Decidable.not_not] at h8;refine ⟨h8.1,?_⟩;have h9:=(Ax (f:=f) (hs:=hs) (L:=rs) (d:=0) (by rw [Int.natCast_zero,Int.add_zero,h8.1,show (bI rs).from_+(hs.length:Int)=(bX rs).to_ by omega];exact h4) h1).1 h6
  rw [List.drop_zero] at h9;exact h9
 ·rintro ⟨rfl,h6⟩
  have h7:=AgS.len h4 h1 h6;have h8:=(h1 _ (List.mem_of_getElem? e0)).rng;have h9:=(h1 _ (List.mem_of_getElem? e1)).rng;have hr:dK (bI rs).from_ hs=true:=by
   rw [dK,Bool.and_eq_true,decide_eq_true_eq,Bool.not_eq_true'];refine ⟨by omega,List.any_eq_false.2 fun x hx=>?_⟩
   have:=AgS.bd' h1 h6 x hx;rw [jM,dT this];decide
  rw [if_neg (by rw [h,hr];simp),if_neg (by rw [not_or,Decidable.not_not,Decidable.not_not];omega)]
  have h9:=(Ax (f:=(bI rs).from_) (hs:=hs) (L:=rs) (d:=0) (by rw [Int.natCast_zero,Int.add_zero,h7];exact h4) h1).2
  rw [List.drop_zero] at h9;exact h9 h6
theorem Az (f:Int) (hs:List Int):dP [] f hs=(dK f hs && decide (hs.length=0)):=by
 rw [dP];cases h:dK f hs
 ·rw [if_pos (.inr rfl)];rfl
 ·rw [if_neg (by rw [show aX []=0 from rfl];simp)];rfl
section
variable {C:Ctx}{st:List (Nat×Value)}{M:List Row}{k:List Item}{q q':Md}{all rest:List Oper}{d:Nat}{ty:TypeId}{pos:String}{after:Array Edge}{gd:Option (Nat×Bool)}
abbrev Pg (N:Nat) (L:List Rn):Row:=iI N Rn.adr 2 (fun r:Rn=>r.tab.map hoV) L
def nJ (n:Nat) (L0 L:List Rn):Prop:=∀ r∈L,r.tab.length=0∨(∀ p,r.adr=some p->n<=p.block)∨∃ r'∈L0,r'.adr=r.adr/\r'.tab=r.tab
theorem nJ.mono {n m:Nat}{L0 L1 L:List Rn} (h:nJ n L0 L) (h1:m<=n) (h2:∀ r∈L0,r∈L1):nJ m L1 L:=fun r hr=>(h r hr).imp id (Or.imp (fun h p hp=>Nat.le_trans h1 (h p hp)) fun ⟨r',h3,h4⟩=>⟨r',h2 r' h3,h4⟩)
theorem nJ.nil {n:Nat}{L0:List Rn}:nJ n L0 []:=fun r hr=>by cases hr
theorem nJ.app {n:Nat}{L0 a b:List Rn} (h1:nJ n L0 a) (h2:nJ n L0 b):nJ n L0 (a++b):=fun r hr=>(List.mem_append.1 hr).elim (h1 r) (h2 r)
theorem nJ.sub {n:Nat}{L0 a b:List Rn} (h1:nJ n L0 a) (h2:∀ r∈b,r∈a):nJ n L0 b:=fun r hr=>h1 r (h2 r hr)
theorem nJ.one {n:Nat}{L0:List Rn}{r:Rn} (h:r.tab.length=0∨(∀ p,r.adr=some p->n<=p.block)∨∃ r'∈L0,r'.adr=r.adr/\r'.tab=r.tab):nJ n L0 [r]:=fun r hr=>by rw [List.mem_singleton.1 hr];exact h
theorem nJ.comp {n:Nat}{L0 L1 L:List Rn} (h:nJ n L0 L) (h1:nJ n L1 L0):nJ n L1 L:=fun r hr=>by
 rcases h r hr with h2|h2|⟨r',h2,h3,h4⟩
 ·exact .inl h2
 ·exact .inr (.inl h2)
 ·have:=h1 r' h2
  rw [h3,h4] at this;exact this
theorem aE.lt {w:World}{a:Option Addr}{sz:Nat}{L:List (List Value)} (h:aE w a sz L) (h0:0 < L.length):∀ p,a=some p->p.block < w.heap.size:=fun p hp=>by
 obtain ⟨b,off,e,hr⟩:=h h0;rw [e] at hp;cases hp;exact (hr 0 _ (gE h0)).1
def OE (L0:List Rn) (P:List Rn->Prop) (v:Option Addr->Nat->Nat->Value) (w:World) (e:Ending) (w':World):Prop :=
 ∃ L a' c',P L/\e=.returned (v a' L.length c')/\aW w' a' L/\((∀ p,a'=some p->w.heap.size<=p.block)/\L.length<=c')/\nJ w.heap.size L0 L/\Below w.heap.size w w'
end
theorem aW.of {w0 w:World}{M:List Row}{N:Nat}{a:Option Addr}{L:List Rn} (hw:Sat w0 M w) (h1:aL N a 5 (L.map rnV)∈M:=by exact mm) (h2:Pg N L∈M:=by exact mm):aW w a L:=⟨hw.sl h1,fun r hr=>hw.fam h2 r hr⟩
def LD (N:Nat) (L:List Rn):Prop:=∀ r∈L,∀ p,r.adr=some p->N<=p.block
theorem LD.app {N:Nat}{a b:List Rn} (h1:LD N a) (h2:LD N b):LD N (a++b):=fun r hr=>(List.mem_append.1 hr).elim (h1 r) (h2 r)
section
variable {C:Ctx}{st:List (Nat×Value)}{M:List Row}{k:List Item}{q q':Md}{all rest:List Oper}{d:Nat}{ty:TypeId}{pos:String}{after:Array Edge}{gd:Option (Nat×Bool)}
end
theorem FS {l:List Rn}{n:Nat} (h:n < l.length):oX ((l.take (n+1)).map gQ)=gI (oX ((l.take n).map gQ)) (gQ l[n]):=by
 rw [List.take_add_one,gE h,List.map_append,oX,Io];rfl
theorem Hl {r:Rn}:OkR (gQ r) ↔ OkR r:=Iff.rfl
theorem Dv:∀ {l:List Rn}{f t:Int},Cn f (l.map gQ) t ↔ Cn f l t
 | [],_,_=>Iff.rfl
 | r::l,f,t=>and_congr Iff.rfl (Dv (l:=l))
structure FT (l:List Rn) (n:Nat) (o:List Rn):Prop where
 le:n<=l.length
 eq:o.map gQ=oX ((l.take n).map gQ)
theorem FT.step {l:List Rn}{n:Nat}{o o':List Rn} (h:FT l n o) (hn:n < l.length) (ho:o'.map gQ=gI (o.map gQ) (gQ l[n])):FT l (n+1) o':=⟨hn,by rw [ho,FS hn,h.eq]⟩
theorem FT.ok {l:List Rn}{n:Nat}{o:List Rn}{f t:Int} (h:FT l n o) (hC:Cn f l t) (hO:∀ r∈l,OkR r) (hn:n < l.length):(∀ r∈o,OkR r)/\Cn f o l[n].from_:=by
 rw [<- List.take_append_drop n l] at hC;obtain ⟨m,h1,h2⟩:=Cn.app.1 hC;rw [List.drop_eq_getElem_cons hn] at h2;obtain ⟨q1,q2,_⟩:=JF (Dv.2 h1) (fun r hr=>by obtain ⟨r',h3,rfl⟩:=List.mem_map.1 hr;exact Hl.2 (hO r' (List.mem_of_mem_take h3)))
 rw [<- h.eq] at q1 q2;exact ⟨fun r hr=>Hl.1 (q2 _ (List.mem_map_of_mem hr)),by rw [h2.1];exact Dv.1 q1⟩
theorem FT.len {l:List Rn}{n:Nat}{o:List Rn} (h:FT l n o):o.length<=n:=by
 have:=congrArg List.length h.eq;rw [List.length_map] at this;have:=Ir ((l.take n).map gQ);rw [List.length_map,List.length_take] at this;omega
end Go.Proofs.YtjcecdmbfmccoaaGreatDoor
/-
 Contract: run.Join.
-/
namespace Go.Sl
open Go.RowKit Go.Proofs.YtjcecdmbfmccoaaGreatDoor
variable {C:Ctx}{st:List (Nat×Value)}{M:List Row}{k:List Item}
theorem cB.own {A:Type}{f:A->List Value}{base sz n c E:Nat}{l:List A}{a:Option Addr} (hf:∀ x,(f x).length=sz) (h1:∀ x,(f x).all (·.oneCell')=true) (hn:l.length=n) (h0:0 < n->∃ b off,a=some ⟨b,off,none⟩) (hm:Row.own base (.slice a n c) E sz n (Sl.flat f l)∈M):cB C M a n sz (Sl.flat f l) where
 len:=by rw [aO hf,hn]
 one:=by
  refine List.all_eq_true.2 fun v hv=>?_
  obtain ⟨cs,hcs,hv⟩:=List.mem_flatten.1 hv;obtain ⟨x,_,rfl⟩:=List.mem_map.1 hcs;exact List.all_eq_true.1 (h1 x) v hv
 nil:=fun e=>by
  rcases Nat.eq_zero_or_pos n with h|h
  ·exact h
  ·obtain ⟨b,off,h2⟩:=h0 h
   rw [h2] at e;cases e
 go:=fun ad ha w hw j u hj=>by
  subst ha;obtain ⟨h3,h4,h5⟩:=vV hf hj;obtain ⟨b,off,h6,h7⟩:=(aE.P8 hf (hw.hold _ hm) hn) (by rw [List.length_map];exact Nat.lt_of_le_of_lt (Nat.zero_le _) h4)
  cases h6;have:=(h7 (j / sz) _ (by rw [List.getElem?_map,gE h4];rfl)).2 (j % sz) u h5
  rw [dS,dV,<- this];congr 2;have:=Nat.div_add_mod j sz;rw [Nat.mul_comm] at this;omega
end Go.Sl
namespace Go.Proofs.YtjcecdmbfmccoaaGreatDoor
open Go.RowKit Go.Sl Go.Num
theorem OE.nil {L0:List Rn}{P:List Rn->Prop} (v:Option Addr->Nat->Nat->Value) {w w':World} (hb:Below w.heap.size w w') (hP:P []):OE L0 P v w (.returned (v none 0 0)) w':=⟨[],none,0,hP,rfl,⟨fun h=>absurd h (Nat.lt_irrefl _),fun r hr=>by cases hr⟩,⟨fun p hp=>(by cases hp),Nat.le_refl _⟩,nJ.nil,hb⟩
end Go.Proofs.YtjcecdmbfmccoaaGreatDoor
/-
 Appends in regions that fork,with the form of the slice.
-/
namespace Go.Sl
open Go.RowKit
variable {C:Ctx}{st:List (Nat×Value)}{M:List Row}{k:List Item}{q q':Md}{all rest:List Oper}{d:Nat}{ty:TypeId}{pos:String}{after:Array Edge}{gd:Option (Nat×Bool)}
theorem Sat.ownForm {w0 w:World}{base E size n:Nat}{v:Value}{xs:List Value} (hw:Sat w0 M w) (hm:Row.own base v E size n xs∈M):∃ a c,v=.slice a n c:=by
 obtain ⟨hl,hv⟩:=hw.hold _ hm;rcases hv with ⟨rfl,rfl⟩|⟨g,cap,cur,rfl,_⟩
 ·exact ⟨_,_,rfl⟩
 ·exact ⟨_,_,rfl⟩
theorem G.PX {p:Pt}{M0:List Row}{l:List Oper}{base E size n:Nat}{v:Value}{xs:List Value} (hm:Row.own base v E size n xs∈M) (h:∀ a c,v=.slice a n c->G (.anys M0 p) C all st M l k):G (.anys M0 p) C all st M l k :=
 ⟨fun hs hl hsel listed hdc hp a w hf hdf hw=>by
  obtain ⟨a',c',e⟩:=hw.ownForm hm;exact (h a' c' e).go hs hl hsel listed hdc hp a w hf hdf hw⟩
theorem G.PY {p:Pt}{T ty' E bytes size n m c base:Nat}{z v:Value}{x y:Operand}{a:Option Addr}{xs news cs:List Value}{F:Row->List Row}{M0:List Row}{i:Nat} (hs:sdB all st gd d C.N=true)
  (hx:evS st x=some v) (hy:evS st y=some (.slice a m c)) (hm:RAt (.own base v E size n xs) M F) [hT:cZ C.P T E z size bytes] (hsrc:cB C M a m size news) (hcs:xs++news=cs) (hb:(n+m)*bytes<=140737488355328) (hnm:n+m<=9223372036854775807)
  (hsub:∀ v',M0.Sublist (F (.own 0 v' E size (n+m) cs))) (hin:∀ v',Row.own 0 v' E size (n+m) cs∈F (.own 0 v' E size (n+m) cs))
  (h:∀ a' c',G (.anys M0 p) C all ((d,.slice a' (n+m) c')::st) (F (.own 0 (.slice a' (n+m) c') E size (n+m) cs)) rest k) :
  G (.anys M0 (.e i p)) C all st M ({ dst:=some d,op:=.call { callee:=.builtin .append,args:=#[x,y],argTypes:=#[T,T] },type:=ty',pos,after,guard:=gd }::rest) k :=
 G.RE hs rfl hx hy hm hsrc hcs hb hnm fun v'=>⟨hsub v',G.PX (hin v') fun a' c' e=>by subst e;exact h a' c'⟩
theorem G.QW {p:Pt}{T ty' E bytes size n m c base:Nat}{z v:Value}{x y:Operand}{a:Option Addr}{xs news cs:List Value}{F:Row->List Row}{M0:List Row}{i:Nat} (hs:sdB all st gd d C.N=true)
  (hx:evS st x=some v) (hy:evS st y=some (.slice a m c)) (hm:RAt (.own base v E size n xs) M F) [hT:cZ C.P T E z size bytes] (hsrc:cB C M a m size news) (hcs:xs++news=cs) (hb:(n+m)*bytes<=140737488355328) (hnm:n+m<=9223372036854775807)
  (hsub:∀ v',M0.Sublist (F (.own 0 v' E size (n+m) cs))) (hin:∀ v',Row.own 0 v' E size (n+m) cs∈F (.own 0 v' E size (n+m) cs))
  (h:∀ a' c',G (.anys M0 p) C all ((d,.slice a' (n+m) c')::st) (F (.own 0 (.slice a' (n+m) c') E size (n+m) cs)) rest k) :
  G (.ones M0 i p) C all st M ({ dst:=some d,op:=.call { callee:=.builtin .append,args:=#[x,y],argTypes:=#[T,T] },type:=ty',pos,after,guard:=gd }::rest) k :=
 G.Rx hs hx hy hm hsrc hcs hb hnm fun v'=>⟨hsub v',G.PX (hin v') fun a' c' e=>by subst e;exact h a' c'⟩
end Go.Sl
