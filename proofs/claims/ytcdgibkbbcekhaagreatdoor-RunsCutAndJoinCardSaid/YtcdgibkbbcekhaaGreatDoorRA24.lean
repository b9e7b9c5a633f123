/-
  Contract of the specification of runs: stretch.
-/
import Derived.Test.YtcdgibkbbcekhaaGreatDoorRA23
set_option linter.unusedVariables false
set_option linter.unusedSimpArgs false
set_option linter.unusedSectionVars false
namespace Go.Proofs.YtcdgibkbbcekhaaGreatDoor
open Go.RowKit Go.Sl Go.Num
theorem J.ownGe {C:Ctx}{st:List (Nat×Value)}{M:List Row}{k:List Item}{base E sz n c:Nat}{a:Option Addr}{xs:List Value} (hm:Row.own base (.slice a n c) E sz n xs∈M) (h:(∀ p,a=some p→C.w0.heap.size≤p.block)→J C st M k):J C st M k:=.mk fun ac w hf hd hw=>(h fun p hp=>by subst hp;exact ((hw.old _ hm).2 p.block rfl).1).go ac w hf hd hw
theorem raw_tab {r:Rn} (h:OkR r) (h1:r.tab.length=1):r.tab=[(stg r,r.to_-r.from_)]:=(h.raw h1).1.1
theorem smOne_eq {l:List Rn} (h0:0 < l.length) (h1:l[0].tab.length=1) (h2:(l[l.length-1]).tab.length=1):smOne l=some (smS l[0].from_ (l[l.length-1]).to_ (stg l[0]) (stg l[l.length-1]) (smTab l (stg l[0]) (stg l[l.length-1]))):=by
 rw [smOne,headD_at h0,lastD_at h0,rawB,rawB,decide_eq_true h1,decide_eq_true h2];rfl
theorem smOne_no {l:List Rn} (h0:0 < l.length) (h:¬ (l[0].tab.length=1∧(l[l.length-1]).tab.length=1)):smOne l=none:=by
 rw [smOne,headD_at h0,lastD_at h0,rawB,rawB,if_neg]
 rw [Bool.and_eq_true,decide_eq_true_eq,decide_eq_true_eq];exact h
set_option maxHeartbeats 4000000 in
theorem stretch16_holds (a:Option Addr) (l:List Rn) (c:Nat) (f t:Int) (w:World) (hA:RunsAt w a l) (hta:∀ r∈l,r.tab.length≤64) (ho:∀ r∈l,OkR r) (hC:Cn f l t) (h0:0 < l.length) (hl:l.length≤400) :
  Calls Tryz.prog 105 #[.slice a l.length c] w (RetU [] (fun L=>L.map rbare=(strE l).1.map rbare) (fun a' n c'=>.agg #[.slice a' n c',.int .i64 (strE l).2]) w):=by
 have htt:=fun x w' (hb:Below w.heap.size w w')=>total16_holds a l c x w' (hA.below hb) (fun r hr=>Nat.le_trans (hta r hr) (by decide)) ho hl
 obtain ⟨ba,oa,rfl,hra⟩:=SlAt.all hA.1 (by omega)
 have hne:l≠[]:=fun e=>by rw [e] at h0;exact absurd h0 (Nat.lt_irrefl _)
 have hz:(l.length:Int)-1=((l.length-1:Nat):Int):=by omega
 have r0:=hra 0 (by omega)
 have r1:=hra (l.length-1) (by omega)
 have m0:=List.getElem_mem (l:=l) (n:=0) h0
 have m1:=List.getElem_mem (l:=l) (n:=l.length-1) (by omega)
 have k0:=ho _ m0
 have k1:=ho _ m1
 have i1:=k0.rng
 have i2:=k1.rng
 have t0:=hA.2 _ m0
 have t1:=hA.2 _ m1
 have c0:=(hC.first hne).1
 have c1:=hC.last hne
 have clt:=hC.le ho
 rw [headD_at h0] at c0
 rw [lastD_at h0] at c1
 have n1:=smOne_eq h0
 have n2:=smOne_no h0
 have hbd:=totC_bd ho
 clear hra m0 m1 hA hta ho
 generalize l[0]=x1 at *
 generalize l[l.length-1]=x2 at *
 by_cases hr:x1.tab.length=1∧x2.tab.length=1
 case neg =>
  have hE:strE l=([],29):=by rw [strE,n2 hr]
  rw [hE]
  clear n1 n2 k0 k1 t0 t1
  obtain ⟨f1,u1,tb1,ad1,cp1,lo1,hi1⟩:=x1
  obtain ⟨f2,u2,tb2,ad2,cp2,lo2,hi2⟩:=x2
  dsimp only [rnV] at *
  refine enterA [(0,.slice (some ⟨ba,oa,none⟩) l.length c)] Tryz.func105 Tryz.ntmps105 ?_
  by_cases g1:tb1.length=1
  ·have g2:tb2.length≠1:=fun e=>hr ⟨g1,e⟩
   clear hr
   all_goals (refine go ?_;and_intros<;>(try exact trivial)<;>repeat (first|refine fun (Bk:Nat)=>?_|intro h))
   repeat' ((first|(apply G.ix (i:=l.length-1);rfl;rfl;exact hz;omega;rfl)|(apply G.ix (i:=0);rfl;rfl;exact rfl;first|omega|exact Nat.succ_pos _;rfl))<;>(refine go ?_;and_intros<;>(try exact trivial)<;>repeat (first|refine fun (Bk:Nat)=>?_|intro h)))
   refine ret1 Tryz.func105 Tryz.results105 ?_
   exact fun w' hw'=>RetU.nil (fun a' n c'=>.agg #[.slice a' n c',.int .i64 29]) hw'.below rfl
  ·clear hr
   all_goals (refine go ?_;and_intros<;>(try exact trivial)<;>repeat (first|refine fun (Bk:Nat)=>?_|intro h))
   repeat' ((first|(apply G.ix (i:=l.length-1);rfl;rfl;exact hz;omega;rfl)|(apply G.ix (i:=0);rfl;rfl;exact rfl;first|omega|exact Nat.succ_pos _;rfl))<;>(refine go ?_;and_intros<;>(try exact trivial)<;>repeat (first|refine fun (Bk:Nat)=>?_|intro h)))
   refine ret1 Tryz.func105 Tryz.results105 ?_
   exact fun w' hw'=>RetU.nil (fun a' n c'=>.agg #[.slice a' n c',.int .i64 29]) hw'.below rfl
 have hE:strE l=(smS x1.from_ x2.to_ (stg x1) (stg x2) (smTab l (stg x1) (stg x2)),0):=by rw [strE,n1 hr.1 hr.2]
 rw [hE]
 have q1:=raw_tab k0 hr.1
 have q2:=raw_tab k1 hr.2
 have s1:=(k0.raw hr.1).2
 have s2:=(k1.raw hr.2).2
 clear n1 n2 k0 k1 hr
 generalize stg x1=sa at *
 generalize stg x2=sb at *
 obtain ⟨f1,u1,tb1,ad1,cp1,lo1,hi1⟩:=x1
 obtain ⟨f2,u2,tb2,ad2,cp2,lo2,hi2⟩:=x2
 rw [TabAt] at t0 t1
 dsimp only [rnV] at *
 subst q1 q2
 subst c0 c1
 obtain ⟨b1,o1,rfl,tr0⟩:=SlAt.all t0 (Nat.succ_pos _)
 obtain ⟨b2,o2,rfl,tr1⟩:=SlAt.all t1 (Nat.succ_pos _)
 have tr0:=tr0 0 (Nat.succ_pos _)
 have tr1:=tr1 0 (Nat.succ_pos _)
 clear t0 t1
 dsimp only [List.length_cons,List.length_nil,hoV,List.getElem_cons_zero] at *
 have hh1:=fun w'=>rMk_holds f1 (f1+1) sa w' (by omega) (by omega)
 have hh2:=fun w'=>rMk_holds (u2-1) u2 sb w' (by omega) (by omega)
 refine enterA [(0,.slice (some ⟨ba,oa,none⟩) l.length c)] Tryz.func105 Tryz.ntmps105 ?_
 by_cases hone:u2-f1=1
 ·have hS:smS f1 u2 sa sb (smTab l sa sb)=[mkR f1 (f1+1) sa]:=by rw [smS,if_neg (by omega),if_neg (by omega)];rfl
  rw [hS]
  all_goals (refine go ?_;and_intros<;>(try exact trivial)<;>repeat (first|refine fun (Bk:Nat)=>?_|intro h))
  repeat' ((first|(apply G.ix (i:=l.length-1);rfl;rfl;exact hz;omega;rfl)|(apply G.ix (i:=0);rfl;rfl;exact rfl;first|omega|exact Nat.succ_pos _;rfl)|(apply G.cN (g:=87) (fun a' c'=>.agg #[.int .i64 f1,.int .i64 (f1+1),.slice a' 1 c',.int .i64 0,.int .i64 0]) ([(sa,f1+1-f1)].map hoV);rfl;rfl;exact fun w' _=>hh1 w';intro a3 c3 hp3 hq3)|(apply G.sliceL;rfl;rfl;rfl;rfl;rfl;rfl;rfl;rfl;intro Bs))<;>(refine go ?_;and_intros<;>(try exact trivial)<;>repeat (first|refine fun (Bk:Nat)=>?_|intro h)))
  refine J.blkGe (b:=Bs) mm ?_
  intro hBs
  refine J.blkSlR (b:=Bs) (f:=rnV) (l:=[⟨f1,f1+1,[(sa,f1+1-f1)],a3,c3,0,0⟩]) rnV_len (by (repeat (first|exact Pick.head|apply Pick.tail))) ?_
  apply J.fam0 Rn.adr 2 (fun r=>r.tab.map hoV)
  refine J.famAdd (r:=(⟨f1,f1+1,[(sa,f1+1-f1)],a3,c3,0,0⟩:Rn)) (o:=[]) mm mm ?_
  refine ret1 Tryz.func105 Tryz.results105 ?_
  exact fun w' hw'=>Sat.retS (L:=[⟨f1,f1+1,[(sa,f1+1-f1)],a3,c3,0,0⟩]) (fun a' n c'=>.agg #[.slice a' n c',.int .i64 0]) hw' rfl rfl ⟨fun p hp=>by cases hp;exact hBs,Nat.le_refl _⟩ (srcR.one (.inr (.inl hq3)))
 all_goals (refine go ?_;and_intros<;>(try exact trivial)<;>repeat (first|refine fun (Bk:Nat)=>?_|intro h))
 repeat' ((first|(apply G.ix (i:=l.length-1);rfl;rfl;exact hz;omega;rfl)|(apply G.ix (i:=0);rfl;rfl;exact rfl;first|omega|exact Nat.succ_pos _;rfl)|(apply G.cN (g:=87) (fun a' c'=>.agg #[.int .i64 f1,.int .i64 (f1+1),.slice a' 1 c',.int .i64 0,.int .i64 0]) ([(sa,f1+1-f1)].map hoV);rfl;rfl;exact fun w' _=>hh1 w';intro a3 c3 hp3 hq3)|(apply G.sliceL;rfl;rfl;rfl;rfl;rfl;rfl;rfl;rfl;intro Bs))<;>(refine go ?_;and_intros<;>(try exact trivial)<;>repeat (first|refine fun (Bk:Nat)=>?_|intro h)))
 have hBs0:True:=trivial
 refine J.blkCut (f:=rnV) (l:=[⟨f1,f1+1,[(sa,f1+1-f1)],a3,c3,0,0⟩]) (l':=[⟨f1,f1+1,[(sa,f1+1-f1)],a3,c3,0,0⟩]) (cap:=1) 1 rnV_len RAt.au (Nat.le_refl _) (by decide) (Nat.le_refl _) rfl ?_
 apply J.fam0 Rn.adr 2 (fun r=>r.tab.map hoV)
 refine J.famAdd (r:=(⟨f1,f1+1,[(sa,f1+1-f1)],a3,c3,0,0⟩:Rn)) (o:=[]) mm mm ?_
 apply J.nilOwn (E:=92) (size:=2)
 revert Bs
 intro Bo
 generalize hTT:smTab l sa sb=TT
 refine J.loop (c:=_) ((0,none,0,[]):Nat×Option Addr×Nat×List (Int×Int)) (fun s=>1001-s.1) (fun s=>[(0,.slice (some ⟨ba,oa,none⟩) l.length c),(2,.pointer (some ⟨_,0,none⟩)),(4,.pointer (some ⟨_,0,none⟩)),(5,.int .i64 sa),(6,.int .i64 sb),(7,.slice (some ⟨Bo,0,none⟩) 1 1),(8,.pointer (some ⟨Bk,0,none⟩)),(9,.int .i64 s.1)]) (fun s=>[.own 0 (.slice s.2.1 s.2.2.2.length s.2.2.1) 92 2 s.2.2.2.length (flat hoV s.2.2.2),tfam w.heap.size [⟨f1,f1+1,[(sa,f1+1-f1)],a3,c3,0,0⟩],.blk Bk 90 [.int .i64 (f1+1),.int .i64 (u2-1),.slice s.2.1 s.2.2.2.length s.2.2.1,.int .i64 0,.int .i64 0] 5,.own 0 (.slice (some ⟨Bo,0,none⟩) 1 1) 90 5 1 (flat rnV [⟨f1,f1+1,[(sa,f1+1-f1)],a3,c3,0,0⟩]),.blk _ 90 [.int .i64 f2,.int .i64 u2,.slice (some ⟨b2,o2,none⟩) 1 cp2,.int .i64 lo2,.int .i64 hi2] 5,.blk _ 55 [.slice none 0 0,.int .i64 0] 2]) (fun s=>s.1≤1001∧s.2.2.2++tabD s.1 ((smC l sa sb).drop s.1)=TT∧s.2.2.2.length≤s.1) ?_ sbT sbL ?_
 ·refine ⟨Nat.zero_le _,?_,Nat.le_refl _⟩
  rw [smTab] at hTT
  dsimp only
  rw [List.nil_append,List.drop_zero,smC]
  exact hTT
 clear hTT
 intro ⟨s,au,cu,T⟩ ⟨j1,j2,j3⟩ ih
 dsimp only at j1 j2 j3 ⊢
 by_cases hs:s < 1001
 ·have htt:=htt (s:Int)
  have hb:=hbd (s:Int)
  rw [tabD_step (by rw [smC_len];exact hs),smC_get _ _ _ hs,← List.append_assoc] at j2
  have ih1:=fun a' c' T' e1 (e2:T'.length≤T.length+1)=>ih (s+1,a',c',T') ⟨hs,e1,by dsimp only;omega⟩ (by dsimp only;omega)
  dsimp only at ih1
  have hl1:∀ z:Int×Int,(T++[z]).length=T.length+1:=fun z=>by simp
  generalize tabD (s+1) ((smC l sa sb).drop (s+1))=D at *
  clear ih hbd tr0 tr1 r0 r1 hh1 hh2
  generalize totC l s=N at *
  by_cases hsa:(s:Int)=sa
  ·by_cases hsb:(s:Int)=sb
   ·skip
    rw [if_pos hsa,if_pos hsb] at j2
    by_cases hp:0 < N-1-1
    ·rw [if_pos hp] at j2
     have hap:flat hoV T++hoV ((s:Int),N-1-1)=flat hoV (T++[((s:Int),N-1-1)]):=flat1 hoV _ _
     have ih2:=fun a' c'=>ih1 a' c' (T++[((s:Int),N-1-1)]) j2 (by rw [hl1];exact Nat.le_refl _)
     rw [hl1] at ih2
     clear ih1 j2
     simp only [Int.sub_zero] at *
     dsimp only [hoV] at hap
     all_goals (refine go ?_;and_intros<;>(try exact trivial)<;>repeat (first|refine fun (Bk:Nat)=>?_|intro h))
     repeat' ((first|(apply G.cV (g:=151);rfl;rfl;exact fun w' hw'=>htt w' hw'.below)|(apply G.sliceL;rfl;rfl;rfl;rfl;rfl;rfl;rfl;rfl;intro Bs)|(apply G.apV;rfl;rfl;rfl;(repeat (first|exact RAt.head|apply RAt.tail));exact SrcV.blk (by exact mm) rfl rfl;exact hap;omega;omega;intro a2 c2)|(apply G.s1;rfl;rfl;rfl;(repeat (first|exact RAt.head|apply RAt.tail));exact ⟨rfl,rfl⟩;exact Nat.le_of_ble_eq_true rfl;rfl))<;>(refine go ?_;and_intros<;>(try exact trivial)<;>repeat (first|refine fun (Bk:Nat)=>?_|intro h)))
     exact J.finS (ih2 _ _)
    ·rw [if_neg hp,List.append_nil] at j2
     have ih2:=ih1 au cu T j2 (Nat.le_succ _)
     clear ih1 j2
     simp only [Int.sub_zero] at *
     all_goals (refine go ?_;and_intros<;>(try exact trivial)<;>repeat (first|refine fun (Bk:Nat)=>?_|intro h))
     repeat' ((first|(apply G.cV (g:=151);rfl;rfl;exact fun w' hw'=>htt w' hw'.below))<;>(refine go ?_;and_intros<;>(try exact trivial)<;>repeat (first|refine fun (Bk:Nat)=>?_|intro h)))
     exact J.finS ih2
   ·skip
    rw [if_pos hsa,if_neg hsb] at j2
    by_cases hp:0 < N-1-0
    ·rw [if_pos hp] at j2
     have hap:flat hoV T++hoV ((s:Int),N-1-0)=flat hoV (T++[((s:Int),N-1-0)]):=flat1 hoV _ _
     have ih2:=fun a' c'=>ih1 a' c' (T++[((s:Int),N-1-0)]) j2 (by rw [hl1];exact Nat.le_refl _)
     rw [hl1] at ih2
     clear ih1 j2
     simp only [Int.sub_zero] at *
     dsimp only [hoV] at hap
     all_goals (refine go ?_;and_intros<;>(try exact trivial)<;>repeat (first|refine fun (Bk:Nat)=>?_|intro h))
     repeat' ((first|(apply G.cV (g:=151);rfl;rfl;exact fun w' hw'=>htt w' hw'.below)|(apply G.sliceL;rfl;rfl;rfl;rfl;rfl;rfl;rfl;rfl;intro Bs)|(apply G.apV;rfl;rfl;rfl;(repeat (first|exact RAt.head|apply RAt.tail));exact SrcV.blk (by exact mm) rfl rfl;exact hap;omega;omega;intro a2 c2)|(apply G.s1;rfl;rfl;rfl;(repeat (first|exact RAt.head|apply RAt.tail));exact ⟨rfl,rfl⟩;exact Nat.le_of_ble_eq_true rfl;rfl))<;>(refine go ?_;and_intros<;>(try exact trivial)<;>repeat (first|refine fun (Bk:Nat)=>?_|intro h)))
     exact J.finS (ih2 _ _)
    ·rw [if_neg hp,List.append_nil] at j2
     have ih2:=ih1 au cu T j2 (Nat.le_succ _)
     clear ih1 j2
     simp only [Int.sub_zero] at *
     all_goals (refine go ?_;and_intros<;>(try exact trivial)<;>repeat (first|refine fun (Bk:Nat)=>?_|intro h))
     repeat' ((first|(apply G.cV (g:=151);rfl;rfl;exact fun w' hw'=>htt w' hw'.below))<;>(refine go ?_;and_intros<;>(try exact trivial)<;>repeat (first|refine fun (Bk:Nat)=>?_|intro h)))
     exact J.finS ih2
  ·by_cases hsb:(s:Int)=sb
   ·skip
    rw [if_neg hsa,if_pos hsb] at j2
    by_cases hp:0 < N-0-1
    ·rw [if_pos hp] at j2
     have hap:flat hoV T++hoV ((s:Int),N-0-1)=flat hoV (T++[((s:Int),N-0-1)]):=flat1 hoV _ _
     have ih2:=fun a' c'=>ih1 a' c' (T++[((s:Int),N-0-1)]) j2 (by rw [hl1];exact Nat.le_refl _)
     rw [hl1] at ih2
     clear ih1 j2
     simp only [Int.sub_zero] at *
     dsimp only [hoV] at hap
     all_goals (refine go ?_;and_intros<;>(try exact trivial)<;>repeat (first|refine fun (Bk:Nat)=>?_|intro h))
     repeat' ((first|(apply G.cV (g:=151);rfl;rfl;exact fun w' hw'=>htt w' hw'.below)|(apply G.sliceL;rfl;rfl;rfl;rfl;rfl;rfl;rfl;rfl;intro Bs)|(apply G.apV;rfl;rfl;rfl;(repeat (first|exact RAt.head|apply RAt.tail));exact SrcV.blk (by exact mm) rfl rfl;exact hap;omega;omega;intro a2 c2)|(apply G.s1;rfl;rfl;rfl;(repeat (first|exact RAt.head|apply RAt.tail));exact ⟨rfl,rfl⟩;exact Nat.le_of_ble_eq_true rfl;rfl))<;>(refine go ?_;and_intros<;>(try exact trivial)<;>repeat (first|refine fun (Bk:Nat)=>?_|intro h)))
     exact J.finS (ih2 _ _)
    ·rw [if_neg hp,List.append_nil] at j2
     have ih2:=ih1 au cu T j2 (Nat.le_succ _)
     clear ih1 j2
     simp only [Int.sub_zero] at *
     all_goals (refine go ?_;and_intros<;>(try exact trivial)<;>repeat (first|refine fun (Bk:Nat)=>?_|intro h))
     repeat' ((first|(apply G.cV (g:=151);rfl;rfl;exact fun w' hw'=>htt w' hw'.below))<;>(refine go ?_;and_intros<;>(try exact trivial)<;>repeat (first|refine fun (Bk:Nat)=>?_|intro h)))
     exact J.finS ih2
   ·skip
    rw [if_neg hsa,if_neg hsb] at j2
    by_cases hp:0 < N-0-0
    ·rw [if_pos hp] at j2
     have hap:flat hoV T++hoV ((s:Int),N-0-0)=flat hoV (T++[((s:Int),N-0-0)]):=flat1 hoV _ _
     have ih2:=fun a' c'=>ih1 a' c' (T++[((s:Int),N-0-0)]) j2 (by rw [hl1];exact Nat.le_refl _)
     rw [hl1] at ih2
     clear ih1 j2
     simp only [Int.sub_zero] at *
     dsimp only [hoV] at hap
     all_goals (refine go ?_;and_intros<;>(try exact trivial)<;>repeat (first|refine fun (Bk:Nat)=>?_|intro h))
     repeat' ((first|(apply G.cV (g:=151);rfl;rfl;exact fun w' hw'=>htt w' hw'.below)|(apply G.sliceL;rfl;rfl;rfl;rfl;rfl;rfl;rfl;rfl;intro Bs)|(apply G.apV;rfl;rfl;rfl;(repeat (first|exact RAt.head|apply RAt.tail));exact SrcV.blk (by exact mm) rfl rfl;exact hap;omega;omega;intro a2 c2)|(apply G.s1;rfl;rfl;rfl;(repeat (first|exact RAt.head|apply RAt.tail));exact ⟨rfl,rfl⟩;exact Nat.le_of_ble_eq_true rfl;rfl))<;>(refine go ?_;and_intros<;>(try exact trivial)<;>repeat (first|refine fun (Bk:Nat)=>?_|intro h)))
     exact J.finS (ih2 _ _)
    ·rw [if_neg hp,List.append_nil] at j2
     have ih2:=ih1 au cu T j2 (Nat.le_succ _)
     clear ih1 j2
     simp only [Int.sub_zero] at *
     all_goals (refine go ?_;and_intros<;>(try exact trivial)<;>repeat (first|refine fun (Bk:Nat)=>?_|intro h))
     repeat' ((first|(apply G.cV (g:=151);rfl;rfl;exact fun w' hw'=>htt w' hw'.below))<;>(refine go ?_;and_intros<;>(try exact trivial)<;>repeat (first|refine fun (Bk:Nat)=>?_|intro h)))
     exact J.finS ih2
 obtain rfl:s=1001:=by omega
 rw [tabD_end (by rw [smC_len];exact Nat.le_refl _),List.append_nil] at j2
 subst j2
 clear ih
 have hap1:=flat1 rnV [⟨f1,f1+1,[(sa,f1+1-f1)],a3,c3,0,0⟩] ⟨f1+1,u2-1,T,au,cu,0,0⟩
 have hap2:=fun a5 c5=>flat1 rnV ([⟨f1,f1+1,[(sa,f1+1-f1)],a3,c3,0,0⟩]++[⟨f1+1,u2-1,T,au,cu,0,0⟩]) ⟨u2-1,u2,[(sb,u2-(u2-1))],a5,c5,0,0⟩
 have hap3:=fun a5 c5=>flat1 rnV [⟨f1,f1+1,[(sa,f1+1-f1)],a3,c3,0,0⟩] ⟨u2-1,u2,[(sb,u2-(u2-1))],a5,c5,0,0⟩
 by_cases hlt:f1+1 < u2-1
 ·have hS:smS f1 u2 sa sb T=[mkR f1 (f1+1) sa,⟨f1+1,u2-1,T,none,0,0,0⟩,mkR (u2-1) u2 sb]:=by rw [smS,if_pos hlt,if_pos (by omega)];rfl
  rw [hS]
  all_goals (refine go ?_;and_intros<;>(try exact trivial)<;>repeat (first|refine fun (Bk:Nat)=>?_|intro h))
  repeat' ((first|(apply G.sliceL;rfl;rfl;rfl;rfl;rfl;rfl;rfl;rfl;intro Bs)|(apply G.apV (v:=.slice (some ⟨Bo,0,none⟩) 1 1);rfl;rfl;rfl;(repeat (first|exact RAt.head|apply RAt.tail));exact SrcV.blk (by exact mm) rfl rfl;exact hap1;omega;omega;intro a4 c4)|(apply G.cN (g:=87) (fun a' c'=>.agg #[.int .i64 (u2-1),.int .i64 u2,.slice a' 1 c',.int .i64 0,.int .i64 0]) ([(sb,u2-(u2-1))].map hoV);rfl;rfl;exact fun w' _=>hh2 w';intro a5 c5 hp5 hq5)|(apply G.apV (v:=.slice a4 2 c4);rfl;rfl;rfl;(repeat (first|exact RAt.head|apply RAt.tail));exact SrcV.blk (by exact mm) rfl rfl;exact hap2 a5 c5;omega;omega;intro a6 c6))<;>(refine go ?_;and_intros<;>(try exact trivial)<;>repeat (first|refine fun (Bk:Nat)=>?_|intro h)))
  refine J.ownGe (a:=au) mm ?_
  intro hau
  refine J.ownSlR (a:=au) (f:=hoV) (l:=T) hoV_len (by (repeat (first|exact Pick.head|apply Pick.tail))) rfl ?_
  refine J.famAdd (r:=(⟨f1+1,u2-1,T,au,cu,0,0⟩:Rn)) (o:=[⟨f1,f1+1,[(sa,f1+1-f1)],a3,c3,0,0⟩]) mm mm ?_
  refine J.famAdd (r:=(⟨u2-1,u2,[(sb,u2-(u2-1))],a5,c5,0,0⟩:Rn)) (o:=[⟨f1,f1+1,[(sa,f1+1-f1)],a3,c3,0,0⟩]++[⟨f1+1,u2-1,T,au,cu,0,0⟩]) mm mm ?_
  refine ret1 Tryz.func105 Tryz.results105 ?_
  exact fun w' hw'=>Sat.retU (L:=[⟨f1,f1+1,[(sa,f1+1-f1)],a3,c3,0,0⟩]++[⟨f1+1,u2-1,T,au,cu,0,0⟩]++[⟨u2-1,u2,[(sb,u2-(u2-1))],a5,c5,0,0⟩]) (fun a' n c'=>.agg #[.slice a' n c',.int .i64 0]) hw' rfl rfl (((srcR.one (.inr (.inl hq3))).app (srcR.one (.inr (.inl hau)))).app (srcR.one (.inr (.inl hq5))))
 ·have hS:smS f1 u2 sa sb T=[mkR f1 (f1+1) sa,mkR (u2-1) u2 sb]:=by rw [smS,if_neg hlt,if_pos (by omega)];rfl
  rw [hS]
  all_goals (refine go ?_;and_intros<;>(try exact trivial)<;>repeat (first|refine fun (Bk:Nat)=>?_|intro h))
  repeat' ((first|(apply G.sliceL;rfl;rfl;rfl;rfl;rfl;rfl;rfl;rfl;intro Bs)|(apply G.cN (g:=87) (fun a' c'=>.agg #[.int .i64 (u2-1),.int .i64 u2,.slice a' 1 c',.int .i64 0,.int .i64 0]) ([(sb,u2-(u2-1))].map hoV);rfl;rfl;exact fun w' _=>hh2 w';intro a5 c5 hp5 hq5)|(apply G.apV (v:=.slice (some ⟨Bo,0,none⟩) 1 1);rfl;rfl;rfl;(repeat (first|exact RAt.head|apply RAt.tail));exact SrcV.blk (by exact mm) rfl rfl;exact hap3 a5 c5;omega;omega;intro a6 c6))<;>(refine go ?_;and_intros<;>(try exact trivial)<;>repeat (first|refine fun (Bk:Nat)=>?_|intro h)))
  refine J.famAdd (r:=(⟨u2-1,u2,[(sb,u2-(u2-1))],a5,c5,0,0⟩:Rn)) (o:=[⟨f1,f1+1,[(sa,f1+1-f1)],a3,c3,0,0⟩]) mm mm ?_
  refine ret1 Tryz.func105 Tryz.results105 ?_
  exact fun w' hw'=>Sat.retU (L:=[⟨f1,f1+1,[(sa,f1+1-f1)],a3,c3,0,0⟩]++[⟨u2-1,u2,[(sb,u2-(u2-1))],a5,c5,0,0⟩]) (fun a' n c'=>.agg #[.slice a' n c',.int .i64 0]) hw' rfl rfl ((srcR.one (.inr (.inl hq3))).app (srcR.one (.inr (.inl hq5))))
end Go.Proofs.YtcdgibkbbcekhaaGreatDoor
