/-
  Contract: the law's examples hold.
-/
import Derived.Test.YtcdgibkbbcekhaaGreatDoorRA22
import Derived.Test.YtcdgibkbbcekhaaGreatDoorRA31
import Derived.Test.YtcdgibkbbcekhaaGreatDoorRA32
import Derived.Test.YtcdgibkbbcekhaaGreatDoorRA35
set_option linter.unusedVariables false
set_option linter.unusedSimpArgs false
set_option linter.unusedSectionVars false
namespace Go.Proofs.YtcdgibkbbcekhaaGreatDoor
open Go.RowKit Go.Sl Go.Num
def exB:List Rn:=[mkR 11 12 5,⟨12,15,[(5,1),(7,2)],none,0,0,0⟩,mkR 15 16 9,⟨16,18,[],none,0,0,1⟩]
def exC:List Rn:=[mkR 10 12 5,⟨12,15,[(5,1),(7,2)],none,0,0,0⟩,mkR 15 16 9,⟨16,17,[],none,0,0,1⟩]
def exD:List Rn:=[⟨17,18,[],none,0,0,1⟩]
theorem pair_of {l X A B:List Rn}{t e:Int} (h:l.map rbare=X) (h2:cutE' X t=((A,B),e)):(cutE' l t).1.1.map rbare=A∧(cutE' l t).1.2.map rbare=B∧(cutE' l t).2=e:=by
 have h3:=cutE_bare' l t
 rw [h,h2] at h3
 exact ⟨(congrArg (fun x=>x.1.1) h3).symm,(congrArg (fun x=>x.1.2) h3).symm,(congrArg (fun x=>x.2) h3).symm⟩
theorem sum_of {l X A:List Rn}{e:Int} (h:l.map rbare=X) (h2:sumE X=(A,e)):(sumE l).1.map rbare=A∧(sumE l).2=e:=by
 have h3:=sumE_bare l
 rw [h,h2] at h3
 exact ⟨(congrArg (fun x=>x.1) h3).symm,(congrArg (fun x=>x.2) h3).symm⟩
theorem join_of {l m X Y A:List Rn}{e:Int} (h:l.map rbare=X) (h':m.map rbare=Y) (h2:joinE X Y=(A,e)):(joinE l m).1.map rbare=A∧(joinE l m).2=e:=by
 have h3:=joinE_bare l m
 rw [h,h',h2] at h3
 exact ⟨(congrArg (fun x=>x.1) h3).symm,(congrArg (fun x=>x.2) h3).symm⟩
theorem tabs_of {l m:List Rn} (h:l.map rbare=m) {n:Nat} (hm:∀ r∈m,r.tab.length≤n):∀ r∈l,r.tab.length≤n:=fun r hr=>by
 have h1:=List.mem_map_of_mem (f:=rbare) hr
 rw [h] at h1
 have h2:(rbare r).tab.length≤n:=hm _ h1
 exact h2
theorem len_of {l m:List Rn} (h:l.map rbare=m):l.length=m.length:=by rw [← h,List.length_map]
theorem RunsAt.take {w:World}{a:Option Addr}{l:List Rn} (h:RunsAt w a l) (n:Nat):RunsAt w a (l.take n):=by
 refine ⟨fun h0=>?_,fun r hr=>h.2 r (List.mem_of_mem_take hr)⟩
 rw [List.length_map,List.length_take] at h0
 obtain ⟨b,off,e,hr⟩:=h.1 (by rw [List.length_map];omega)
 refine ⟨b,off,e,fun i cs hi=>hr i cs ?_⟩
 rw [List.map_take,List.getElem?_take] at hi
 split at hi
 ·exact hi
 ·cases hi
theorem RunsAt.drop {w:World}{b o:Nat}{l:List Rn} (h:RunsAt w (some ⟨b,o,none⟩) l) (n:Nat):RunsAt w (some ⟨b,o+n*5,none⟩) (l.drop n):=by
 refine ⟨fun h0=>?_,fun r hr=>h.2 r (List.mem_of_mem_drop hr)⟩
 rw [List.length_map,List.length_drop] at h0
 obtain ⟨b',off,e,hr⟩:=h.1 (by rw [List.length_map];omega)
 cases e
 refine ⟨b,o+n*5,rfl,fun i cs hi=>?_⟩
 rw [List.map_drop,List.getElem?_drop] at hi
 have:=hr (n+i) cs hi
 rwa [show o+(n+i)*5=o+n*5+i*5 by omega] at this
theorem gapLit {w0 w:World}{M:List Row}{b tot e:Nat}{cs:List Value} (hw:Sat w0 M w) (x:Rn) (hx:x.tab=[]) (hm:Row.blk b e cs tot∈M) (hcs:cs=flat rnV [x]):RunsAt w (some ⟨b,0,none⟩) [x]:=⟨(blkSlC (f:=rnV) (l:=[x]) hw rnV_len hm hcs).1,fun r hr=>by
 rw [List.mem_singleton.1 hr,TabAt,hx]
 exact SlAt.nil⟩
theorem same_yes (a b:Option Addr) (l m:List Rn) (n c k d:Nat) (w:World) (hA:RunsAt w a l) (hB:RunsAt w b m) (he:l.map rbare=m.map rbare) (hn:l.length=n) (hs:n≤1000000) (hk:n=k) (ht:∀ r∈m,r.tab.length≤1000000) :
  Calls Tryz.prog 29 #[.slice a n c,.slice b k d] w fun e w'=>e=.returned (.bool true)∧Below w.heap.size w w':=by
 subst hk
 have hk:m.length=n:=by rw [← length_bare he];exact hn
 subst hn
 have h:=same16_holds a b l m c d w hA hB ⟨hs,by omega⟩ (tabs_bare he ht) ht
 rw [decide_eq_true he,hk] at h
 exact h
theorem TbLe1 {x:Rn} (h:x.tab.length≤1000000):∀ r∈[x],r.tab.length≤1000000:=fun r hr=>by rw [List.mem_singleton.1 hr];exact h
theorem J.blkEq {C:Ctx}{st:List (Nat×Value)}{M:List Row}{k:List Item}{b E tot tot':Nat}{cs cs':List Value}{F:Row→List Row} (hm:RAt (.blk b E cs tot) M F) (h:cs=cs') (ht:tot=tot') (hk:J C st (F (.blk b E cs' tot')) k):J C st M k:=by
 subst h ht
 obtain ⟨i,h1,h2⟩:=hm.idx
 have h3:M.set i (.blk b E cs tot)=M:=by
  apply List.ext_getElem?
  intro j
  by_cases e:i=j
  ·subst e;rw [List.getElem?_set_self (List.getElem?_eq_some_iff.1 h1).1,h1]
  ·rw [List.getElem?_set_ne e]
 rw [← h2,h3] at hk
 exact hk
theorem G.cutC {C:Ctx}{st:List (Nat×Value)}{M:List Row}{k:List Item}{q:Md}{all rest:List Oper}{k2:List Item}{X:Type} (stF:X→List (Nat×Value)) (MF:X→List Row) (h:(∀ x,J C (stF x) (MF x) k2)→G q C all st M rest k) (hk:∀ x,J C (stF x) (MF x) k2):G q C all st M rest k:=h hk
set_option maxHeartbeats 4000000 in
theorem sanity16_holds (w:World):Calls Tryz.prog 20 #[] w fun e w'=>e=.returned (.bool true)∧Below w.heap.size w w':=by
 refine enterA [] Tryz.func20 Tryz.ntmps20 ?_
 all_goals (refine go ?_;and_intros<;>(try exact trivial)<;>repeat (first|refine fun (Bk:Nat)=>?_|intro h))
 repeat' ((first|(refine G.cU (g:=76) (fun a' n c'=>.slice a' n c') (fun L=>L.map rbare=exA) [] (.inl rfl) rfl rfl (fun w' _=>ex16_holds w') ?_;intro L a1 c1 hL ⟨hL1,hL2⟩ _;rw [show L.length=4 from len_of hL])|fail)<;>(refine go ?_;and_intros<;>(try exact trivial)<;>repeat (first|refine fun (Bk:Nat)=>?_|intro h)))
 have hl:L.length=4:=len_of hL
 obtain ⟨ba,oa,rfl⟩:=hL1 (by rw [hl];decide)
 have h2L:2 < L.length:=by rw [hl];decide
 have h3L:3 < L.length:=by rw [hl];decide
 have ht:=tabs_of hL (n:=64) (by decide +kernel)
 obtain ⟨k1,k2,k3⟩:=pair_of hL ex_cut1
 obtain ⟨k4,k5,k6⟩:=pair_of hL ex_cut2
 obtain ⟨k7,k8,k9⟩:=pair_of hL ex_cut3
 obtain ⟨s1,s2⟩:=sum_of hL ex_sum
 have hag:=agreeB_bare L 10 [5,5,7,5,7,9,1,0]
 have han:=agreeB_bare L 10 [5,5,7,7,7,9,1,0]
 have hct:=cntE_bare L
 have hf1:=firstS_bare L
 have hf2:=firstF_bare L
 rw [hL] at hag han hct hf1 hf2
 rw [ex_agr] at hag
 rw [ex_agn] at han
 rw [ex_cnt] at hct
 rw [ex_fst.1] at hf1
 rw [ex_fst.2] at hf2
 have hE:runsErr L=0:=by rw [← runsErr_bare,hL];exact ex_chk
 have HA:=fun b w' (h:RunsAt w' (some ⟨ba,oa,none⟩) L) hB=>agree_holds (some ⟨ba,oa,none⟩) (some ⟨b,0,none⟩) L 10 [5,5,7,5,7,9,1,0] c1 8 w' h hB ht (by decide) (by decide)
 have HN:=fun b w' (h:RunsAt w' (some ⟨ba,oa,none⟩) L) hB=>agree_holds (some ⟨ba,oa,none⟩) (some ⟨b,0,none⟩) L 10 [5,5,7,7,7,9,1,0] c1 8 w' h hB ht (by decide) (by decide)
 have HC:=fun w' (h:RunsAt w' (some ⟨ba,oa,none⟩) L)=>vCount_holds (some ⟨ba,oa,none⟩) L c1 w' h ht (by omega)
 have HF:=fun w' (h:RunsAt w' (some ⟨ba,oa,none⟩) L)=>vFirst_holds (some ⟨ba,oa,none⟩) L c1 w' h ht hE (by omega)
 have H11:=fun w' (h:RunsAt w' (some ⟨ba,oa,none⟩) L)=>runCut_holds (some ⟨ba,oa,none⟩) L c1 11 w' h ht (by omega)
 have H13:=fun w' (h:RunsAt w' (some ⟨ba,oa,none⟩) L)=>runCut_holds (some ⟨ba,oa,none⟩) L c1 13 w' h ht (by omega)
 have H17:=fun w' (h:RunsAt w' (some ⟨ba,oa,none⟩) L)=>runCut_holds (some ⟨ba,oa,none⟩) L c1 17 w' h ht (by omega)
 have HS:=fun w' (h:RunsAt w' (some ⟨ba,oa,none⟩) L)=>vSum_holds (some ⟨ba,oa,none⟩) L c1 w' h ht (by omega) hL2.2
 have HO:=fun b w' hB=>vOf_holds 10 (some ⟨b,0,none⟩) [5,5,7] 3 w' hB (by decide)
 have HK:=fun w' (h:RunsAt w' (some ⟨ba,oa,none⟩) L)=>vRuns_holds (some ⟨ba,oa,none⟩) L c1 w' h ht
 rw [← hag] at HA
 rw [← han] at HN
 rw [← hct] at HC
 rw [← hf1,← hf2] at HF
 rw [hE] at HK
 simp only [k1,k2,k3] at H11
 simp only [k4,k5,k6] at H13
 simp only [k7,k8,k9] at H17
 simp only [s1,s2] at HS
 simp only [ex_of] at HO
 simp only [hl] at HA HN HC HF H11 H13 H17 HS HK
 clear k1 k2 k3 k4 k5 k6 k7 k8 k9 s1 s2 hag han hct hf1 hf2
 have HS2:∀ (aR:Option Addr) (LR:List Rn) (cR:Nat),LR.map rbare=exR→LR.length≤cR→∀ w',RunsAt w' aR LR→Calls Tryz.prog 35 #[.slice aR 2 cR] w' (RetU [] (fun X=>X.map rbare=exR) (fun a' n c'=>.tuple #[.slice a' n c',.int .i64 0]) w'):=fun aR LR cR hR hc w' h=>by
  have h2:=vSum_holds aR LR cR w' h (tabs_of hR (by decide +kernel)) (by rw [len_of hR];decide) hc
  obtain ⟨e1,e2⟩:=sum_of hR ex_sum2
  simp only [e1,e2,show LR.length=2 from len_of hR] at h2
  exact h2
 have HF1:∀ (aS:Option Addr) (LS:List Rn) (cS:Nat),LS.map rbare=exZ→∀ w',RunsAt w' (some ⟨ba,oa,none⟩) L→RunsAt w' aS LS→Calls Tryz.prog 36 #[.slice (some ⟨ba,oa,none⟩) 4 c1,.slice aS 4 cS] w' fun e w2=>e=.returned (.tuple #[.bool true,.int .i64 0])∧Below w'.heap.size w' w2:=fun aS LS cS hS w' h1 h=>by
  have h2:=vFin_holds (some ⟨ba,oa,none⟩) L c1 aS LS cS w' h1 h ht (tabs_of hS (by decide +kernel)) (by omega) (by rw [len_of hS];decide)
  have e:=finE_bare L LS
  rw [hL,hS,ex_fin1] at e
  simp only [← e,hl,show LS.length=4 from len_of hS] at h2
  exact h2
 have HF2:∀ (aS:Option Addr) (LS:List Rn) (cS:Nat),LS.map rbare=exZ→∀ w',RunsAt w' (some ⟨ba,oa,none⟩) L→RunsAt w' aS LS→Calls Tryz.prog 36 #[.slice aS 4 cS,.slice (some ⟨ba,oa,none⟩) 4 c1] w' fun e w2=>e=.returned (.tuple #[.bool false,.int .i64 0])∧Below w'.heap.size w' w2:=fun aS LS cS hS w' h1 h=>by
  have h2:=vFin_holds aS LS cS (some ⟨ba,oa,none⟩) L c1 w' h h1 (tabs_of hS (by decide +kernel)) ht (by rw [len_of hS];decide) (by omega)
  have e:=finE_bare LS L
  rw [hL,hS,ex_fin2] at e
  simp only [← e,hl,show LS.length=4 from len_of hS] at h2
  exact h2
 have HJ:∀ (aA:Option Addr) (LA:List Rn) (cA:Nat) (aB:Option Addr) (LB:List Rn) (cB:Nat),LA.map rbare=[mkR 10 11 5]→LB.map rbare=exB→∀ w',RunsAt w' aA LA→RunsAt w' aB LB→Calls Tryz.prog 34 #[.slice aA 1 cA,.slice aB 4 cB] w' (RetU [] (fun X=>X.map rbare=exA) (fun a' n c'=>.tuple #[.slice a' n c',.int .i64 0]) w'):=fun aA LA cA aB LB cB hA hB w' h1 h=>by
  have h2:=vJoin_holds aA LA cA aB LB cB w' h1 h (tabs_of hA (by decide +kernel)) (tabs_of hB (by decide +kernel)) (by rw [len_of hA];decide) (by rw [len_of hB];decide)
  obtain ⟨e1,e2⟩:=join_of hA hB ex_join
  simp only [e1,e2,show LA.length=1 from len_of hA,show LB.length=4 from len_of hB] at h2
  exact h2
 clear hE ht
 all_goals (refine goR ?_;and_intros<;>(try exact trivial)<;>repeat (first|refine fun (Bk:Nat)=>?_|intro h))
 repeat' ((first|(apply J.regA (.q 0 <| .q 3 <| .q 4 <| .q 7 <| .q 8 <| .q 9 <| .q 10 <| .q 11 <| .q 12 <| .f 1 (.q 2 <| .e 5 <| .q 6 <| .r 13 <| .q 14 <| .nil) 5 (.q 6 <| .e 1 <| .q 2 <| .r 13 <| .q 14 <| .nil));exact Tryz.mixed;decide +kernel)|(apply G.sliceL;rfl;rfl;rfl;rfl;rfl;rfl;rfl;rfl;intro Bs)|(apply G.ix (i:=2);rfl;rfl;exact rfl;decide;rfl)|(apply G.ix (i:=3);rfl;rfl;exact rfl;decide;rfl)|(apply G.ld;rfl;exact LdV.aggSl (f:=rnV) (l:=L) (i:=2) (N:=w.heap.size) (by exact mm) h2L rfl;rfl)|(apply G.ld;rfl;exact LdV.aggSl (f:=rnV) (l:=L) (i:=3) (N:=w.heap.size) (by exact mm) h3L rfl;rfl)|(apply G.cV (g:=30) (d:=37);rfl;rfl;exact fun w' hw'=>HA Bs w' (RunsAt.of hw') (blkSlC (f:=isV) (l:=[5,5,7,5,7,9,1,0]) hw' isV_len mm (by kernel_rfl)).1)|(apply G.cV (g:=30) (d:=41);rfl;rfl;exact fun w' hw'=>HN Bs w' (RunsAt.of hw') (blkSlC (f:=isV) (l:=[5,5,7,7,7,9,1,0]) hw' isV_len mm (by kernel_rfl)).1)|(apply G.cV (g:=23);rfl;rfl;exact fun w' hw'=>HC w' (RunsAt.of hw'))|(apply G.cO (g:=22) (fun u=>.tuple #[.agg #[.int .i64 10,u],.int .i64 0]);rfl;rfl;exact fun w' hw'=>HF w' (RunsAt.of hw');intro u;refine G.ownForm' RAt.au ?_;intro aF cF hv;subst hv)|(refine G.cU2 (g:=33) (vs:=[.slice (some ⟨ba,oa,none⟩) 4 c1,.int .i64 11]) (fun a' n c' b' m d'=>.tuple #[.slice a' n c',.slice b' m d',.int .i64 0]) (fun A B=>A.map rbare=[mkR 10 11 5]∧B.map rbare=exB) [] (.inl rfl) rfl rfl (fun w' hw'=>H11 w' (RunsAt.of hw')) ?_;intro LA aA cA LB aB cB ⟨hA,hB⟩ hA2 hB2;rw [show LA.length=1 from len_of hA,show LB.length=4 from len_of hB])|(refine G.cU2 (g:=33) (vs:=[.slice (some ⟨ba,oa,none⟩) 4 c1,.int .i64 13]) (fun a' n c' b' m d'=>.tuple #[.slice a' n c',.slice b' m d',.int .i64 29]) (fun A B=>A.map rbare=[]∧B.map rbare=[]) [] (.inl rfl) rfl rfl (fun w' hw'=>H13 w' (RunsAt.of hw')) ?_;intro LE aE cE LG aG cG ⟨hLE,hLG⟩ hE2 hG2;rw [show LE.length=0 from len_of hLE,show LG.length=0 from len_of hLG])|(refine G.cU2 (g:=33) (vs:=[.slice (some ⟨ba,oa,none⟩) 4 c1,.int .i64 17]) (fun a' n c' b' m d'=>.tuple #[.slice a' n c',.slice b' m d',.int .i64 0]) (fun A B=>A.map rbare=exC∧B.map rbare=exD) [] (.inl rfl) rfl rfl (fun w' hw'=>H17 w' (RunsAt.of hw')) ?_;intro LC aC cC LD aD cD ⟨hC,hD⟩ hC2 hD2;rw [show LC.length=4 from len_of hC,show LD.length=1 from len_of hD])|(refine G.cU (g:=35) (d:=72) (fun a' n c'=>.tuple #[.slice a' n c',.int .i64 0]) (fun L=>L.map rbare=exZ) [] (.inl rfl) rfl rfl (fun w' hw'=>HS w' (RunsAt.of hw')) ?_;intro LS aS cS hS hS2 _;rw [show LS.length=4 from len_of hS])|(refine G.cU (g:=21) (fun a' n c'=>.tuple #[.slice a' n c',.int .i64 0]) (fun L=>L.map rbare=exR) [] (.inl rfl) rfl rfl (fun w' hw'=>HO Bs w' (blkSlC (f:=isV) (l:=[5,5,7]) hw' isV_len mm (by kernel_rfl)).1) ?_;intro LR aR cR hR hR2 _;rw [show LR.length=2 from len_of hR])|(refine G.cU (g:=35) (d:=83) (fun a' n c'=>.tuple #[.slice a' n c',.int .i64 0]) (fun L=>L.map rbare=exR) [] (.inl rfl) rfl rfl (fun w' hw'=>HS2 aR LR cR hR hR2.2.2 w' (RunsAt.of hw')) ?_;intro LT aT cT hT hT2 _;rw [show LT.length=2 from len_of hT])|(apply G.cV (g:=36) (d:=89);rfl;rfl;exact fun w' hw'=>HF1 aS LS cS hS w' (RunsAt.of hw') (RunsAt.of hw'))|(apply G.cV (g:=36) (d:=95);rfl;rfl;exact fun w' hw'=>HF2 aS LS cS hS w' (RunsAt.of hw') (RunsAt.of hw'))|(refine G.cU (g:=34) (fun a' n c'=>.tuple #[.slice a' n c',.int .i64 0]) (fun L=>L.map rbare=exA) [] (.inl rfl) rfl rfl (fun w' hw'=>HJ aA LA cA aB LB cB hA hB w' (RunsAt.of hw') (RunsAt.of hw')) ?_;intro LJ aJ cJ hJ hJ2 _;rw [show LJ.length=4 from len_of hJ])|(apply J.regQ;exact Tryz.mixed;decide +kernel)|(apply J.regL';exact Tryz.mixed;decide +kernel))<;>(refine goR ?_;and_intros<;>(try exact trivial)<;>repeat (first|refine fun (Bk:Nat)=>?_|intro h)))
 apply G.cutC (X:=Nat×Nat×Nat) (fun x=>[(0,.bool false),(1,.slice (some ⟨ba,oa,none⟩) 4 c1),(2,.bool true),(3,.bool false),(4,.string (bs (nB 12))),(5,.int .i64 0),(6,.pointer (some ⟨Bk,0,none⟩)),(7,.int .i64 0),(8,.slice aA 1 cA),(9,.slice aB 4 cB),(10,.int .i64 0),(13,.int .i64 29),(14,.slice aC 4 cC),(15,.slice aD 1 cD),(16,.int .i64 0),(17,.slice aS 4 cS),(18,.int .i64 0),(19,.slice aR 2 cR),(20,.int .i64 0),(21,.slice aT 2 cT),(22,.int .i64 0),(23,.bool true),(24,.int .i64 0),(25,.bool false),(26,.int .i64 0),(27,.slice aJ 4 cJ),(28,.int .i64 0),(29,.slice (some ⟨x.2.2,0,none⟩) 4 4)]) (fun x=>.blk x.2.2 90 (flat rnV [⟨10,11,[(5,1)],some ⟨x.1,0,none⟩,1,0,0⟩,⟨11,15,[(5,2),(7,2)],some ⟨x.2.1,0,none⟩,2,0,0⟩,L[2],L[3]]) 20::.blk x.1 92 (flat hoV [(5,1)]) 2::.blk x.2.1 92 (flat hoV [(5,2),(7,2)]) 4::slRow w.heap.size aJ 5 (LJ.map rnV)::tfam w.heap.size LJ::slRow w.heap.size aT 5 (LT.map rnV)::tfam w.heap.size LT::slRow w.heap.size aR 5 (LR.map rnV)::tfam w.heap.size LR::slRow w.heap.size aS 5 (LS.map rnV)::tfam w.heap.size LS::slRow w.heap.size aD 5 (LD.map rnV)::tfam w.heap.size LD::slRow w.heap.size aC 5 (LC.map rnV)::tfam w.heap.size LC::slRow w.heap.size aA 5 (LA.map rnV)::tfam w.heap.size LA::slRow w.heap.size (some ⟨ba,oa,none⟩) 5 (L.map rnV)::tfam w.heap.size L::.own 0 (.slice aF 8 cF) 3 1 8 (flat isV [5,5,5,7,7,9,0,0])::[.blk Bk 46 [.int .i64 10,.slice aF 8 cF] 2])
 ·intro hk2
  have hk2:=fun a b c=>hk2 ⟨a,b,c⟩
  dsimp only at hk2
  all_goals (refine goG ?_;and_intros<;>(try exact trivial)<;>repeat (first|refine fun (Bk:Nat)=>?_|intro h))
  repeat' ((first|(apply G.fork)|(apply G.sliceL;rfl;rfl;rfl;rfl;rfl;rfl;rfl;rfl;intro Bs))<;>(refine goG ?_;and_intros<;>(try exact trivial)<;>repeat (first|refine fun (Bk:Nat)=>?_|intro h)))
  ·rename_i p1 p2
   refine J.blkEq (b:=Bs) (cs':=flat rnV [⟨10,11,[(5,1)],some ⟨p1,0,none⟩,1,0,0⟩,⟨11,15,[(5,2),(7,2)],some ⟨p2,0,none⟩,2,0,0⟩,L[2],L[3]]) (tot':=20) RAt.au (by kernel_rfl) (by kernel_rfl) ?_
   exact J.finS (hk2 p1 p2 Bs)
  ·rename_i p2 p1
   refine J.blkEq (b:=Bs) (cs':=flat rnV [⟨10,11,[(5,1)],some ⟨p1,0,none⟩,1,0,0⟩,⟨11,15,[(5,2),(7,2)],some ⟨p2,0,none⟩,2,0,0⟩,L[2],L[3]]) (tot':=20) RAt.au (by kernel_rfl) (by kernel_rfl) ?_
   exact J.finS (hk2 p1 p2 Bs)
 intro ⟨b1,b2,bw⟩
 dsimp only
 clear HO HA HN HC HF H11 H13 H17 HS HS2 HF1 HF2 HJ
 have HT:=fun w'=>natText_holds (nB 12) w' (by decide +kernel)
 rw [ex_12] at HT
 have HH:=fun b w' (h1:SlAt w' aF 1 (([5,5,5,7,7,9,0,0]:List Int).map isV)) h2=>sameH_holds 10 10 aF (some ⟨b,0,none⟩) [5,5,5,7,7,9,0,0] [5,5,5,7,7,9,0,0] cF 8 w' h1 h2 ⟨by decide,by decide⟩
 rw [decide_eq_true (⟨rfl,rfl⟩:([5,5,5,7,7,9,0,0]:List Int)=[5,5,5,7,7,9,0,0]∧(10:Int)=10)] at HH
 have hcC:4≤cC:=by have:=hC2.2;rw [len_of hC] at this;exact this
 obtain ⟨bc,oc,rfl⟩:=hC2.1 (by rw [len_of hC];decide)
 have hL2:rbare L[2]=mkR 15 16 9:=by
  have h:=congrArg (·[2]?) hL
  simp only [List.getElem?_map,List.getElem?_eq_getElem h2L] at h
  exact Option.some.inj h
 have hL3:rbare L[3]=⟨16,18,[],none,0,0,1⟩:=by
  have h:=congrArg (·[3]?) hL
  simp only [List.getElem?_map,List.getElem?_eq_getElem h3L] at h
  exact Option.some.inj h
 have hmL2:=List.getElem_mem h2L
 have hmL3:=List.getElem_mem h3L
 have hW:∀ M w',Sat w M w'→Row.blk bw 90 (flat rnV [⟨10,11,[(5,1)],some ⟨b1,0,none⟩,1,0,0⟩,⟨11,15,[(5,2),(7,2)],some ⟨b2,0,none⟩,2,0,0⟩,L[2],L[3]]) 20∈M→Row.blk b1 92 (flat hoV [(5,1)]) 2∈M→Row.blk b2 92 (flat hoV [(5,2),(7,2)]) 4∈M→RunsAt w' (some ⟨ba,oa,none⟩) L→RunsAt w' (some ⟨bw,0,none⟩) [⟨10,11,[(5,1)],some ⟨b1,0,none⟩,1,0,0⟩,⟨11,15,[(5,2),(7,2)],some ⟨b2,0,none⟩,2,0,0⟩,L[2],L[3]]:=fun M w' hw' m1 m2 m3 hR=>⟨(blkSlA hw' rnV_len m1).1,fun r hr=>by
  simp only [List.mem_cons,List.not_mem_nil,or_false] at hr
  rcases hr with rfl|rfl|rfl|rfl
  ·exact (blkSlA (f:=hoV) (l:=[(5,1)]) hw' hoV_len m2).1
  ·exact (blkSlA (f:=hoV) (l:=[(5,2),(7,2)]) hw' hoV_len m3).1
  ·exact hR.2 _ hmL2
  ·exact hR.2 _ hmL3⟩
 have hWb:([⟨10,11,[(5,1)],some ⟨b1,0,none⟩,1,0,0⟩,⟨11,15,[(5,2),(7,2)],some ⟨b2,0,none⟩,2,0,0⟩,L[2],L[3]]:List Rn).map rbare=exZ:=by
  simp only [List.map_cons,List.map_nil,hL2,hL3]
  rfl
 generalize L[2]=x2 at *
 generalize L[3]=x3 at *
 have hWs:=hW
 all_goals (refine goR ?_;and_intros<;>(try exact trivial)<;>repeat (first|refine fun (Bk:Nat)=>?_|intro h))
 repeat' ((first|(apply G.sliceL;rfl;rfl;rfl;rfl;rfl;rfl;rfl;rfl;intro Bs)|(apply G.slH (len:=1);rfl;rfl;exact rfl;decide;decide;rfl)|(apply G.slF (l:=3);rfl;rfl;exact rfl;decide;omega;rfl;rfl)|(apply G.cV (g:=29) (d:=185);rfl;rfl;exact fun w' hw'=>same_yes _ _ LA [⟨10,11,[(5,1)],some ⟨b1,0,none⟩,1,0,0⟩] 1 _ 1 _ w' (RunsAt.of hw') ((hW _ w' hw' (by exact mm) (by exact mm) (by exact mm) (RunsAt.of hw')).take 1) hA (len_of hA) (by decide) rfl (TbLe1 (Nat.le_of_ble_eq_true rfl)))|(apply G.cV (g:=29) (d:=191);rfl;rfl;exact fun w' hw'=>same_yes _ _ (LC.drop 3) [⟨16,17,[],none,0,0,1⟩] (4-3) _ 1 _ w' ((RunsAt.of (a:=some ⟨bc,oc,none⟩) (L:=LC) hw').drop 3) (gapLit (b:=Bs) hw' _ rfl mm (by kernel_rfl)) (by rw [List.map_drop,hC];rfl) (by rw [List.length_drop,len_of hC];rfl) (by decide) rfl (TbLe1 (Nat.le_of_ble_eq_true rfl)))|(apply G.cV (g:=29) (d:=197);rfl;rfl;exact fun w' hw'=>same_yes _ _ LD [⟨17,18,[],none,0,0,1⟩] 1 _ 1 _ w' (RunsAt.of hw') (gapLit (b:=Bs) hw' _ rfl mm (by kernel_rfl)) hD (len_of hD) (by decide) rfl (TbLe1 (Nat.le_of_ble_eq_true rfl)))|(apply G.cV (g:=29) (d:=202);rfl;rfl;exact fun w' hw'=>same_yes _ _ LJ L 4 _ 4 _ w' (RunsAt.of hw') (RunsAt.of hw') (hJ.trans hL.symm) (len_of hJ) (by decide) rfl (tabs_of hL (by decide +kernel))))<;>(refine goR ?_;and_intros<;>(try exact trivial)<;>repeat (first|refine fun (Bk:Nat)=>?_|intro h)))
 rename_i q1 q2
 apply G.cV (g:=29) (d:=212);rfl;rfl
 ·exact fun w' hw'=>same_yes _ _ LR [⟨10,12,[(5,2)],some ⟨q1,0,none⟩,1,0,0⟩,⟨12,13,[(7,1)],some ⟨q2,0,none⟩,1,0,0⟩] 2 _ 2 _ w' (RunsAt.of hw') ⟨(blkSlC (b:=Bs) (f:=rnV) (l:=[⟨10,12,[(5,2)],some ⟨q1,0,none⟩,1,0,0⟩,⟨12,13,[(7,1)],some ⟨q2,0,none⟩,1,0,0⟩]) hw' rnV_len mm (by kernel_rfl)).1,fun r hr=>by
   simp only [List.mem_cons,List.not_mem_nil,or_false] at hr
   rcases hr with rfl|rfl
   ·exact (blkSlC (b:=q1) (f:=hoV) (l:=[(5,2)]) hw' hoV_len mm (by kernel_rfl)).1
   ·exact (blkSlC (b:=q2) (f:=hoV) (l:=[(7,1)]) hw' hoV_len mm (by kernel_rfl)).1⟩ hR (len_of hR) (by decide) rfl (fun r hr=>by
   simp only [List.mem_cons,List.not_mem_nil,or_false] at hr
   rcases hr with rfl|rfl<;>exact Nat.le_of_ble_eq_true rfl)
 all_goals (refine goR ?_;and_intros<;>(try exact trivial)<;>repeat (first|refine fun (Bk:Nat)=>?_|intro h))
 repeat' ((first|(apply G.sliceL;rfl;rfl;rfl;rfl;rfl;rfl;rfl;rfl;intro Bs)|(apply G.eqlStr;rfl;rfl;rfl;rfl;rfl;all_goals intro h;all_goals try (exact absurd rfl h))|(apply G.cV (g:=29) (d:=216);rfl;rfl;exact fun w' hw'=>same_yes _ _ LT LR 2 _ 2 _ w' (RunsAt.of hw') (RunsAt.of hw') (hT.trans hR.symm) (len_of hT) (by decide) rfl (tabs_of hR (by decide +kernel)))|(apply G.cV (g:=77);rfl;rfl;exact fun w' _=>HT w')|(apply G.cV (g:=32) (vs:=[.agg #[.int .i64 10,.slice aF 8 cF],.agg #[.int .i64 10,.slice (some ⟨Bs,0,none⟩) 8 8]]);rfl;rfl;exact fun w' hw'=>HH Bs w' (SlAt.ofOwn isV_len (hw'.hold (.own 0 (.slice aF 8 cF) 3 1 8 (flat isV [5,5,5,7,7,9,0,0])) mm) rfl) (blkSlC (b:=Bs) (f:=isV) (l:=[5,5,5,7,7,9,0,0]) hw' isV_len mm (by kernel_rfl)).1)|(apply G.cV (g:=29) (d:=240);rfl;rfl;exact fun w' hw'=>same_yes _ _ LS [⟨10,11,[(5,1)],some ⟨b1,0,none⟩,1,0,0⟩,⟨11,15,[(5,2),(7,2)],some ⟨b2,0,none⟩,2,0,0⟩,x2,x3] 4 _ 4 _ w' (RunsAt.of hw') (hW _ w' hw' (by exact mm) (by exact mm) (by exact mm) (RunsAt.of hw')) (hS.trans hWb.symm) (len_of hS) (by decide) rfl (tabs_of hWb (by decide +kernel)))|(apply G.cV (g:=27);rfl;rfl;exact fun w' hw'=>HK w' (RunsAt.of hw')))<;>(refine goR ?_;and_intros<;>(try exact trivial)<;>repeat (first|refine fun (Bk:Nat)=>?_|intro h)))
 all_goals refine ret1b Tryz.func20 Tryz.results20 ?_
 all_goals rfl
end Go.Proofs.YtcdgibkbbcekhaaGreatDoor
