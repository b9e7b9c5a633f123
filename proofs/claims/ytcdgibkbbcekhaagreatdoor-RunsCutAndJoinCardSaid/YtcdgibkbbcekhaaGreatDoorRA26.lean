/-
  Contract of the specification of runs: Summarize.
-/
import Derived.Test.YtcdgibkbbcekhaaGreatDoorRA24
import Derived.Test.YtcdgibkbbcekhaaGreatDoorRA25
set_option linter.unusedVariables false
set_option linter.unusedSimpArgs false
set_option linter.unusedSectionVars false
namespace Go.Proofs.YtcdgibkbbcekhaaGreatDoor
open Go.RowKit Go.Sl Go.Num
theorem smF_gap {n:Nat}{o l:List Rn} (h:l.length≤n) (h0:l≠[]) (hg:(headD' l).tab.length=0):smF n o l=smF n (o++[headD' l]) (l.drop 1):=by
 cases n with
 | zero=>exact absurd (List.length_eq_zero_iff.1 (Nat.le_zero.1 h)) h0
 | succ n =>
  rw [smF,if_neg (fun e=>h0 (List.length_eq_zero_iff.1 e)),if_pos hg]
  have h1:0 < l.length:=List.length_pos_iff.2 h0
  exact smF_fuel _ _ _ _ (by rw [List.length_drop];omega) (by rw [List.length_drop];omega)
theorem smF_st {n m:Nat}{o l:List Rn} (h:l.length≤n) (h0:l≠[]) (hg:(headD' l).tab.length≠0) (hm:nst l=m):smF n o l=match smOne (l.take m) with
  | none=>none
  | some x=>smF n (o++x) (l.drop m):=by
 cases n with
 | zero=>exact absurd (List.length_eq_zero_iff.1 (Nat.le_zero.1 h)) h0
 | succ n =>
  rw [smF,if_neg (fun e=>h0 (List.length_eq_zero_iff.1 e)),if_neg hg,hm]
  have h1:0 < l.length:=List.length_pos_iff.2 h0
  have h2:=nst_pos h0
  cases smOne (l.take m) with
  | none=>rfl
  | some x=>exact smF_fuel _ _ _ _ (by rw [List.length_drop];omega) (by rw [List.length_drop];omega)
structure SmAt (l:List Rn) (p:Nat) (o:List Rn):Prop where
 le:p≤l.length
 eq:smF l.length (o.map rbare) ((l.drop p).map rbare)=smF l.length [] (l.map rbare)
theorem drop_ne {l:List Rn}{p:Nat} (h:p < l.length):(l.drop p).map rbare≠[]:=fun e=>by
 have:=congrArg List.length e
 rw [List.length_map,List.length_drop,List.length_nil] at this
 omega
theorem head_drop {l:List Rn}{p:Nat} (h:p < l.length):headD' ((l.drop p).map rbare)=rbare l[p]:=by
 rw [List.drop_eq_getElem_cons h];rfl
theorem SmAt.gap {l o:List Rn}{p:Nat} (h:SmAt l p o) (hp:p < l.length) (hg:l[p].tab.length=0):SmAt l (p+1) (o++[l[p]]):=⟨hp,by
 rw [← h.eq,smF_gap (l:=(l.drop p).map rbare) (by rw [List.length_map,List.length_drop];omega) (drop_ne hp) (by rw [head_drop hp];exact hg),head_drop hp,← List.map_drop,List.drop_drop,List.map_append]
 rfl⟩
theorem seg_nst {l:List Rn}{p q:Nat} (h0:p < q) (hq:q≤l.length) (h1:∀ i (h:i < l.length),p≤i→i < q→l[i].tab.length≠0) (h2:∀ (h:q < l.length),l[q].tab.length=0):nst (l.drop p)=q-p:=by
 refine nst_iff (by omega) (by rw [List.length_drop];omega) (fun i h=>?_) fun h=>?_
 ·rw [List.getElem_drop];exact h1 _ _ (by omega) (by omega)
 ·rw [List.length_drop] at h
  rw [List.getElem_drop]
  have:=h2 (by omega)
  have e:p+(q-p)=q:=by omega
  simp only [e];exact this
theorem SmAt.seg {l o:List Rn}{p q:Nat} (h:SmAt l p o) (h0:p < q) (hq:q≤l.length) (h1:∀ i (h:i < l.length),p≤i→i < q→l[i].tab.length≠0) (h2:∀ (h:q < l.length),l[q].tab.length=0) :
  (smOne ((l.drop p).take (q-p))=none→smF l.length [] (l.map rbare)=none)∧∀ x L,smOne ((l.drop p).take (q-p))=some x→L.map rbare=x.map rbare→SmAt l q (o++L):=by
 have hp:p < l.length:=by omega
 have hst:=smF_st (n:=l.length) (m:=q-p) (o:=o.map rbare) (l:=(l.drop p).map rbare) (by rw [List.length_map,List.length_drop];omega) (drop_ne hp) (by rw [head_drop hp];exact h1 p hp (Nat.le_refl _) h0) (by rw [nst_bare];exact seg_nst h0 hq h1 h2)
 rw [h.eq,← List.map_take,smOne_bare,← List.map_drop,List.drop_drop,show p+(q-p)=q by omega] at hst
 refine ⟨fun e=>by rw [hst,e],fun x L e eL=>⟨hq,?_⟩⟩
 rw [hst,e,List.map_append,eL,smOne_x e]
theorem SmAt.done {l o:List Rn} (h:SmAt l l.length o):smF l.length [] (l.map rbare)=some (o.map rbare):=by
 rw [← h.eq,List.drop_length]
 cases l.length<;>rfl
theorem sumE_ok {l o:List Rn} (h0:runsErr l=0) (h:smF l.length [] (l.map rbare)=some (o.map rbare)):(sumE l).2=0∧∀ L:List Rn,L.map rbare=joinL (o.map rbare)→L.map rbare=(sumE l).1.map rbare:=by
 have h1:=smF_bare l.length [] l
 rw [List.map_nil,h] at h1
 rw [sumE,if_neg (not_not_intro h0)]
 cases hx:smF l.length [] l with
 | none=>rw [hx] at h1;cases h1
 | some x =>
  rw [hx] at h1
  have h2:o.map rbare=x.map rbare:=Option.some.inj h1
  exact ⟨rfl,fun L hL=>by rw [hL,h2,joinL_bare]⟩
theorem sumE_no {l:List Rn} (h0:runsErr l=0) (h:smF l.length [] (l.map rbare)=none):sumE l=([],29):=by
 have h1:=smF_bare l.length [] l
 rw [List.map_nil,h] at h1
 rw [sumE,if_neg (not_not_intro h0)]
 cases hx:smF l.length [] l with
 | none=>rfl
 | some x=>rw [hx] at h1;cases h1
theorem smS_len (f t a b:Int) (T:List (Int×Int)):(smS f t a b T).length≤3:=by
 rw [smS,List.length_append,List.length_append]
 split<;>split<;>simp
theorem smOne_len {l x:List Rn} (h:smOne l=some x):x.length≤3:=by
 unfold smOne at h
 split at h
 ·rw [← Option.some.inj h];exact smS_len ..
 ·cases h
set_option maxHeartbeats 4000000 in
theorem rSum16_holds (a:Option Addr) (l:List Rn) (c:Nat) (w:World) (hA:RunsAt w a l) (hta:∀ r∈l,r.tab.length≤64) (hl:l.length≤400) (hcap:l.length≤c) :
  Calls Tryz.prog 39 #[.slice a l.length c] w (RetU l (fun L=>L.map rbare=(sumE l).1.map rbare) (fun a' n c'=>.agg #[.slice a' n c',.int .i64 (sumE l).2]) w):=by
 have hck:=fun w' (hb:Below w.heap.size w w')=>rRuns_holds a l c w' (hA.below hb) hta
 by_cases hE0:runsErr l=0
 case neg =>
  have hJ:sumE l=([],runsErr l):=by rw [sumE,if_pos hE0]
  rw [hJ]
  generalize runsErr l=E at *
  refine enterA [(0,.slice a l.length c)] Tryz.func39 Tryz.ntmps39 ?_
  all_goals (refine go ?_;and_intros<;>(try exact trivial)<;>repeat (first|refine fun (Bk:Nat)=>?_|intro h))
  repeat' ((first|(apply G.cV (g:=28);rfl;rfl;exact fun w' hw'=>hck w' hw'.below))<;>(refine go ?_;and_intros<;>(try exact trivial)<;>repeat (first|refine fun (Bk:Nat)=>?_|intro h)))
  (all_goals refine ret1 Tryz.func39 Tryz.results39 ?_)
  all_goals exact fun w' hw'=>RetU.nil (fun a' n c'=>.agg #[.slice a' n c',.int .i64 E]) hw'.below rfl
 rw [hE0] at hck
 obtain ⟨hO,_,hc3⟩:=runs_ok hE0
 obtain ⟨f,t,hC⟩:∃ f t,Cn f l t:=by
  by_cases h0:l=[]
  ·subst h0;exact ⟨0,0,rfl⟩
  ·exact ⟨_,_,(hc3 h0).1⟩
 clear hc3
 refine enterA [(0,.slice a l.length c)] Tryz.func39 Tryz.ntmps39 ?_
 all_goals (refine go ?_;and_intros<;>(try exact trivial)<;>repeat (first|refine fun (Bk:Nat)=>?_|intro h))
 repeat' ((first|(apply G.cV (g:=28);rfl;rfl;exact fun w' hw'=>hck w' hw'.below))<;>(refine go ?_;and_intros<;>(try exact trivial)<;>repeat (first|refine fun (Bk:Nat)=>?_|intro h)))
 revert Bk;intro B2
 apply J.nilOwn (E:=90) (size:=5)
 refine J.tfamOld hA ?_
 apply J.fam0 Rn.adr 2 (fun r=>r.tab.map hoV)
 refine J.loop (c:=_) ((0,none,0,[]):Nat×Option Addr×Nat×List Rn) (fun s=>l.length-s.1) (fun s=>[(0,.slice a l.length c),(2,.pointer (some ⟨B2,0,none⟩)),(4,.slice s.2.1 s.2.2.2.length s.2.2.1),(5,.int .i64 (s.1:Nat))]) (fun s=>[tfam w.heap.size s.2.2.2,tfam w.heap.size l,.own 0 (.slice s.2.1 s.2.2.2.length s.2.2.1) 90 5 s.2.2.2.length (flat rnV s.2.2.2),.blk B2 55 [.slice none 0 0,.int .i64 0] 2]) (fun s=>SmAt l s.1 s.2.2.2∧srcR w.heap.size l s.2.2.2∧s.2.2.2.length≤3*s.1) ?_ sbT sbL ?_
 ·exact ⟨⟨Nat.zero_le _,rfl⟩,srcR.nil,Nat.le_refl _⟩
 intro ⟨p,au,cu,o⟩ ⟨hi1,hi2,hi3⟩ ih
 dsimp only at hi1 hi2 hi3 ⊢
 by_cases hp:p < l.length
 case neg =>
  obtain rfl:p=l.length:=by have:=hi1.le;omega
  have hd:=hi1.done
  obtain ⟨e1,e2⟩:=sumE_ok hE0 hd
  rw [e1]
  obtain ⟨k1,k2,_⟩:=smF_ok l.length (o:=[]) (l:=l.map rbare) (f0:=f) (f:=f) (t:=t) (by rw [List.length_map];exact Nat.le_refl _) rfl (fun r hr=>by cases hr) (cn_bare.2 hC) (fun r hr=>by obtain ⟨x,hx,rfl⟩:=List.mem_map.1 hr;exact ok_bare.2 (hO x hx)) hd
  have k1:=cn_bare.1 k1
  have k2:∀ r∈o,OkR r:=fun r hr=>ok_bare.1 (k2 _ (List.mem_map_of_mem hr))
  have hjn:(joinL (o.map rbare)).length≤1200:=by
   have:=joinL_len (o.map rbare)
   rw [List.length_map] at this;omega
  clear ih hd hi1
  all_goals (refine go ?_;and_intros<;>(try exact trivial)<;>repeat (first|refine fun (Bk:Nat)=>?_|intro h))
  repeat' ((first|(refine G.cU (g:=104) (fun a' n c'=>.slice a' n c') (fun L=>L.map rbare=joinL (o.map rbare)) o (.inr mm) rfl rfl (fun w' hw'=>rJoined_holds _ o _ f t w' (own5R (N:=w.heap.size) hw' rfl) k1 k2 (by omega)) ?_;intro L a3 c3 hL ⟨hL1,hL2⟩ hL3;have hLl:L.length≤1200:=(by rw [← List.length_map (f:=rbare),hL];exact hjn)))<;>(refine go ?_;and_intros<;>(try exact trivial)<;>repeat (first|refine fun (Bk:Nat)=>?_|intro h)))
  (all_goals refine ret1 Tryz.func39 Tryz.results39 ?_)
  exact fun w' hw'=>Sat.retS (fun a' n c'=>.agg #[.slice a' n c',.int .i64 0]) hw' (e2 L hL) rfl hL2 (hL3.comp hi2)
 obtain ⟨ba,oa,rfl,hra⟩:=SlAt.all hA.1 (by omega)
 by_cases hg:l[p].tab.length=0
 ·have hn:=hi1.gap hp hg
  have ih1:=fun a' c'=>ih (p+1,a',c',o++[l[p]]) ⟨hn,hi2.app (srcR.self fun r hr=>by rw [List.mem_singleton.1 hr];exact List.getElem_mem hp),by dsimp only;rw [List.length_append,List.length_singleton];omega⟩ (by dsimp only;omega)
  dsimp only at ih1
  rw [show (o++[l[p]]).length=o.length+1 by simp] at ih1
  have hrn:=hra p hp
  have hmx:=List.getElem_mem hp
  clear ih hn hra hi1 hC hO hta
  generalize l[p]=x at *
  have hap:flat rnV o++rnV x=flat rnV (o++[x]):=flat1 rnV _ _
  obtain ⟨xf,xt,tab,adr,cx,lo,hi⟩:=x
  dsimp only [rnV] at *
  all_goals (refine go ?_;and_intros<;>(try exact trivial)<;>repeat (first|refine fun (Bk:Nat)=>?_|intro h))
  repeat' ((first|(apply G.sliceL;rfl;rfl;rfl;rfl;rfl;rfl;rfl;rfl;intro Bs)|(apply G.apV;rfl;rfl;rfl;(repeat (first|exact RAt.head|apply RAt.tail));exact SrcV.blk (by exact mm) rfl rfl;exact hap;omega;omega;intro a2 c2))<;>(refine go ?_;and_intros<;>(try exact trivial)<;>repeat (first|refine fun (Bk:Nat)=>?_|intro h)))
  refine J.tfamTo (o:=o) (l:=l) (o++[⟨xf,xt,tab,adr,cx,lo,hi⟩]) mm mm (fun r hr=>(List.mem_append.1 hr).imp id fun hr=>by rw [List.mem_singleton.1 hr];exact hmx) ?_
  exact J.fin (ih1 a2 c2)
 have hrp:=hra p hp
 have hgp:=hg
 rw [show rnV l[p]=[.int .i64 l[p].from_,.int .i64 l[p].to_,.slice l[p].adr l[p].tab.length l[p].cap,.int .i64 l[p].lo,.int .i64 l[p].hi] from rfl] at hrp
 generalize l[p].tab.length=tl at hrp hgp
 all_goals (refine go ?_;and_intros<;>(try exact trivial)<;>repeat (first|refine fun (Bk:Nat)=>?_|intro h))
 repeat' ((first|fail)<;>(refine go ?_;and_intros<;>(try exact trivial)<;>repeat (first|refine fun (Bk:Nat)=>?_|intro h)))
 refine J.loop (c:=_) (p:Nat) (fun s=>l.length-s) (fun s=>[(0,.slice (some ⟨ba,oa,none⟩) l.length c),(2,.pointer (some ⟨B2,0,none⟩)),(4,.slice au o.length cu),(5,.int .i64 (s:Nat)),(6,.int .i64 (p:Nat))]) (fun s=>[tfam w.heap.size o,tfam w.heap.size l,.own 0 (.slice au o.length cu) 90 5 o.length (flat rnV o),.blk B2 55 [.slice none 0 0,.int .i64 0] 2]) (fun s=>p≤s∧s≤l.length∧∀ i (h:i < l.length),p≤i→i < s→l[i].tab.length≠0) ?_ sbT sbL ?_
 ·exact ⟨Nat.le_refl _,Nat.le_of_lt hp,fun i _ h1 h2=>by omega⟩
 intro q ⟨q1,q2,q3⟩ ih2
 obtain ⟨f2,t2,hCs⟩:∃ f2 t2,Cn f2 ((l.drop p).take (q-p)) t2:=by
  rw [← List.take_append_drop p l] at hC
  obtain ⟨m,_,h2⟩:=Cn.app.1 hC
  rw [← List.take_append_drop (q-p) (l.drop p)] at h2
  obtain ⟨m2,h3,_⟩:=Cn.app.1 h2
  exact ⟨m,m2,h3⟩
 by_cases hq:q < l.length
 case neg =>
  have hpq:p < q:=by omega
  have hex:∀ (h:q < l.length),l[q].tab.length=0:=fun h=>absurd h hq
  have hseg:=hi1.seg hpq q2 q3 hex
  have hsl:((l.drop p).take (q-p)).length=q-p:=by rw [List.length_take,List.length_drop];omega
  have hmem:∀ r∈(l.drop p).take (q-p),r∈l:=fun r hr=>List.mem_of_mem_drop (List.mem_of_mem_take hr)
  have hst:=fun w' (hb:Below w.heap.size w w')=>stretch16_holds (some ⟨ba,oa+p*5,none⟩) ((l.drop p).take (q-p)) (c-p) f2 t2 w' (RunsAt.below ⟨SlAt.seg hra p (q-p) (by omega),fun r hr=>hA.2 r (hmem r hr)⟩ hb) (fun r hr=>hta r (hmem r hr)) (fun r hr=>hO r (hmem r hr)) hCs (by omega) (by omega)
  rw [hsl] at hst
  cases hx:smOne ((l.drop p).take (q-p)) with
  | none =>
   have hE:=sumE_no hE0 (hseg.1 hx)
   rw [strE,hx] at hst
   rw [hE]
   clear ih ih2 hseg hi1
   all_goals (refine go ?_;and_intros<;>(try exact trivial)<;>repeat (first|refine fun (Bk:Nat)=>?_|intro h))
   repeat' ((first|(apply G.slp (l:=p) (h:=q) (off:=oa+p*5) (len:=q-p);rfl;rfl;rfl;rfl;rfl;omega;omega;omega;rfl;rfl;rfl)|(refine G.cU (g:=105) (fun a' n c'=>.agg #[.slice a' n c',.int .i64 29]) (fun L=>L.map rbare=([]:List Rn).map rbare) [] (.inl rfl) rfl rfl (fun w' hw'=>hst w' hw'.below) ?_;intro L a3 c3 hL ⟨hL1,hL2⟩ hL3))<;>(refine go ?_;and_intros<;>(try exact trivial)<;>repeat (first|refine fun (Bk:Nat)=>?_|intro h)))
   obtain rfl:L=[]:=List.map_eq_nil_iff.1 hL
   (all_goals refine ret1 Tryz.func39 Tryz.results39 ?_)
   exact fun w' hw'=>Sat.retS (L:=[]) (fun a' n c'=>.agg #[.slice a' n c',.int .i64 29]) hw' rfl rfl hL2 srcR.nil
  | some x =>
   have hnx:=fun L=>hseg.2 x L hx
   rw [strE,hx] at hst
   have ih3:=fun a' c' (L:List Rn) (e1:L.map rbare=x.map rbare) (e2:srcR w.heap.size [] L) (e3:L.length≤3)=>ih (q,a',c',o++L) ⟨hnx L e1,hi2.app (e2.mono (Nat.le_refl _) fun _ h=>by cases h),by dsimp only;rw [List.length_append];omega⟩ (by dsimp only;omega)
   dsimp only at ih3
   have hx3:=smOne_len hx
   clear ih ih2 hseg hnx
   all_goals (refine go ?_;and_intros<;>(try exact trivial)<;>repeat (first|refine fun (Bk:Nat)=>?_|intro h))
   repeat' ((first|(apply G.slp (l:=p) (h:=q) (off:=oa+p*5) (len:=q-p);rfl;rfl;rfl;rfl;rfl;omega;omega;omega;rfl;rfl;rfl)|(refine G.cU (g:=105) (fun a' n c'=>.agg #[.slice a' n c',.int .i64 0]) (fun L=>L.map rbare=x.map rbare) [] (.inl rfl) rfl rfl (fun w' hw'=>hst w' hw'.below) ?_;intro L a3 c3 hL ⟨hL1,hL2⟩ hL3;have hLl:L.length≤3:=(by rw [← List.length_map (f:=rbare),hL,List.length_map];exact hx3))|(apply G.apV;rfl;rfl;rfl;(repeat (first|exact RAt.head|apply RAt.tail));exact SrcV.sl rnV_len rnV_one (fun h=>hL1 (by rwa [List.length_map] at h)) mm;exact (flat_append rnV o L).symm;omega;omega;intro a2 c2))<;>(refine go ?_;and_intros<;>(try exact trivial)<;>repeat (first|refine fun (Bk:Nat)=>?_|intro h)))
   refine J.tfamTo (o:=o) (l:=L) (o++L) mm mm (fun r hr=>List.mem_append.1 hr) ?_
   have hlen:(o++L).length=o.length+L.length:=List.length_append ..
   have ih4:=ih3 a2 c2 L hL hL3 hLl
   rw [hlen] at ih4
   exact J.fin ih4
 have hrq:=hra q hq
 rw [show rnV l[q]=[.int .i64 l[q].from_,.int .i64 l[q].to_,.slice l[q].adr l[q].tab.length l[q].cap,.int .i64 l[q].lo,.int .i64 l[q].hi] from rfl] at hrq
 by_cases ht:l[q].tab.length=0
 ·have hpq:p < q:=by
   rcases Nat.lt_or_ge p q with h|h
   ·exact h
   ·obtain rfl:p=q:=by omega
    exact absurd ht hg
  have hex:∀ (h:q < l.length),l[q].tab.length=0:=fun _=>ht
  have hseg:=hi1.seg hpq q2 q3 hex
  have hsl:((l.drop p).take (q-p)).length=q-p:=by rw [List.length_take,List.length_drop];omega
  have hmem:∀ r∈(l.drop p).take (q-p),r∈l:=fun r hr=>List.mem_of_mem_drop (List.mem_of_mem_take hr)
  have hst:=fun w' (hb:Below w.heap.size w w')=>stretch16_holds (some ⟨ba,oa+p*5,none⟩) ((l.drop p).take (q-p)) (c-p) f2 t2 w' (RunsAt.below ⟨SlAt.seg hra p (q-p) (by omega),fun r hr=>hA.2 r (hmem r hr)⟩ hb) (fun r hr=>hta r (hmem r hr)) (fun r hr=>hO r (hmem r hr)) hCs (by omega) (by omega)
  rw [hsl] at hst
  cases hx:smOne ((l.drop p).take (q-p)) with
  | none =>
   have hE:=sumE_no hE0 (hseg.1 hx)
   rw [strE,hx] at hst
   rw [hE]
   clear ih ih2 hseg hi1
   all_goals (refine go ?_;and_intros<;>(try exact trivial)<;>repeat (first|refine fun (Bk:Nat)=>?_|intro h))
   repeat' ((first|(apply G.ix (i:=q);rfl;rfl;omega;omega;rfl)|(apply G.slp (l:=p) (h:=q) (off:=oa+p*5) (len:=q-p);rfl;rfl;rfl;rfl;rfl;omega;omega;omega;rfl;rfl;rfl)|(refine G.cU (g:=105) (fun a' n c'=>.agg #[.slice a' n c',.int .i64 29]) (fun L=>L.map rbare=([]:List Rn).map rbare) [] (.inl rfl) rfl rfl (fun w' hw'=>hst w' hw'.below) ?_;intro L a3 c3 hL ⟨hL1,hL2⟩ hL3))<;>(refine go ?_;and_intros<;>(try exact trivial)<;>repeat (first|refine fun (Bk:Nat)=>?_|intro h)))
   obtain rfl:L=[]:=List.map_eq_nil_iff.1 hL
   (all_goals refine ret1 Tryz.func39 Tryz.results39 ?_)
   exact fun w' hw'=>Sat.retS (L:=[]) (fun a' n c'=>.agg #[.slice a' n c',.int .i64 29]) hw' rfl rfl hL2 srcR.nil
  | some x =>
   have hnx:=fun L=>hseg.2 x L hx
   rw [strE,hx] at hst
   have ih3:=fun a' c' (L:List Rn) (e1:L.map rbare=x.map rbare) (e2:srcR w.heap.size [] L) (e3:L.length≤3)=>ih (q,a',c',o++L) ⟨hnx L e1,hi2.app (e2.mono (Nat.le_refl _) fun _ h=>by cases h),by dsimp only;rw [List.length_append];omega⟩ (by dsimp only;omega)
   dsimp only at ih3
   have hx3:=smOne_len hx
   clear ih ih2 hseg hnx
   all_goals (refine go ?_;and_intros<;>(try exact trivial)<;>repeat (first|refine fun (Bk:Nat)=>?_|intro h))
   repeat' ((first|(apply G.ix (i:=q);rfl;rfl;omega;omega;rfl)|(apply G.slp (l:=p) (h:=q) (off:=oa+p*5) (len:=q-p);rfl;rfl;rfl;rfl;rfl;omega;omega;omega;rfl;rfl;rfl)|(refine G.cU (g:=105) (fun a' n c'=>.agg #[.slice a' n c',.int .i64 0]) (fun L=>L.map rbare=x.map rbare) [] (.inl rfl) rfl rfl (fun w' hw'=>hst w' hw'.below) ?_;intro L a3 c3 hL ⟨hL1,hL2⟩ hL3;have hLl:L.length≤3:=(by rw [← List.length_map (f:=rbare),hL,List.length_map];exact hx3))|(apply G.apV;rfl;rfl;rfl;(repeat (first|exact RAt.head|apply RAt.tail));exact SrcV.sl rnV_len rnV_one (fun h=>hL1 (by rwa [List.length_map] at h)) mm;exact (flat_append rnV o L).symm;omega;omega;intro a2 c2))<;>(refine go ?_;and_intros<;>(try exact trivial)<;>repeat (first|refine fun (Bk:Nat)=>?_|intro h)))
   refine J.tfamTo (o:=o) (l:=L) (o++L) mm mm (fun r hr=>List.mem_append.1 hr) ?_
   have hlen:(o++L).length=o.length+L.length:=List.length_append ..
   have ih4:=ih3 a2 c2 L hL hL3 hLl
   rw [hlen] at ih4
   exact J.fin ih4
 have ih3:=ih2 (q+1) ⟨Nat.le_succ_of_le q1,hq,fun i h h1 h2=>by
  rcases Nat.lt_or_ge i q with h3|h3
  ·exact q3 i h h1 h3
  ·obtain rfl:i=q:=by omega
   exact ht⟩ (by omega)
 clear ih ih2 hra hCs
 all_goals (refine go ?_;and_intros<;>(try exact trivial)<;>repeat (first|refine fun (Bk:Nat)=>?_|intro h))
 repeat' ((first|(apply G.ix (i:=q);rfl;rfl;omega;omega;rfl))<;>(refine go ?_;and_intros<;>(try exact trivial)<;>repeat (first|refine fun (Bk:Nat)=>?_|intro h)))
 exact J.fin ih3
end Go.Proofs.YtcdgibkbbcekhaaGreatDoor
