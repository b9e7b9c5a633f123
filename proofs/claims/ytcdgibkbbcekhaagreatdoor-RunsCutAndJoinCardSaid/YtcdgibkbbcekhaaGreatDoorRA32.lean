/-
  Contract: run.Finer.
-/
import Derived.Test.YtcdgibkbbcekhaaGreatDoorRA30
set_option linter.unusedVariables false
set_option linter.unusedSimpArgs false
set_option linter.unusedSectionVars false
namespace Go.Proofs.YtcdgibkbbcekhaaGreatDoor
open Go.RowKit Go.Sl Go.Num
theorem mem_erase_ne {α:Type}{R:List α}{j:Nat} (hj:j < R.length) {p:α} (h:p∈R) (hne:p≠R[j]):p∈R.eraseIdx j:=by
 obtain ⟨i,hi,e⟩:=List.mem_iff_getElem.1 h
 refine List.mem_eraseIdx_iff_getElem.2 ⟨i,hi,fun e2=>hne ?_,e⟩
 subst e2;exact e.symm
theorem all_take_succ {α:Type}{l:List α}{k:Nat} (hk:k < l.length) {P:α→Prop} (h:∀ x∈l.take k,P x) (h1:P l[k]):∀ x∈l.take (k+1),P x:=fun x hx=>by
 rw [List.take_succ_eq_append_getElem hk] at hx
 rcases List.mem_append.1 hx with hx|hx
 ·exact h x hx
 ·rw [List.mem_singleton.1 hx];exact h1
set_option maxHeartbeats 4000000 in
theorem vFin_holds (a:Option Addr) (la:List Rn) (ca:Nat) (b:Option Addr) (lb:List Rn) (cb:Nat) (w:World) (hA:RunsAt w a la) (hB:RunsAt w b lb) (hta:∀ r∈la,r.tab.length≤64) (htb:∀ r∈lb,r.tab.length≤64) (hla:la.length≤400) (hlb:lb.length≤400) :
  Calls Tryz.prog 36 #[.slice a la.length ca,.slice b lb.length cb] w (fun e w'=>e=.returned (.tuple #[.bool (finE la lb).1,.int .i64 (finE la lb).2])∧Below w.heap.size w w'):=by
 have hca:=fun w' (hb:Below w.heap.size w w')=>vRuns_holds a la ca w' (hA.below hb) hta
 have hcb:=fun w' (hb:Below w.heap.size w w')=>vRuns_holds b lb cb w' (hB.below hb) htb
 refine enterA [(0,.slice a la.length ca),(1,.slice b lb.length cb)] Tryz.func36 Tryz.ntmps36 ?_
 all_goals (refine go ?_;and_intros<;>(try exact trivial)<;>repeat (first|refine fun (Bk:Nat)=>?_|intro h))
 repeat' ((first|(apply G.sliceL;rfl;rfl;rfl;rfl;rfl;rfl;rfl;rfl;intro Bs))<;>(refine go ?_;and_intros<;>(try exact trivial)<;>repeat (first|refine fun (Bk:Nat)=>?_|intro h)))
 refine J.loop (c:=_) (0:Nat) (fun s=>2-s) (fun s=>[(0,.slice a la.length ca),(1,.slice b lb.length cb),(26,.slice (some ⟨Bs,0,none⟩) 2 2),(27,.int .i64 2),(28,.int .i64 s)]) (fun s=>[.blk Bs 43 [.slice a la.length ca,.slice b lb.length cb] 2]) (fun s=>s≤2∧(1≤s→runsErr la=0)∧(2≤s→runsErr lb=0)) ?_ sbT sbL ?_
 ·exact ⟨Nat.zero_le _,fun h=>absurd h (by decide),fun h=>absurd h (by decide)⟩
 intro n ⟨h1,h2,h3⟩ ih
 by_cases hn:n < 2
 ·rcases n with _|_|n
  ·by_cases hE:runsErr la=0
   ·rw [hE] at hca
    all_goals (refine go ?_;and_intros<;>(try exact trivial)<;>repeat (first|refine fun (Bk:Nat)=>?_|intro h))
    repeat' ((first|(apply G.ix (i:=0);rfl;rfl;exact rfl;omega;rfl)|(refine G.cvb hca ?_))<;>(refine go ?_;and_intros<;>(try exact trivial)<;>repeat (first|refine fun (Bk:Nat)=>?_|intro h)))
    exact J.fin (ih 1 ⟨by decide,fun _=>hE,fun h=>absurd h (by decide)⟩ (by decide))
   ·have hJ:finE la lb=(false,runsErr la):=by rw [finE,if_pos hE]
    clear ih
    rw [hJ]
    generalize runsErr la=E at *
    all_goals (refine go ?_;and_intros<;>(try exact trivial)<;>repeat (first|refine fun (Bk:Nat)=>?_|intro h))
    repeat' ((first|(apply G.ix (i:=0);rfl;rfl;exact rfl;omega;rfl)|(refine G.cvb hca ?_))<;>(refine go ?_;and_intros<;>(try exact trivial)<;>repeat (first|refine fun (Bk:Nat)=>?_|intro h)))
    all_goals refine ret2b Tryz.func36 Tryz.results36 ?_
    all_goals rfl
  ·by_cases hE:runsErr lb=0
   ·rw [hE] at hcb
    all_goals (refine go ?_;and_intros<;>(try exact trivial)<;>repeat (first|refine fun (Bk:Nat)=>?_|intro h))
    repeat' ((first|(apply G.ix (i:=1);rfl;rfl;exact rfl;omega;rfl)|(refine G.cvb hcb ?_))<;>(refine go ?_;and_intros<;>(try exact trivial)<;>repeat (first|refine fun (Bk:Nat)=>?_|intro h)))
    exact J.fin (ih 2 ⟨by decide,fun _=>h2 (by decide),fun _=>hE⟩ (by decide))
   ·have hJ:finE la lb=(false,runsErr lb):=by rw [finE,if_neg (by rw [h2 (by decide)];decide),if_pos hE]
    clear ih
    rw [hJ]
    generalize runsErr lb=E at *
    all_goals (refine go ?_;and_intros<;>(try exact trivial)<;>repeat (first|refine fun (Bk:Nat)=>?_|intro h))
    repeat' ((first|(apply G.ix (i:=1);rfl;rfl;exact rfl;omega;rfl)|(refine G.cvb hcb ?_))<;>(refine go ?_;and_intros<;>(try exact trivial)<;>repeat (first|refine fun (Bk:Nat)=>?_|intro h)))
    all_goals refine ret2b Tryz.func36 Tryz.results36 ?_
    all_goals rfl
  ·omega
 obtain rfl:n=2:=by omega
 have hEa:=h2 (by decide)
 have hEb:=h3 (by decide)
 clear ih h1 h2 h3 hn hca hcb
 obtain ⟨oA,_,ca3⟩:=runs_ok hEa
 obtain ⟨oB,_,cb3⟩:=runs_ok hEb
 by_cases a0:la.length=0
 ·rw [fin_nil hEa hEb (.inl a0)]
  by_cases b0:lb.length=0
  ·rw [decide_eq_true (a0.trans b0.symm)]
   all_goals (refine go ?_;and_intros<;>(try exact trivial)<;>repeat (first|refine fun (Bk:Nat)=>?_|intro h))
   repeat' ((first|fail)<;>(refine go ?_;and_intros<;>(try exact trivial)<;>repeat (first|refine fun (Bk:Nat)=>?_|intro h)))
   all_goals refine ret2b Tryz.func36 Tryz.results36 ?_
   all_goals rfl
  ·rw [decide_eq_false (fun e:la.length=lb.length=>b0 (e.symm.trans a0))]
   all_goals (refine go ?_;and_intros<;>(try exact trivial)<;>repeat (first|refine fun (Bk:Nat)=>?_|intro h))
   repeat' ((first|fail)<;>(refine go ?_;and_intros<;>(try exact trivial)<;>repeat (first|refine fun (Bk:Nat)=>?_|intro h)))
   all_goals refine ret2b Tryz.func36 Tryz.results36 ?_
   all_goals rfl
 by_cases b0:lb.length=0
 ·rw [fin_nil hEa hEb (.inr b0),decide_eq_false (fun e:la.length=lb.length=>a0 (e.trans b0))]
  all_goals (refine go ?_;and_intros<;>(try exact trivial)<;>repeat (first|refine fun (Bk:Nat)=>?_|intro h))
  repeat' ((first|fail)<;>(refine go ?_;and_intros<;>(try exact trivial)<;>repeat (first|refine fun (Bk:Nat)=>?_|intro h)))
  all_goals refine ret2b Tryz.func36 Tryz.results36 ?_
  all_goals rfl
 clear ca3 cb3
 have hFe:=fin_end hEa hEb a0 b0
 have hFy:=fin_yes hEa hEb a0 b0
 have hFn:=fun n hn=>fin_no hEa hEb a0 b0 (n:=n) hn
 clear hEa hEb
 have a0:0 < la.length:=by omega
 have b0:0 < lb.length:=by omega
 rw [headD_at a0,headD_at b0,lastD_at a0,lastD_at b0] at hFe hFy
 obtain ⟨ba,oa,rfl,hra⟩:=SlAt.all hA.1 (by omega)
 obtain ⟨bb,ob,rfl,hrb⟩:=SlAt.all hB.1 (by omega)
 have ra0:=hra 0 a0
 have ra1:=hra (la.length-1) (by omega)
 have rb0:=hrb 0 b0
 have rb1:=hrb (lb.length-1) (by omega)
 have hza:(la.length:Int)-1=((la.length-1:Nat):Int):=by omega
 have hzb:(lb.length:Int)-1=((lb.length-1:Nat):Int):=by omega
 have a1:la.length-1 < la.length:=by omega
 have b1:lb.length-1 < lb.length:=by omega
 generalize la[0]=x1 at ra0 hFe hFy
 generalize la[la.length-1]=x2 at ra1 hFe hFy
 generalize lb[0]=y1 at rb0 hFe hFy
 generalize lb[lb.length-1]=y2 at rb1 hFe hFy
 dsimp only [rnV] at ra0 ra1 rb0 rb1
 by_cases hd:x1.from_≠y1.from_∨x2.to_≠y2.to_
 ·rw [hFe hd]
  by_cases hd1:x1.from_=y1.from_
  ·have hd2:x2.to_≠y2.to_:=hd.resolve_left fun h=>h hd1
   clear hd hFe hFy hFn
   all_goals (refine go ?_;and_intros<;>(try exact trivial)<;>repeat (first|refine fun (Bk:Nat)=>?_|intro h))
   repeat' ((first|(apply G.ix (i:=la.length-1);rfl;rfl;exact hza;exact a1;rfl)|(apply G.ix (i:=lb.length-1);rfl;rfl;exact hzb;exact b1;rfl)|(apply G.ix (i:=0);rfl;rfl;exact rfl;first|exact a0|exact b0;rfl))<;>(refine go ?_;and_intros<;>(try exact trivial)<;>repeat (first|refine fun (Bk:Nat)=>?_|intro h)))
   all_goals refine ret2b Tryz.func36 Tryz.results36 ?_
   all_goals rfl
  ·clear hd hFe hFy hFn
   all_goals (refine go ?_;and_intros<;>(try exact trivial)<;>repeat (first|refine fun (Bk:Nat)=>?_|intro h))
   repeat' ((first|(apply G.ix (i:=la.length-1);rfl;rfl;exact hza;exact a1;rfl)|(apply G.ix (i:=lb.length-1);rfl;rfl;exact hzb;exact b1;rfl)|(apply G.ix (i:=0);rfl;rfl;exact rfl;first|exact a0|exact b0;rfl))<;>(refine go ?_;and_intros<;>(try exact trivial)<;>repeat (first|refine fun (Bk:Nat)=>?_|intro h)))
   all_goals refine ret2b Tryz.func36 Tryz.results36 ?_
   all_goals rfl
 have hd1:x1.from_=y1.from_:=Decidable.byContradiction fun h=>hd (.inl h)
 have hd2:x2.to_=y2.to_:=Decidable.byContradiction fun h=>hd (.inr h)
 have hFy:=hFy hd1 hd2
 clear hd hFe
 all_goals (refine go ?_;and_intros<;>(try exact trivial)<;>repeat (first|refine fun (Bk:Nat)=>?_|intro h))
 repeat' ((first|(apply G.ix (i:=la.length-1);rfl;rfl;exact hza;exact a1;rfl)|(apply G.ix (i:=lb.length-1);rfl;rfl;exact hzb;exact b1;rfl)|(apply G.ix (i:=0);rfl;rfl;exact rfl;first|exact a0|exact b0;rfl))<;>(refine go ?_;and_intros<;>(try exact trivial)<;>repeat (first|refine fun (Bk:Nat)=>?_|intro h)))
 clear ra0 ra1 rb0 rb1 hza hzb a1 b1 hd1 hd2
 refine J.loop (c:=_) (0:Nat) (fun s=>lb.length-s) (fun s=>[(0,.slice (some ⟨ba,oa,none⟩) la.length ca),(77,.slice (some ⟨bb,ob,none⟩) lb.length cb),(78,.int .i64 lb.length),(79,.int .i64 s)]) (fun s=>[]) (fun s=>s≤lb.length∧∀ y∈lb.take s,covB la y=true) ?_ sbT sbL ?_
 ·exact ⟨Nat.zero_le _,fun y hy=>by cases hy⟩
 intro n ⟨n1,n2⟩ ih
 by_cases hn:n < lb.length
 case neg =>
  obtain rfl:n=lb.length:=by omega
  rw [List.take_length] at n2
  rw [hFy n2]
  clear hFn hFy ih
  all_goals (refine go ?_;and_intros<;>(try exact trivial)<;>repeat (first|refine fun (Bk:Nat)=>?_|intro h))
  repeat' ((first|fail)<;>(refine go ?_;and_intros<;>(try exact trivial)<;>repeat (first|refine fun (Bk:Nat)=>?_|intro h)))
  all_goals refine ret2b Tryz.func36 Tryz.results36 ?_
  all_goals rfl
 have hrn:=hrb n hn
 have hmn:=List.getElem_mem hn
 have htn:=hB.2 _ hmn
 have hoy:=oB _ hmn
 have hly:=htb _ hmn
 have hF:=hFn n hn
 have ihn:=fun h=>ih (n+1) ⟨hn,all_take_succ hn n2 h⟩ (by omega)
 clear ih hFn hFy hmn hrb n2
 generalize lb[n]=y at *
 rw [TabAt] at htn
 have hyr:=hoy.rng
 obtain ⟨tb1,tb2⟩:=hoy.tabs
 have hgy:=fun w'=>gap_holds y w'
 have hby:=cnt_bd16 hoy
 have hnd:(y.tab.map (·.1)).Nodup:=by
  by_cases h0:y.tab.length=0
  ·rw [List.length_eq_zero_iff.1 h0];exact .nil
  ·exact (sorted_keys _ none (oneE_tab hoy.2 h0).2.1).1
 generalize hady:y.adr=ady at htn
 dsimp only [rnV] at hrn
 rw [hady] at hrn
 all_goals (refine go ?_;and_intros<;>(try exact trivial)<;>repeat (first|refine fun (Bk:Nat)=>?_|intro h))
 repeat' ((first|(apply G.mkm;rfl;intro bm))<;>(refine go ?_;and_intros<;>(try exact trivial)<;>repeat (first|refine fun (Bk:Nat)=>?_|intro h)))
 revert Bk
 intro By
 refine J.loop (c:=_) ((0,#[],0,[]):Nat×Array MapEntry×Nat×List (Int×Int)) (fun s=>y.tab.length-s.1) (fun s=>[(0,.slice (some ⟨ba,oa,none⟩) la.length ca),(77,.slice (some ⟨bb,ob,none⟩) lb.length cb),(78,.int .i64 lb.length),(79,.int .i64 (n:Nat)),(10,.pointer (some ⟨By,0,none⟩)),(11,.map (some bm)),(85,.slice ady y.tab.length y.cap),(86,.int .i64 y.tab.length),(87,.int .i64 (s.1:Nat))]) (fun s=>[.obj bm (.map s.2.1 s.2.2.1),.blk By 90 [.int .i64 y.from_,.int .i64 y.to_,.slice ady y.tab.length y.cap,.int .i64 y.lo,.int .i64 y.hi] 5]) (fun s=>s.1≤y.tab.length∧MapIs (Value.int .i64) s.2.1 s.2.2.1 (s.2.2.2.map iv)∧MpI s.2.2.2 (fun x=>sumAt x (y.tab.take s.1))) ?_ sbT sbL ?_
 ·exact ⟨Nat.zero_le _,MapIs.nil,MpI.nil⟩
 intro ⟨j,es,cl,L⟩ ⟨d1,d2,d3⟩ ih
 dsimp only at d1 d2 d3 ⊢
 by_cases hj:j < y.tab.length
 ·obtain ⟨bt,ot,rfl,hrt⟩:=SlAt.all htn (by omega)
  have hrj:=hrt j hj
  have hx:=tb1 _ (List.getElem_mem hj)
  have hsn:=sumAt_new hnd hj
  have hta2:=fun x=>sumAt_take (s:=x) hj
  have ih2:=fun es2 c2 L2 hI2 (h:MpI L2 fun x=>sumAt x (y.tab.take (j+1)))=>ih (j+1,es2,c2,L2) ⟨hj,hI2,h⟩ (by dsimp only;omega)
  dsimp only at ih2
  clear ih hrt htn tb1
  generalize y.tab[j]=z at *
  obtain ⟨zs,zn⟩:=z
  have ih3:=fun es2 c2 hI2=>ih2 es2 c2 (setC zs zn L) hI2 ((d3.set hx.1).eqD fun x=>by
   dsimp only
   rw [hta2 x]
   split
   ·rename_i e;subst e;dsimp only at hsn ⊢;rw [hsn,Int.zero_add]
   ·rw [Int.add_zero])
  clear ih2 d3 hta2 hsn hF ihn hby
  dsimp only [hoV] at *
  all_goals (refine go ?_;and_intros<;>(try exact trivial)<;>repeat (first|refine fun (Bk:Nat)=>?_|intro h))
  repeat' ((first|(apply G.mu (kf:=Value.int .i64) (a:=zs) d2 (put_setC zs zn L);rfl;rfl;rfl;rfl;(repeat (first|exact RAt.head|apply RAt.tail));intro es2 c2 hI2))<;>(refine go ?_;and_intros<;>(try exact trivial)<;>repeat (first|refine fun (Bk:Nat)=>?_|intro h)))
  exact J.finS (ih3 es2 c2 hI2)
 obtain rfl:j=y.tab.length:=by omega
 rw [List.take_length] at d3
 clear ih htn hnd tb1
 have d4:MpI L (fun x=>cnt x y.tab-covN y x (la.take 0)):=d3.eqD fun x=>by rw [tb2,List.take_zero,covN,Int.sub_zero]
 clear d3
 all_goals (refine go ?_;and_intros<;>(try exact trivial)<;>repeat (first|refine fun (Bk:Nat)=>?_|intro h))
 repeat' ((first|fail)<;>(refine go ?_;and_intros<;>(try exact trivial)<;>repeat (first|refine fun (Bk:Nat)=>?_|intro h)))
 refine J.loop (c:=_) ((0,es,cl,L):Nat×Array MapEntry×Nat×List (Int×Int)) (fun s=>la.length-s.1) (fun s=>[(0,.slice (some ⟨ba,oa,none⟩) la.length ca),(77,.slice (some ⟨bb,ob,none⟩) lb.length cb),(78,.int .i64 lb.length),(79,.int .i64 (n:Nat)),(10,.pointer (some ⟨By,0,none⟩)),(11,.map (some bm)),(97,.slice (some ⟨ba,oa,none⟩) la.length ca),(98,.int .i64 la.length),(99,.int .i64 (s.1:Nat))]) (fun s=>[.obj bm (.map s.2.1 s.2.2.1),.blk By 90 [.int .i64 y.from_,.int .i64 y.to_,.slice ady y.tab.length y.cap,.int .i64 y.lo,.int .i64 y.hi] 5]) (fun s=>s.1≤la.length∧MapIs (Value.int .i64) s.2.1 s.2.2.1 (s.2.2.2.map iv)∧MpI s.2.2.2 (fun x=>cnt x y.tab-covN y x (la.take s.1))∧∀ x∈la.take s.1,covOk y x=true) ?_ sbT sbL ?_
 ·exact ⟨Nat.zero_le _,d2,d4,fun x hx=>by cases hx⟩
 clear d2 d4
 intro ⟨k,es,cl,L⟩ ⟨d1,d2,d3,d4⟩ ih
 dsimp only at d1 d2 d3 d4 ⊢
 by_cases hk:k < la.length
 ·have hrk:=hra k hk
  have hmk:=List.getElem_mem hk
  have hok:=oA _ hmk
  have htk:=hA.2 _ hmk
  have hlk:=hta _ hmk
  have hbn:=fun w' (hb:Below w.heap.size w w')=>bnds16_holds la[k] w' (SlAt.below htk hb) (Nat.le_trans hlk (by decide))
  have hgx:=fun w'=>gap_holds la[k] w'
  have hbd:=fun s=>covN_bd (y:=y) s (a:=la.take k) fun r hr=>oA r (List.mem_of_mem_take hr)
  have hkl:(la.take k).length=k:=by rw [List.length_take];omega
  rw [hkl] at hbd
  have hc:=fun s=>covN_take (y:=y) hk s
  have hF2:=fun h=>hF (cov_no (y:=y) hk h)
  have ih2:=fun h es2 cl2 L2 hI2 (hM2:MpI L2 fun x=>cnt x y.tab-covN y x (la.take k)-covT y x la[k])=>ih (k+1,es2,cl2,L2) ⟨hk,hI2,hM2.eqD fun x=>by rw [hc x];omega,all_take_succ hk d4 h⟩ (by dsimp only;omega)
  have hct:=fun s=>covT_bd (y:=y) hok s
  have hcb:=cnt_bd16 hok
  obtain ⟨ta1,ta2⟩:=hok.tabs
  have hxr:=hok.rng
  have hle:=ls_le' hok
  clear ih hF hra hmk hc ihn d4 hkl
  dsimp only at ih2
  generalize la[k]=x at *
  rw [TabAt] at htk
  generalize hadx:x.adr=adx at htk
  dsimp only [rnV] at hrk
  rw [hadx] at hrk
  rw [rnA,hadx] at hgx hbn
  rw [rnA,hady] at hgy
  have ihF:=fun es2 cl2 L2 h1 h2=>ih2 h1 es2 cl2 L2 h2
  by_cases hov:ovT x y≤ovF x y
  ·have e1:covOk y x=true:=by rw [covOk,if_pos hov]
   have ih3:=ih2 e1 es cl L d2 (d3.eqD fun s=>by rw [covT,if_pos (.inl hov),Int.sub_zero])
   clear ih2 ihF hF2
   rw [ovF,ovT] at hov
   all_goals (refine go ?_;and_intros<;>(try exact trivial)<;>repeat (first|refine fun (Bk:Nat)=>?_|intro h))
   repeat' ((first|fail)<;>(refine go ?_;and_intros<;>(try exact trivial)<;>repeat (first|refine fun (Bk:Nat)=>?_|intro h)))
   exact J.finS ih3
  have hov':ovF x y < ovT x y:=by omega
  by_cases h0:y.tab.length=0
  ·rw [decide_eq_true h0] at hgy
   by_cases hin:y.lo≤lstR x∧mstR x≤y.hi
   ·have e1:covOk y x=true:=by rw [covOk,if_neg hov,if_pos h0];exact decide_eq_true hin
    have ih3:=ih2 e1 es cl L d2 (d3.eqD fun s=>by rw [covT,if_pos (.inr h0),Int.sub_zero])
    clear ih2 ihF hF2 hov
    rw [ovF,ovT] at hov'
    generalize lstR x=xl at *
    generalize mstR x=xm at *
    all_goals (refine go ?_;and_intros<;>(try exact trivial)<;>repeat (first|refine fun (Bk:Nat)=>?_|intro h))
    repeat' ((first|(apply G.cV (g:=103);rfl;rfl;exact fun w' hw'=>hbn w' hw'.below)|(apply G.cV (g:=81) (d:=138);rfl;rfl;exact fun w' _=>hgy w'))<;>(refine go ?_;and_intros<;>(try exact trivial)<;>repeat (first|refine fun (Bk:Nat)=>?_|intro h)))
    exact J.finS ih3
   ·have e1:covOk y x=false:=by rw [covOk,if_neg hov,if_pos h0];exact decide_eq_false hin
    rw [hF2 e1]
    clear ih2 ihF hF2 hov
    rw [ovF,ovT] at hov'
    generalize lstR x=xl at *
    generalize mstR x=xm at *
    by_cases hin1:y.lo≤xl
    ·have hin2:¬ xm≤y.hi:=fun h=>hin ⟨hin1,h⟩
     clear hin
     all_goals (refine go ?_;and_intros<;>(try exact trivial)<;>repeat (first|refine fun (Bk:Nat)=>?_|intro h))
     repeat' ((first|(apply G.cV (g:=103);rfl;rfl;exact fun w' hw'=>hbn w' hw'.below)|(apply G.cV (g:=81) (d:=138);rfl;rfl;exact fun w' _=>hgy w'))<;>(refine go ?_;and_intros<;>(try exact trivial)<;>repeat (first|refine fun (Bk:Nat)=>?_|intro h)))
     all_goals refine ret2b Tryz.func36 Tryz.results36 ?_
     all_goals rfl
    ·clear hin
     all_goals (refine go ?_;and_intros<;>(try exact trivial)<;>repeat (first|refine fun (Bk:Nat)=>?_|intro h))
     repeat' ((first|(apply G.cV (g:=103);rfl;rfl;exact fun w' hw'=>hbn w' hw'.below)|(apply G.cV (g:=81) (d:=138);rfl;rfl;exact fun w' _=>hgy w'))<;>(refine go ?_;and_intros<;>(try exact trivial)<;>repeat (first|refine fun (Bk:Nat)=>?_|intro h)))
     all_goals refine ret2b Tryz.func36 Tryz.results36 ?_
     all_goals rfl
  rw [decide_eq_false h0] at hgy
  have hcT:=fun s=>show covT y s x=_ from if_neg fun h=>h.elim hov h0
  by_cases h3:lstR x=mstR x
  ·have e1:covOk y x=true:=by rw [covOk,if_neg hov,if_neg h0,decide_eq_true h3];rfl
   have hv:=d3.val (lstR x)
   have hb1:=hby (lstR x)
   have hb2:=hbd (lstR x)
   have hlk2:=get_iv (lstR x) L
   have hpt:=put_setC (lstR x) (cnt (lstR x) L-(ovT x y-ovF x y)) L
   have ih3:=fun es2 cl2 hI2=>ih2 e1 es2 cl2 (setC (lstR x) (cnt (lstR x) L-(ovT x y-ovF x y)) L) hI2 ((d3.set (v:=cnt (lstR x) L-(ovT x y-ovF x y)) ⟨hle.1,by omega⟩).eqD fun s=>by
    rw [hcT,if_pos h3]
    by_cases e:s=lstR x
    ·subst e;rw [if_pos rfl,if_pos rfl,hv]
    ·rw [if_neg e,if_neg fun e2=>e e2.symm,Int.sub_zero])
   have hN:-(1402560*400)≤cnt (lstR x) L∧cnt (lstR x) L≤1402560:=by rw [hv];omega
   clear ih2 ihF hF2 hov hcT d3 hby hbd hct hcb hv hb1 hb2
   rw [← h3] at hbn
   generalize cnt (lstR x) L=N at *
   generalize lstR x=xl at *
   dsimp only [ovF,ovT] at *
   all_goals (refine go ?_;and_intros<;>(try exact trivial)<;>repeat (first|refine fun (Bk:Nat)=>?_|intro h))
   repeat' ((first|(apply G.cV (g:=103);rfl;rfl;exact fun w' hw'=>hbn w' hw'.below)|(apply G.cV (g:=81) (d:=138);rfl;rfl;exact fun w' _=>hgy w')|(apply G.lk (kf:=Value.int .i64) (a:=xl) d2;rfl;rfl;exact mm;exact hlk2;rfl)|(apply G.mu (kf:=Value.int .i64) (a:=xl) d2 hpt;rfl;rfl;rfl;rfl;(repeat (first|exact RAt.head|apply RAt.tail));intro es3 c4 hI3))<;>(refine go ?_;and_intros<;>(try exact trivial)<;>repeat (first|refine fun (Bk:Nat)=>?_|intro h)))
   exact J.finS (ih3 es3 c4 hI3)
  by_cases hno:x.tab.length=0∨ovF x y≠x.from_∨ovT x y≠x.to_
  ·have e1:covOk y x=false:=by
    rw [covOk,if_neg hov,if_neg h0,decide_eq_false h3,Bool.false_or]
    exact decide_eq_false fun h=>hno.elim (fun q=>h.1 q) fun q=>q.elim (fun q=>q h.2.1) fun q=>q h.2.2
   rw [hF2 e1]
   clear ih2 ihF hF2 hov hcT d3 hby hbd hct hcb hle
   generalize lstR x=xl at *
   generalize mstR x=xm at *
   by_cases hg0:x.tab.length=0
   ·rw [decide_eq_true hg0] at hgx
    clear hno
    dsimp only [ovF,ovT] at *
    all_goals (refine go ?_;and_intros<;>(try exact trivial)<;>repeat (first|refine fun (Bk:Nat)=>?_|intro h))
    repeat' ((first|(apply G.cV (g:=103);rfl;rfl;exact fun w' hw'=>hbn w' hw'.below)|(apply G.cV (g:=81) (d:=138);rfl;rfl;exact fun w' _=>hgy w')|(apply G.cV (g:=81) (d:=162);rfl;rfl;exact fun w' _=>hgx w'))<;>(refine go ?_;and_intros<;>(try exact trivial)<;>repeat (first|refine fun (Bk:Nat)=>?_|intro h)))
    all_goals refine ret2b Tryz.func36 Tryz.results36 ?_
    all_goals rfl
   ·rw [decide_eq_false hg0] at hgx
    have hno:=hno.resolve_left hg0
    dsimp only [ovF,ovT] at *
    by_cases hf:max x.from_ y.from_=x.from_
    ·have hno:=hno.resolve_left fun q=>q hf
     all_goals (refine go ?_;and_intros<;>(try exact trivial)<;>repeat (first|refine fun (Bk:Nat)=>?_|intro h))
     repeat' ((first|(apply G.cV (g:=103);rfl;rfl;exact fun w' hw'=>hbn w' hw'.below)|(apply G.cV (g:=81) (d:=138);rfl;rfl;exact fun w' _=>hgy w')|(apply G.cV (g:=81) (d:=162);rfl;rfl;exact fun w' _=>hgx w'))<;>(refine go ?_;and_intros<;>(try exact trivial)<;>repeat (first|refine fun (Bk:Nat)=>?_|intro h)))
     all_goals refine ret2b Tryz.func36 Tryz.results36 ?_
     all_goals rfl
    ·clear hno
     all_goals (refine go ?_;and_intros<;>(try exact trivial)<;>repeat (first|refine fun (Bk:Nat)=>?_|intro h))
     repeat' ((first|(apply G.cV (g:=103);rfl;rfl;exact fun w' hw'=>hbn w' hw'.below)|(apply G.cV (g:=81) (d:=138);rfl;rfl;exact fun w' _=>hgy w')|(apply G.cV (g:=81) (d:=162);rfl;rfl;exact fun w' _=>hgx w'))<;>(refine go ?_;and_intros<;>(try exact trivial)<;>repeat (first|refine fun (Bk:Nat)=>?_|intro h)))
     all_goals refine ret2b Tryz.func36 Tryz.results36 ?_
     all_goals rfl
  have hg0:x.tab.length≠0:=fun h=>hno (.inl h)
  have hf:ovF x y=x.from_:=Decidable.byContradiction fun h=>hno (.inr (.inl h))
  have ht:ovT x y=x.to_:=Decidable.byContradiction fun h=>hno (.inr (.inr h))
  have e1:covOk y x=true:=by
   rw [covOk,if_neg hov,if_neg h0,decide_eq_false h3,Bool.false_or]
   exact decide_eq_true ⟨hg0,hf,ht⟩
  rw [decide_eq_false hg0] at hgx
  have ih3:=fun es2 cl2 L2 hI2 (hM2:MpI L2 fun s=>cnt s y.tab-covN y s (la.take k)-cnt s x.tab)=>ih2 e1 es2 cl2 L2 hI2 (hM2.eqD fun s=>by rw [hcT,if_neg h3])
  clear ih2 ihF hF2 hov hcT hct hno e1
  generalize lstR x=xl at *
  generalize mstR x=xm at *
  dsimp only [ovF,ovT] at *
  all_goals (refine go ?_;and_intros<;>(try exact trivial)<;>repeat (first|refine fun (Bk:Nat)=>?_|intro h))
  repeat' ((first|(apply G.cV (g:=103);rfl;rfl;exact fun w' hw'=>hbn w' hw'.below)|(apply G.cV (g:=81) (d:=138);rfl;rfl;exact fun w' _=>hgy w')|(apply G.cV (g:=81) (d:=162);rfl;rfl;exact fun w' _=>hgx w'))<;>(refine go ?_;and_intros<;>(try exact trivial)<;>repeat (first|refine fun (Bk:Nat)=>?_|intro h)))
  refine J.loop (c:=_) ((0,es,cl,L):Nat×Array MapEntry×Nat×List (Int×Int)) (fun s=>x.tab.length-s.1) (fun s=>[(0,.slice (some ⟨ba,oa,none⟩) la.length ca),(77,.slice (some ⟨bb,ob,none⟩) lb.length cb),(78,.int .i64 lb.length),(79,.int .i64 (n:Nat)),(10,.pointer (some ⟨By,0,none⟩)),(11,.map (some bm)),(97,.slice (some ⟨ba,oa,none⟩) la.length ca),(98,.int .i64 la.length),(99,.int .i64 (k:Nat)),(122,.slice adx x.tab.length x.cap),(123,.int .i64 x.tab.length),(124,.int .i64 (s.1:Nat))]) (fun s=>[.obj bm (.map s.2.1 s.2.2.1),.blk By 90 [.int .i64 y.from_,.int .i64 y.to_,.slice ady y.tab.length y.cap,.int .i64 y.lo,.int .i64 y.hi] 5]) (fun s=>s.1≤x.tab.length∧MapIs (Value.int .i64) s.2.1 s.2.2.1 (s.2.2.2.map iv)∧MpI s.2.2.2 (fun z=>cnt z y.tab-covN y z (la.take k)-sumAt z (x.tab.take s.1))) ?_ sbT sbL ?_
  ·exact ⟨Nat.zero_le _,d2,d3.eqD fun s=>(Int.sub_zero _).symm⟩
  clear d2 d3
  intro ⟨j,es2,cl2,L2⟩ ⟨d1',d2,d3⟩ ih
  dsimp only at d1' d2 d3 ⊢
  by_cases hj:j < x.tab.length
  ·obtain ⟨b9,o9,rfl,tr9⟩:=SlAt.all htk (by omega)
   have tr9:=tr9 j hj
   have hx:=ta1 _ (List.getElem_mem hj)
   have hta2:=fun s=>sumAt_take (s:=s) hj
   have hbs:=fun s=>sumAt_le (s:=s) (fun x hx=>(ta1 x hx).2.1) j
   generalize x.tab[j]=z at *
   obtain ⟨zs,zn⟩:=z
   have hv:=d3.val zs
   have hN:-(1402560*402)≤cnt zs L2∧cnt zs L2≤1402560:=by
    have q1:=hby zs
    have q2:=hbd zs
    have q3:=hbs zs
    have q4:=hcb zs
    rw [ta2] at q3
    rw [hv];omega
   have hlk2:=get_iv zs L2
   have hpt:=put_setC zs (cnt zs L2-zn) L2
   have ih4:=fun es3 c4 hI3=>ih (j+1,es3,c4,setC zs (cnt zs L2-zn) L2) ⟨hj,hI3,(d3.set hx.1).eqD fun s=>by
    dsimp only
    rw [hta2 s]
    by_cases e:s=zs
    ·subst e;rw [if_pos rfl,if_pos rfl,hv];omega
    ·rw [if_neg e,if_neg e,Int.add_zero]⟩ (by dsimp only;omega)
   clear ih d3 hta2 hbs hbd ta1 ta2 hcb ih3 hv hby
   dsimp only [hoV] at *
   generalize cnt zs L2=N at *
   all_goals (refine go ?_;and_intros<;>(try exact trivial)<;>repeat (first|refine fun (Bk:Nat)=>?_|intro h))
   repeat' ((first|(apply G.lk (kf:=Value.int .i64) (a:=zs) d2;rfl;rfl;exact mm;exact hlk2;rfl)|(apply G.mu (kf:=Value.int .i64) (a:=zs) d2 hpt;rfl;rfl;rfl;rfl;(repeat (first|exact RAt.head|apply RAt.tail));intro es3 c4 hI3))<;>(refine go ?_;and_intros<;>(try exact trivial)<;>repeat (first|refine fun (Bk:Nat)=>?_|intro h)))
   exact J.finS (ih4 es3 c4 hI3)
  obtain rfl:j=x.tab.length:=by omega
  rw [List.take_length] at d3
  have ih4:=ih3 es2 cl2 L2 d2 (d3.eqD fun s=>by rw [ta2])
  clear ih ih3
  all_goals (refine go ?_;and_intros<;>(try exact trivial)<;>repeat (first|refine fun (Bk:Nat)=>?_|intro h))
  repeat' ((first|fail)<;>(refine go ?_;and_intros<;>(try exact trivial)<;>repeat (first|refine fun (Bk:Nat)=>?_|intro h)))
  exact J.finS ih4
 obtain rfl:k=la.length:=by omega
 rw [List.take_length] at d3 d4
 clear ih hra hA hta
 have hF2:=fun s hs h=>hF (cov_ne (s:=s) hs h)
 have hT2:=fun h=>ihn (cov_yes d4 h)
 clear hF ihn
 have hkn:=d2.keys
 rw [iv_keys] at hkn
 all_goals (refine go ?_;and_intros<;>(try exact trivial)<;>repeat (first|refine fun (Bk:Nat)=>?_|intro h))
 repeat' ((first|(apply G.rg;rfl;exact mm;rfl;intro br))<;>(refine go ?_;and_intros<;>(try exact trivial)<;>repeat (first|refine fun (Bk:Nat)=>?_|intro h)))
 refine J.loop (c:=_) ((L.map iv,#[]):List (Int×Value)×Array Nat) (fun s=>s.1.length) (fun s=>[(0,.slice (some ⟨ba,oa,none⟩) la.length ca),(77,.slice (some ⟨bb,ob,none⟩) lb.length cb),(78,.int .i64 lb.length),(79,.int .i64 (n:Nat)),(177,.pointer (some ⟨br,0,none⟩))]) (fun s=>[.obj br (.mapIter (some bm) cl s.2 cl),.obj bm (.map es cl)]) (fun s=>Rem (Value.int .i64) es s.2 s.1∧(∀ p∈s.1,p∈L.map iv)∧∀ p∈L.map iv,p.2≠.int .i64 0→p∈s.1) ?_ sbT sbL ?_
 ·exact ⟨Rem.start d2,fun p hp=>hp,fun p hp _=>hp⟩
 intro ⟨R,seen⟩ ⟨r1',r2,r3⟩ ih
 dsimp only at r1' r2 r3 ⊢
 by_cases hR0:R=[]
 ·subst hR0
  have hz:∀ p∈L,p.2=0:=fun p hp=>by
   refine Decidable.byContradiction fun h=>?_
   have:=r3 (iv p) (List.mem_map_of_mem hp) fun e=>h (by injection e)
   cases this
  have hT3:=hT2 fun s=>by rw [← d3.val];exact cnt_zero hz s
  clear ih hF2 hT2 r3 r2
  all_goals (refine go ?_;and_intros<;>(try exact trivial)<;>repeat (first|refine fun (Bk:Nat)=>?_|intro h))
  repeat' ((first|(apply G.nx0 d2 r1';rfl;rfl;exact mm;exact mm))<;>(refine go ?_;and_intros<;>(try exact trivial)<;>repeat (first|refine fun (Bk:Nat)=>?_|intro h)))
  exact J.finS hT3
 have hel:∀ j (hj:j < R.length),∃ kx v:Int,R[j]=(kx,.int .i64 v)∧(kx,v)∈L:=fun j hj=>by
  obtain ⟨⟨kx,v⟩,h1,h2⟩:=List.mem_map.1 (r2 _ (List.getElem_mem hj))
  exact ⟨kx,v,h2.symm,h1⟩
 have hbad:∀ kx v:Int,(kx,v)∈L→v≠0→finE la lb=(false,0):=fun kx v hkm hv0=>hF2 kx (d3.keys kx (List.mem_map.2 ⟨_,hkm,rfl⟩)) (by rw [← d3.val,cnt_mem hkn hkm];exact hv0)
 have hgood:∀ j (hj:j < R.length) seen' (kx:Int),Rem (Value.int .i64) es seen' (R.eraseIdx j)→R[j]=(kx,.int .i64 0)→_:=fun j hj seen' kx hR' hRj=>ih (R.eraseIdx j,seen') ⟨hR',fun p hp=>r2 p (List.mem_of_mem_eraseIdx hp),fun p hp hne=>mem_erase_ne hj (r3 p hp hne) fun e=>hne (by rw [e,hRj])⟩ (by dsimp only;rw [List.length_eraseIdx,if_pos hj];omega)
 dsimp only at hgood
 clear ih hF2 hT2 r2 r3 d3
 all_goals (refine go ?_;and_intros<;>(try exact trivial)<;>repeat (first|refine fun (Bk:Nat)=>?_|intro h))
 repeat' ((first|(apply G.nx1 d2 r1' hR0;rfl;rfl;(repeat (first|exact RAt.head|apply RAt.tail));exact mm;intro j hj seen' hR' ⟨e,he,hsn,hek,hev⟩;obtain ⟨kx,v,hRj,hkm⟩:=hel j hj;rw [hRj] at hek hev;by_cases hv0:v=0;all_goals try (rw [hbad kx v hkm hv0]))|(apply G.en d2 he hsn hek hev;rfl;rfl;exact mm;exact mm))<;>(refine go ?_;and_intros<;>(try exact trivial)<;>repeat (first|refine fun (Bk:Nat)=>?_|intro h)))
 ·subst hv0
  exact J.finS (hgood _ hj _ kx hR' hRj)
 ·skip
  all_goals refine ret2b Tryz.func36 Tryz.results36 ?_
  all_goals rfl
end Go.Proofs.YtcdgibkbbcekhaaGreatDoor
