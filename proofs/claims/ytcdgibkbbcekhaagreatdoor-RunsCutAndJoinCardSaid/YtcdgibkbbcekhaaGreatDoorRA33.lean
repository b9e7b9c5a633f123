/-
  Contracts of the specification of runs: bounds of stages, covers, Finer.
-/
import Derived.Test.YtcdgibkbbcekhaaGreatDoorRA30
set_option linter.unusedVariables false
set_option linter.unusedSimpArgs false
set_option linter.unusedSectionVars false
namespace Go.Proofs.YtcdgibkbbcekhaaGreatDoor
open Go.RowKit Go.Sl Go.Num
theorem ls_two {r:Rn} (h:OkR r) (h2:2≤r.tab.length):lstR r≠mstR r:=by
 obtain ⟨o1,o2,_⟩:=oneE_tab h.2 (by omega)
 rw [lstR,mstR,if_neg (by omega),if_neg (by omega),stg]
 cases ht:r.tab with
 | nil=>rw [ht,List.length_nil] at h2;omega
 | cons x t =>
  rw [ht] at o2 h2
  have h3:=(sorted_keys t (some x) ((Bool.and_eq_true ..).mp o2).2).2 x rfl
  have h4:t≠[]:=fun e=>by rw [e,List.length_cons,List.length_nil] at h2;omega
  have h5:t.getLastD x∈t:=by
   rw [List.getLastD_eq_getLast?,List.getLast?_eq_some_getLast h4]
   exact List.getLast_mem h4
  have h6:=h3 _ h5
  rw [List.getLastD_cons]
  show x.1≠_
  omega
theorem fixed16_holds (r:Rn) (w:World) (h:OkR r):Calls Tryz.prog 154 #[rnA r] w fun e w'=>e=.returned (.bool (decide (lstR r=mstR r)))∧Below w.heap.size w w':=by
 by_cases h0:r.tab.length=0
 ·rw [lstR,mstR,if_pos h0,if_pos h0]
  obtain ⟨f,t,tab,adr,cap,lo,hi⟩:=r
  dsimp only [rnA] at *
  by_cases hl:lo=hi
  ·rw [decide_eq_true hl]
   refine enterA [(0,.agg #[.int .i64 f,.int .i64 t,.slice adr tab.length cap,.int .i64 lo,.int .i64 hi])] Tryz.func154 Tryz.ntmps154 ?_
   all_goals (refine go ?_;and_intros<;>(try exact trivial)<;>repeat (first|refine fun (Bk:Nat)=>?_|intro h))
   repeat' ((first|fail)<;>(refine go ?_;and_intros<;>(try exact trivial)<;>repeat (first|refine fun (Bk:Nat)=>?_|intro h)))
   all_goals refine ret1b Tryz.func154 Tryz.results154 ?_
   all_goals rfl
  ·rw [decide_eq_false hl]
   refine enterA [(0,.agg #[.int .i64 f,.int .i64 t,.slice adr tab.length cap,.int .i64 lo,.int .i64 hi])] Tryz.func154 Tryz.ntmps154 ?_
   all_goals (refine go ?_;and_intros<;>(try exact trivial)<;>repeat (first|refine fun (Bk:Nat)=>?_|intro h))
   repeat' ((first|fail)<;>(refine go ?_;and_intros<;>(try exact trivial)<;>repeat (first|refine fun (Bk:Nat)=>?_|intro h)))
   all_goals refine ret1b Tryz.func154 Tryz.results154 ?_
   all_goals rfl
 by_cases h1:r.tab.length=1
 ·have e:lstR r=mstR r:=by
   rw [lstR,mstR,if_neg h0,if_neg h0,stg,headD_at0 (by omega),getLastD_at h0]
   congr 2;omega
  rw [decide_eq_true e]
  clear e h
  obtain ⟨f,t,tab,adr,cap,lo,hi⟩:=r
  dsimp only [rnA] at *
  refine enterA [(0,.agg #[.int .i64 f,.int .i64 t,.slice adr tab.length cap,.int .i64 lo,.int .i64 hi])] Tryz.func154 Tryz.ntmps154 ?_
  all_goals (refine go ?_;and_intros<;>(try exact trivial)<;>repeat (first|refine fun (Bk:Nat)=>?_|intro h))
  repeat' ((first|fail)<;>(refine go ?_;and_intros<;>(try exact trivial)<;>repeat (first|refine fun (Bk:Nat)=>?_|intro h)))
  all_goals refine ret1b Tryz.func154 Tryz.results154 ?_
  all_goals rfl
 ·rw [decide_eq_false (ls_two h (by omega))]
  clear h
  obtain ⟨f,t,tab,adr,cap,lo,hi⟩:=r
  dsimp only [rnA] at *
  refine enterA [(0,.agg #[.int .i64 f,.int .i64 t,.slice adr tab.length cap,.int .i64 lo,.int .i64 hi])] Tryz.func154 Tryz.ntmps154 ?_
  all_goals (refine go ?_;and_intros<;>(try exact trivial)<;>repeat (first|refine fun (Bk:Nat)=>?_|intro h))
  repeat' ((first|fail)<;>(refine go ?_;and_intros<;>(try exact trivial)<;>repeat (first|refine fun (Bk:Nat)=>?_|intro h)))
  all_goals refine ret1b Tryz.func154 Tryz.results154 ?_
  all_goals rfl
theorem least16_holds (r:Rn) (w:World) (hr:TabAt w r):Calls Tryz.prog 152 #[rnA r] w fun e w'=>e=.returned (.int .i64 (lstR r))∧Below w.heap.size w w':=by
 by_cases h0:r.tab.length=0
 ·rw [lstR,if_pos h0]
  obtain ⟨f,t,tab,adr,cap,lo,hi⟩:=r
  dsimp only [rnA] at *
  refine enterA [(0,.agg #[.int .i64 f,.int .i64 t,.slice adr tab.length cap,.int .i64 lo,.int .i64 hi])] Tryz.func152 Tryz.ntmps152 ?_
  all_goals (refine go ?_;and_intros<;>(try exact trivial)<;>repeat (first|refine fun (Bk:Nat)=>?_|intro h))
  repeat' ((first|fail)<;>(refine go ?_;and_intros<;>(try exact trivial)<;>repeat (first|refine fun (Bk:Nat)=>?_|intro h)))
  all_goals refine ret1b Tryz.func152 Tryz.results152 ?_
  all_goals rfl
 ·rw [lstR,if_neg h0,stg,headD_at0 (by omega)]
  obtain ⟨b,o,e,hra⟩:=SlAt.all hr (by omega)
  have r0:=hra 0 (by omega)
  have h00:0 < r.tab.length:=by omega
  clear hra hr
  obtain ⟨f,t,tab,adr,cap,lo,hi⟩:=r
  dsimp only [rnA] at *
  subst e
  generalize tab[0]=x at *
  obtain ⟨xs,xn⟩:=x
  dsimp only [hoV] at *
  refine enterA [(0,.agg #[.int .i64 f,.int .i64 t,.slice (some ⟨b,o,none⟩) tab.length cap,.int .i64 lo,.int .i64 hi])] Tryz.func152 Tryz.ntmps152 ?_
  all_goals (refine go ?_;and_intros<;>(try exact trivial)<;>repeat (first|refine fun (Bk:Nat)=>?_|intro h))
  repeat' ((first|(apply G.ix (i:=0);rfl;rfl;exact rfl;exact h00;rfl))<;>(refine go ?_;and_intros<;>(try exact trivial)<;>repeat (first|refine fun (Bk:Nat)=>?_|intro h)))
  all_goals refine ret1b Tryz.func152 Tryz.results152 ?_
  all_goals rfl
theorem most16_holds (r:Rn) (w:World) (hr:TabAt w r) (hl:r.tab.length≤1000000):Calls Tryz.prog 153 #[rnA r] w fun e w'=>e=.returned (.int .i64 (mstR r))∧Below w.heap.size w w':=by
 by_cases h0:r.tab.length=0
 ·rw [mstR,if_pos h0]
  obtain ⟨f,t,tab,adr,cap,lo,hi⟩:=r
  dsimp only [rnA] at *
  refine enterA [(0,.agg #[.int .i64 f,.int .i64 t,.slice adr tab.length cap,.int .i64 lo,.int .i64 hi])] Tryz.func153 Tryz.ntmps153 ?_
  all_goals (refine go ?_;and_intros<;>(try exact trivial)<;>repeat (first|refine fun (Bk:Nat)=>?_|intro h))
  repeat' ((first|fail)<;>(refine go ?_;and_intros<;>(try exact trivial)<;>repeat (first|refine fun (Bk:Nat)=>?_|intro h)))
  all_goals refine ret1b Tryz.func153 Tryz.results153 ?_
  all_goals rfl
 ·rw [mstR,if_neg h0,getLastD_at h0]
  obtain ⟨b,o,e,hra⟩:=SlAt.all hr (by omega)
  have r1:=hra (r.tab.length-1) (by omega)
  have hz:(r.tab.length:Int)-1=((r.tab.length-1:Nat):Int):=by omega
  have h01:r.tab.length-1 < r.tab.length:=by omega
  clear hra hr
  obtain ⟨f,t,tab,adr,cap,lo,hi⟩:=r
  dsimp only [rnA] at *
  subst e
  generalize tab[tab.length-1]=y at *
  obtain ⟨ys,yn⟩:=y
  dsimp only [hoV] at *
  refine enterA [(0,.agg #[.int .i64 f,.int .i64 t,.slice (some ⟨b,o,none⟩) tab.length cap,.int .i64 lo,.int .i64 hi])] Tryz.func153 Tryz.ntmps153 ?_
  all_goals (refine go ?_;and_intros<;>(try exact trivial)<;>repeat (first|refine fun (Bk:Nat)=>?_|intro h))
  repeat' ((first|(apply G.ix (i:=tab.length-1);rfl;rfl;exact hz;exact h01;rfl))<;>(refine go ?_;and_intros<;>(try exact trivial)<;>repeat (first|refine fun (Bk:Nat)=>?_|intro h)))
  all_goals refine ret1b Tryz.func153 Tryz.results153 ?_
  all_goals rfl
theorem all_take1 {α:Type}{l:List α}{k:Nat} (hk:k < l.length) {P:α→Prop} (h:∀ x∈l.take k,P x) (h1:P l[k]):∀ x∈l.take (k+1),P x:=fun x hx=>by
 rw [List.take_succ_eq_append_getElem hk] at hx
 rcases List.mem_append.1 hx with hx|hx
 ·exact h x hx
 ·rw [List.mem_singleton.1 hx];exact h1
theorem cov_fin {a:List Rn}{y:Rn} (h1:∀ x∈a,covOk y x=true) (h2:∀ s:Nat,s < 1001→y.tab.length=0∨covN y s a=cnt s y.tab):covB a y=true:=by
 rw [covB,Bool.and_eq_true,List.all_eq_true,Bool.or_eq_true,List.all_eq_true]
 refine ⟨h1,?_⟩
 by_cases h0:y.tab.length=0
 ·exact .inl (decide_eq_true h0)
 ·exact .inr fun s hs=>decide_eq_true ((h2 s (List.mem_range.1 hs)).resolve_left h0)
set_option maxHeartbeats 4000000 in
theorem covers16_holds (a:Option Addr) (la:List Rn) (ca:Nat) (y:Rn) (w:World) (hA:RunsAt w a la) (hY:TabAt w y) (hta:∀ r∈la,r.tab.length≤64) (hty:y.tab.length≤64) (oA:∀ r∈la,OkR r) (oY:OkR y) (hla:la.length≤400) :
  Calls Tryz.prog 106 #[.slice a la.length ca,rnA y] w fun e w'=>e=.returned (.bool (covB la y))∧Below w.heap.size w w':=by
 have hyr:=oY.rng
 have hby:=cnt_bd16 oY
 generalize hady:y.adr=ady at *
 rw [TabAt,hady] at hY
 have hHyA:=fun s w' (hb:Below w.heap.size w w')=>held16_holds ady y.tab y.cap s w' (SlAt.below hY hb) (Nat.le_trans hty (by decide))
 rw [rnA,hady]
 refine enterA [(0,.slice a la.length ca),(1,.agg #[.int .i64 y.from_,.int .i64 y.to_,.slice ady y.tab.length y.cap,.int .i64 y.lo,.int .i64 y.hi])] Tryz.func106 Tryz.ntmps106 ?_
 all_goals (refine go ?_;and_intros<;>(try exact trivial)<;>repeat (first|refine fun (Bk:Nat)=>?_|intro h))
 repeat' ((first|fail)<;>(refine go ?_;and_intros<;>(try exact trivial)<;>repeat (first|refine fun (Bk:Nat)=>?_|intro h)))
 revert Bk
 intro By
 refine J.loop (c:=_) (0:Nat) (fun s=>1001-s) (fun s=>[(0,.slice a la.length ca),(3,.pointer (some ⟨By,0,none⟩)),(5,.int .i64 s)]) (fun s=>[.blk By 90 [.int .i64 y.from_,.int .i64 y.to_,.slice ady y.tab.length y.cap,.int .i64 y.lo,.int .i64 y.hi] 5]) (fun s=>s≤1001∧(∀ s':Nat,s' < s→y.tab.length=0∨covN y s' la=cnt s' y.tab)∧(0 < s→∀ x∈la,covOk y x=true)) ?_ sbT sbL ?_
 ·exact ⟨Nat.zero_le _,fun s' h=>absurd h (Nat.not_lt_zero _),fun h=>absurd h (Nat.lt_irrefl _)⟩
 intro s ⟨s1,s2,s3⟩ ih
 by_cases hs:s < 1001
 case neg =>
  obtain rfl:s=1001:=by omega
  rw [cov_fin (s3 (by decide)) s2]
  clear ih
  all_goals (refine go ?_;and_intros<;>(try exact trivial)<;>repeat (first|refine fun (Bk:Nat)=>?_|intro h))
  repeat' ((first|fail)<;>(refine go ?_;and_intros<;>(try exact trivial)<;>repeat (first|refine fun (Bk:Nat)=>?_|intro h)))
  all_goals refine ret1b Tryz.func106 Tryz.results106 ?_
  all_goals rfl
 have hHy:=hHyA (s:Int)
 have hbys:=hby (s:Int)
 have ihs:=fun h1 h2=>ih (s+1) ⟨hs,fun s' h=>if e:s' < s then s2 s' e else (show s'=s by omega) ▸ h1,fun _=>h2⟩ (by omega)
 have hbad:=fun k hk h=>cov_no (a:=la) (y:=y) (k:=k) hk h
 have hne:=fun h=>cov_ne (a:=la) (y:=y) (s:=(s:Int)) ⟨by omega,by omega⟩ h
 clear ih s2 s3 hHyA
 all_goals (refine go ?_;and_intros<;>(try exact trivial)<;>repeat (first|refine fun (Bk:Nat)=>?_|intro h))
 repeat' ((first|fail)<;>(refine go ?_;and_intros<;>(try exact trivial)<;>repeat (first|refine fun (Bk:Nat)=>?_|intro h)))
 refine J.loop (c:=_) ((0,0):Nat×Int) (fun x=>la.length-x.1) (fun x=>[(0,.slice a la.length ca),(3,.pointer (some ⟨By,0,none⟩)),(5,.int .i64 (s:Nat)),(6,.int .i64 x.2),(7,.int .i64 (x.1:Nat))]) (fun x=>[.blk By 90 [.int .i64 y.from_,.int .i64 y.to_,.slice ady y.tab.length y.cap,.int .i64 y.lo,.int .i64 y.hi] 5]) (fun x=>x.1≤la.length∧x.2=covN y s (la.take x.1)∧∀ r∈la.take x.1,covOk y r=true) ?_ sbT sbL ?_
 ·exact ⟨Nat.zero_le _,rfl,fun r hr=>by cases hr⟩
 intro ⟨k,n⟩ ⟨d1,d2,d3⟩ ih
 dsimp only at d1 d2 d3 ⊢
 by_cases hk:k < la.length
 case neg =>
  obtain rfl:k=la.length:=by omega
  rw [List.take_length] at d2 d3
  have hcn:=covN_bd (y:=y) (s:Int) oA
  rw [← d2] at hne ihs hcn
  clear ih hbad d2 hA hta oA
  by_cases h0:y.tab.length=0
  ·have ih3:=ihs (.inl h0) d3
   clear ihs hne
   all_goals (refine go ?_;and_intros<;>(try exact trivial)<;>repeat (first|refine fun (Bk:Nat)=>?_|intro h))
   repeat' ((first|fail)<;>(refine go ?_;and_intros<;>(try exact trivial)<;>repeat (first|refine fun (Bk:Nat)=>?_|intro h)))
   exact J.finS ih3
  by_cases he:n=cnt (s:Int) y.tab
  ·have ih3:=ihs (.inr he) d3
   clear ihs hne
   generalize cnt (s:Int) y.tab=m at *
   all_goals (refine go ?_;and_intros<;>(try exact trivial)<;>repeat (first|refine fun (Bk:Nat)=>?_|intro h))
   repeat' ((first|(apply G.cV (g:=96) (d:=112);rfl;rfl;exact fun w' hw'=>hHy w' hw'.below))<;>(refine go ?_;and_intros<;>(try exact trivial)<;>repeat (first|refine fun (Bk:Nat)=>?_|intro h)))
   exact J.finS ih3
  ·rw [hne fun h=>he (by omega)]
   clear ihs hne
   generalize cnt (s:Int) y.tab=m at *
   all_goals (refine go ?_;and_intros<;>(try exact trivial)<;>repeat (first|refine fun (Bk:Nat)=>?_|intro h))
   repeat' ((first|(apply G.cV (g:=96) (d:=112);rfl;rfl;exact fun w' hw'=>hHy w' hw'.below))<;>(refine go ?_;and_intros<;>(try exact trivial)<;>repeat (first|refine fun (Bk:Nat)=>?_|intro h)))
   all_goals refine ret1b Tryz.func106 Tryz.results106 ?_
   all_goals rfl
 obtain ⟨ba,oa,rfl,hra⟩:=SlAt.all hA.1 (by omega)
 have hrk:=hra k hk
 have hmk:=List.getElem_mem hk
 have hok:=oA _ hmk
 have htk:=hA.2 _ hmk
 have hlk:=hta _ hmk
 have hLs:=fun w' (hb:Below w.heap.size w w')=>least16_holds la[k] w' (SlAt.below htk hb)
 have hMs:=fun w' (hb:Below w.heap.size w w')=>most16_holds la[k] w' (SlAt.below htk hb) (Nat.le_trans hlk (by decide))
 have hFx:=fun w'=>fixed16_holds la[k] w' hok
 have hHx:=fun w' (hb:Below w.heap.size w w')=>held16_holds la[k].adr la[k].tab la[k].cap (s:Int) w' (SlAt.below htk hb) (Nat.le_trans hlk (by decide))
 have hbd:=covN_bd (y:=y) (s:Int) (a:=la.take k) fun r hr=>oA r (List.mem_of_mem_take hr)
 have hkl:(la.take k).length=k:=by rw [List.length_take];omega
 rw [hkl,← d2] at hbd
 have hc:=covN_take (y:=y) hk (s:Int)
 rw [← d2] at hc
 have hF2:=fun h=>hbad k hk h
 have ih2:=fun h m (hm:m=n+covT y (s:Int) la[k])=>ih (k+1,m) ⟨hk,by dsimp only;rw [hm,hc],all_take1 hk d3 h⟩ (by dsimp only;omega)
 have hct:=covT_bd (y:=y) hok (s:Int)
 have hcb:=cnt_bd16 hok (s:Int)
 have hxr:=hok.rng
 have hle:=ls_le' hok
 clear ih hbad hra hmk hc ihs d3 hkl d2 hne hok
 dsimp only at ih2
 generalize la[k]=x at *
 rw [TabAt] at htk
 generalize hadx:x.adr=adx at *
 dsimp only [rnV] at hrk
 rw [hadx] at hrk
 rw [rnA,hadx] at hLs hMs hFx
 by_cases hov:ovT x y≤ovF x y
 ·have e1:covOk y x=true:=by rw [covOk,if_pos hov]
  have ih3:=ih2 e1 n (by rw [covT,if_pos (.inl hov),Int.add_zero])
  clear ih2 hF2
  rw [ovF,ovT] at hov
  all_goals (refine go ?_;and_intros<;>(try exact trivial)<;>repeat (first|refine fun (Bk:Nat)=>?_|intro h))
  repeat' ((first|fail)<;>(refine go ?_;and_intros<;>(try exact trivial)<;>repeat (first|refine fun (Bk:Nat)=>?_|intro h)))
  exact J.finS ih3
 have hov':ovF x y < ovT x y:=by omega
 by_cases h0:y.tab.length=0
 ·by_cases hin:y.lo≤lstR x∧mstR x≤y.hi
  ·have e1:covOk y x=true:=by rw [covOk,if_neg hov,if_pos h0];exact decide_eq_true hin
   have ih3:=ih2 e1 n (by rw [covT,if_pos (.inr h0),Int.add_zero])
   clear ih2 hF2 hov
   rw [ovF,ovT] at hov'
   generalize lstR x=xl at *
   generalize mstR x=xm at *
   all_goals (refine go ?_;and_intros<;>(try exact trivial)<;>repeat (first|refine fun (Bk:Nat)=>?_|intro h))
   repeat' ((first|(apply G.cV (g:=152);rfl;rfl;exact fun w' hw'=>hLs w' hw'.below)|(apply G.cV (g:=153);rfl;rfl;exact fun w' hw'=>hMs w' hw'.below))<;>(refine go ?_;and_intros<;>(try exact trivial)<;>repeat (first|refine fun (Bk:Nat)=>?_|intro h)))
   exact J.finS ih3
  ·have e1:covOk y x=false:=by rw [covOk,if_neg hov,if_pos h0];exact decide_eq_false hin
   rw [hF2 e1]
   clear ih2 hF2 hov
   rw [ovF,ovT] at hov'
   generalize lstR x=xl at *
   generalize mstR x=xm at *
   by_cases hin1:y.lo≤xl
   ·have hin2:¬ xm≤y.hi:=fun h=>hin ⟨hin1,h⟩
    clear hin
    all_goals (refine go ?_;and_intros<;>(try exact trivial)<;>repeat (first|refine fun (Bk:Nat)=>?_|intro h))
    repeat' ((first|(apply G.cV (g:=152);rfl;rfl;exact fun w' hw'=>hLs w' hw'.below)|(apply G.cV (g:=153);rfl;rfl;exact fun w' hw'=>hMs w' hw'.below))<;>(refine go ?_;and_intros<;>(try exact trivial)<;>repeat (first|refine fun (Bk:Nat)=>?_|intro h)))
    all_goals refine ret1b Tryz.func106 Tryz.results106 ?_
    all_goals rfl
   ·clear hin
    all_goals (refine go ?_;and_intros<;>(try exact trivial)<;>repeat (first|refine fun (Bk:Nat)=>?_|intro h))
    repeat' ((first|(apply G.cV (g:=152);rfl;rfl;exact fun w' hw'=>hLs w' hw'.below)|(apply G.cV (g:=153);rfl;rfl;exact fun w' hw'=>hMs w' hw'.below))<;>(refine go ?_;and_intros<;>(try exact trivial)<;>repeat (first|refine fun (Bk:Nat)=>?_|intro h)))
    all_goals refine ret1b Tryz.func106 Tryz.results106 ?_
    all_goals rfl
 have hcT:covT y (s:Int) x=_:=if_neg fun h=>h.elim hov h0
 by_cases h3:lstR x=mstR x
 ·have e1:covOk y x=true:=by rw [covOk,if_neg hov,if_neg h0,decide_eq_true h3];rfl
  rw [decide_eq_true h3] at hFx
  rw [if_pos h3] at hcT
  by_cases h4:lstR x=(s:Int)
  ·rw [if_pos h4] at hcT
   have ih3:=ih2 e1 (n+ovT x y-ovF x y) (by rw [hcT];omega)
   clear ih2 hF2 hov hcT hct h3 e1
   generalize lstR x=xl at *
   dsimp only [ovF,ovT] at *
   all_goals (refine go ?_;and_intros<;>(try exact trivial)<;>repeat (first|refine fun (Bk:Nat)=>?_|intro h))
   repeat' ((first|(apply G.cV (g:=152);rfl;rfl;exact fun w' hw'=>hLs w' hw'.below)|(apply G.cV (g:=154);rfl;rfl;exact fun w' _=>hFx w'))<;>(refine go ?_;and_intros<;>(try exact trivial)<;>repeat (first|refine fun (Bk:Nat)=>?_|intro h)))
   exact J.finS ih3
  ·rw [if_neg h4] at hcT
   have ih3:=ih2 e1 n (by rw [hcT,Int.add_zero])
   clear ih2 hF2 hov hcT hct h3 e1
   generalize lstR x=xl at *
   dsimp only [ovF,ovT] at *
   all_goals (refine go ?_;and_intros<;>(try exact trivial)<;>repeat (first|refine fun (Bk:Nat)=>?_|intro h))
   repeat' ((first|(apply G.cV (g:=152);rfl;rfl;exact fun w' hw'=>hLs w' hw'.below)|(apply G.cV (g:=154);rfl;rfl;exact fun w' _=>hFx w'))<;>(refine go ?_;and_intros<;>(try exact trivial)<;>repeat (first|refine fun (Bk:Nat)=>?_|intro h)))
   exact J.finS ih3
 rw [decide_eq_false h3] at hFx
 rw [if_neg h3] at hcT
 by_cases hno:x.tab.length=0∨ovF x y≠x.from_∨ovT x y≠x.to_
 ·have e1:covOk y x=false:=by
   rw [covOk,if_neg hov,if_neg h0,decide_eq_false h3,Bool.false_or]
   exact decide_eq_false fun h=>hno.elim (fun q=>h.1 q) fun q=>q.elim (fun q=>q h.2.1) fun q=>q h.2.2
  rw [hF2 e1]
  clear ih2 hF2 hov hcT hct hle h3 e1
  by_cases hg0:x.tab.length=0
  ·clear hno
   dsimp only [ovF,ovT] at *
   all_goals (refine go ?_;and_intros<;>(try exact trivial)<;>repeat (first|refine fun (Bk:Nat)=>?_|intro h))
   repeat' ((first|(apply G.cV (g:=154);rfl;rfl;exact fun w' _=>hFx w'))<;>(refine go ?_;and_intros<;>(try exact trivial)<;>repeat (first|refine fun (Bk:Nat)=>?_|intro h)))
   all_goals refine ret1b Tryz.func106 Tryz.results106 ?_
   all_goals rfl
  ·have hno:=hno.resolve_left hg0
   dsimp only [ovF,ovT] at *
   by_cases hf:max x.from_ y.from_=x.from_
   ·have hno:=hno.resolve_left fun q=>q hf
    all_goals (refine go ?_;and_intros<;>(try exact trivial)<;>repeat (first|refine fun (Bk:Nat)=>?_|intro h))
    repeat' ((first|(apply G.cV (g:=154);rfl;rfl;exact fun w' _=>hFx w'))<;>(refine go ?_;and_intros<;>(try exact trivial)<;>repeat (first|refine fun (Bk:Nat)=>?_|intro h)))
    all_goals refine ret1b Tryz.func106 Tryz.results106 ?_
    all_goals rfl
   ·clear hno
    all_goals (refine go ?_;and_intros<;>(try exact trivial)<;>repeat (first|refine fun (Bk:Nat)=>?_|intro h))
    repeat' ((first|(apply G.cV (g:=154);rfl;rfl;exact fun w' _=>hFx w'))<;>(refine go ?_;and_intros<;>(try exact trivial)<;>repeat (first|refine fun (Bk:Nat)=>?_|intro h)))
    all_goals refine ret1b Tryz.func106 Tryz.results106 ?_
    all_goals rfl
 have hg0:x.tab.length≠0:=fun h=>hno (.inl h)
 have hf:ovF x y=x.from_:=Decidable.byContradiction fun h=>hno (.inr (.inl h))
 have ht:ovT x y=x.to_:=Decidable.byContradiction fun h=>hno (.inr (.inr h))
 have e1:covOk y x=true:=by
  rw [covOk,if_neg hov,if_neg h0,decide_eq_false h3,Bool.false_or]
  exact decide_eq_true ⟨hg0,hf,ht⟩
 have ih3:=ih2 e1 (n+cnt (s:Int) x.tab) (by rw [hcT])
 clear ih2 hF2 hov hcT hct hno e1 h3
 generalize cnt (s:Int) x.tab=m at *
 dsimp only [ovF,ovT] at *
 all_goals (refine go ?_;and_intros<;>(try exact trivial)<;>repeat (first|refine fun (Bk:Nat)=>?_|intro h))
 repeat' ((first|(apply G.cV (g:=154);rfl;rfl;exact fun w' _=>hFx w')|(apply G.cV (g:=96) (d:=101);rfl;rfl;exact fun w' hw'=>hHx w' hw'.below))<;>(refine go ?_;and_intros<;>(try exact trivial)<;>repeat (first|refine fun (Bk:Nat)=>?_|intro h)))
 exact J.finS ih3
set_option maxHeartbeats 4000000 in
theorem rFin_holds (a:Option Addr) (la:List Rn) (ca:Nat) (b:Option Addr) (lb:List Rn) (cb:Nat) (w:World) (hA:RunsAt w a la) (hB:RunsAt w b lb) (hta:∀ r∈la,r.tab.length≤64) (htb:∀ r∈lb,r.tab.length≤64) (hla:la.length≤400) (hlb:lb.length≤400) :
  Calls Tryz.prog 40 #[.slice a la.length ca,.slice b lb.length cb] w (fun e w'=>e=.returned (.agg #[.bool (finE la lb).1,.int .i64 (finE la lb).2])∧Below w.heap.size w w'):=by
 have hca:=fun w' (hb:Below w.heap.size w w')=>rRuns_holds a la ca w' (hA.below hb) hta
 have hcb:=fun w' (hb:Below w.heap.size w w')=>rRuns_holds b lb cb w' (hB.below hb) htb
 by_cases hEa:runsErr la=0
 case neg =>
  have hJ:finE la lb=(false,runsErr la):=by rw [finE,if_pos hEa]
  rw [hJ]
  generalize runsErr la=E at *
  refine enterA [(0,.slice a la.length ca),(1,.slice b lb.length cb)] Tryz.func40 Tryz.ntmps40 ?_
  all_goals (refine go ?_;and_intros<;>(try exact trivial)<;>repeat (first|refine fun (Bk:Nat)=>?_|intro h))
  repeat' ((first|(refine G.cvb hca ?_))<;>(refine go ?_;and_intros<;>(try exact trivial)<;>repeat (first|refine fun (Bk:Nat)=>?_|intro h)))
  all_goals refine ret1b Tryz.func40 Tryz.results40 ?_
  all_goals rfl
 by_cases hEb:runsErr lb=0
 case neg =>
  have hJ:finE la lb=(false,runsErr lb):=by rw [finE,if_neg (by rw [hEa];decide),if_pos hEb]
  rw [hJ]
  rw [hEa] at hca
  generalize runsErr lb=E at *
  refine enterA [(0,.slice a la.length ca),(1,.slice b lb.length cb)] Tryz.func40 Tryz.ntmps40 ?_
  all_goals (refine go ?_;and_intros<;>(try exact trivial)<;>repeat (first|refine fun (Bk:Nat)=>?_|intro h))
  repeat' ((first|(refine G.cvb hca ?_)|(refine G.cvb hcb ?_))<;>(refine go ?_;and_intros<;>(try exact trivial)<;>repeat (first|refine fun (Bk:Nat)=>?_|intro h)))
  all_goals refine ret1b Tryz.func40 Tryz.results40 ?_
  all_goals rfl
 rw [hEa] at hca
 rw [hEb] at hcb
 obtain ⟨oA,_,_⟩:=runs_ok hEa
 obtain ⟨oB,_,_⟩:=runs_ok hEb
 refine enterA [(0,.slice a la.length ca),(1,.slice b lb.length cb)] Tryz.func40 Tryz.ntmps40 ?_
 by_cases a0:la.length=0
 ·rw [fin_nil hEa hEb (.inl a0)]
  by_cases b0:lb.length=0
  ·rw [decide_eq_true (a0.trans b0.symm)]
   all_goals (refine go ?_;and_intros<;>(try exact trivial)<;>repeat (first|refine fun (Bk:Nat)=>?_|intro h))
   repeat' ((first|(refine G.cvb hca ?_)|(refine G.cvb hcb ?_))<;>(refine go ?_;and_intros<;>(try exact trivial)<;>repeat (first|refine fun (Bk:Nat)=>?_|intro h)))
   all_goals refine ret1b Tryz.func40 Tryz.results40 ?_
   all_goals rfl
  ·rw [decide_eq_false (fun e:la.length=lb.length=>b0 (e.symm.trans a0))]
   all_goals (refine go ?_;and_intros<;>(try exact trivial)<;>repeat (first|refine fun (Bk:Nat)=>?_|intro h))
   repeat' ((first|(refine G.cvb hca ?_)|(refine G.cvb hcb ?_))<;>(refine go ?_;and_intros<;>(try exact trivial)<;>repeat (first|refine fun (Bk:Nat)=>?_|intro h)))
   all_goals refine ret1b Tryz.func40 Tryz.results40 ?_
   all_goals rfl
 by_cases b0:lb.length=0
 ·rw [fin_nil hEa hEb (.inr b0),decide_eq_false (fun e:la.length=lb.length=>a0 (e.trans b0))]
  all_goals (refine go ?_;and_intros<;>(try exact trivial)<;>repeat (first|refine fun (Bk:Nat)=>?_|intro h))
  repeat' ((first|(refine G.cvb hca ?_)|(refine G.cvb hcb ?_))<;>(refine go ?_;and_intros<;>(try exact trivial)<;>repeat (first|refine fun (Bk:Nat)=>?_|intro h)))
  all_goals refine ret1b Tryz.func40 Tryz.results40 ?_
  all_goals rfl
 have hFe:=fin_end hEa hEb a0 b0
 have hFy:=fin_yes hEa hEb a0 b0
 have hFn:=fun n hn=>fin_no hEa hEb a0 b0 (n:=n) hn
 clear hEa hEb
 have a0:0 < la.length:=by omega
 have b0:0 < lb.length:=by omega
 rw [headD_at a0,headD_at b0,lastD_at a0,lastD_at b0] at hFe hFy
 obtain ⟨ba,oa,rfl,hra⟩:=SlAt.all hA.1 (by omega)
 obtain ⟨bb,ob,rfl,hrb⟩:=SlAt.all hB.1 (by omega)
 have ra0:=hra 0 a0
 have ra1:=hra (la.length-1) (by omega)
 have rb0:=hrb 0 b0
 have rb1:=hrb (lb.length-1) (by omega)
 have hza:(la.length:Int)-1=((la.length-1:Nat):Int):=by omega
 have hzb:(lb.length:Int)-1=((lb.length-1:Nat):Int):=by omega
 have a1:la.length-1 < la.length:=by omega
 have b1:lb.length-1 < lb.length:=by omega
 clear hra
 generalize la[0]=x1 at ra0 hFe hFy
 generalize la[la.length-1]=x2 at ra1 hFe hFy
 generalize lb[0]=y1 at rb0 hFe hFy
 generalize lb[lb.length-1]=y2 at rb1 hFe hFy
 dsimp only [rnV] at ra0 ra1 rb0 rb1
 by_cases hd:x1.from_≠y1.from_∨x2.to_≠y2.to_
 ·rw [hFe hd]
  by_cases hd1:x1.from_=y1.from_
  ·have hd2:x2.to_≠y2.to_:=hd.resolve_left fun h=>h hd1
   clear hd hFe hFy hFn
   all_goals (refine go ?_;and_intros<;>(try exact trivial)<;>repeat (first|refine fun (Bk:Nat)=>?_|intro h))
   repeat' ((first|(refine G.cvb hca ?_)|(refine G.cvb hcb ?_)|(apply G.ix (i:=la.length-1);rfl;rfl;exact hza;exact a1;rfl)|(apply G.ix (i:=lb.length-1);rfl;rfl;exact hzb;exact b1;rfl)|(apply G.ix (i:=0);rfl;rfl;exact rfl;first|exact a0|exact b0;rfl))<;>(refine go ?_;and_intros<;>(try exact trivial)<;>repeat (first|refine fun (Bk:Nat)=>?_|intro h)))
   all_goals refine ret1b Tryz.func40 Tryz.results40 ?_
   all_goals rfl
  ·clear hd hFe hFy hFn
   all_goals (refine go ?_;and_intros<;>(try exact trivial)<;>repeat (first|refine fun (Bk:Nat)=>?_|intro h))
   repeat' ((first|(refine G.cvb hca ?_)|(refine G.cvb hcb ?_)|(apply G.ix (i:=la.length-1);rfl;rfl;exact hza;exact a1;rfl)|(apply G.ix (i:=lb.length-1);rfl;rfl;exact hzb;exact b1;rfl)|(apply G.ix (i:=0);rfl;rfl;exact rfl;first|exact a0|exact b0;rfl))<;>(refine go ?_;and_intros<;>(try exact trivial)<;>repeat (first|refine fun (Bk:Nat)=>?_|intro h)))
   all_goals refine ret1b Tryz.func40 Tryz.results40 ?_
   all_goals rfl
 have hd1:x1.from_=y1.from_:=Decidable.byContradiction fun h=>hd (.inl h)
 have hd2:x2.to_=y2.to_:=Decidable.byContradiction fun h=>hd (.inr h)
 have hFy:=hFy hd1 hd2
 clear hd hFe
 all_goals (refine go ?_;and_intros<;>(try exact trivial)<;>repeat (first|refine fun (Bk:Nat)=>?_|intro h))
 repeat' ((first|(refine G.cvb hca ?_)|(refine G.cvb hcb ?_)|(apply G.ix (i:=la.length-1);rfl;rfl;exact hza;exact a1;rfl)|(apply G.ix (i:=lb.length-1);rfl;rfl;exact hzb;exact b1;rfl)|(apply G.ix (i:=0);rfl;rfl;exact rfl;first|exact a0|exact b0;rfl))<;>(refine go ?_;and_intros<;>(try exact trivial)<;>repeat (first|refine fun (Bk:Nat)=>?_|intro h)))
 clear ra0 ra1 rb0 rb1 hza hzb a1 b1 hd1 hd2 hca hcb
 revert Bk
 intro Bo
 refine J.loop (c:=_) (0:Nat) (fun s=>lb.length-s) (fun s=>[(0,.slice (some ⟨ba,oa,none⟩) la.length ca),(1,.slice (some ⟨bb,ob,none⟩) lb.length cb),(4,.pointer (some ⟨Bo,0,none⟩)),(6,.int .i64 s)]) (fun s=>[.blk Bo 79 [.bool false,.int .i64 0] 2]) (fun s=>s≤lb.length∧∀ y∈lb.take s,covB la y=true) ?_ sbT sbL ?_
 ·exact ⟨Nat.zero_le _,fun y hy=>by cases hy⟩
 intro n ⟨n1,n2⟩ ih
 by_cases hn:n < lb.length
 case neg =>
  obtain rfl:n=lb.length:=by omega
  rw [List.take_length] at n2
  rw [hFy n2]
  clear hFn hFy ih
  all_goals (refine go ?_;and_intros<;>(try exact trivial)<;>repeat (first|refine fun (Bk:Nat)=>?_|intro h))
  repeat' ((first|fail)<;>(refine go ?_;and_intros<;>(try exact trivial)<;>repeat (first|refine fun (Bk:Nat)=>?_|intro h)))
  all_goals refine ret1b Tryz.func40 Tryz.results40 ?_
  all_goals rfl
 have hrn:=hrb n hn
 have hmn:=List.getElem_mem hn
 have htn:=hB.2 _ hmn
 have hoy:=oB _ hmn
 have hly:=htb _ hmn
 have hF:=hFn n hn
 have ihn:=fun h=>ih (n+1) ⟨hn,all_take1 hn n2 h⟩ (by omega)
 have hcv:=fun w' (hb:Below w.heap.size w w')=>covers16_holds (some ⟨ba,oa,none⟩) la ca lb[n] w' (hA.below hb) (SlAt.below htn hb) hta hly oA hoy hla
 clear ih hFn hFy hmn hrb n2 htn
 generalize lb[n]=y at *
 obtain ⟨yf,yt,tab,adr,cy,ylo,yhi⟩:=y
 dsimp only [rnV,rnA] at *
 by_cases hc:covB la ⟨yf,yt,tab,adr,cy,ylo,yhi⟩=true
 ·have ih3:=ihn hc
  rw [hc] at hcv
  clear ihn hF
  all_goals (refine go ?_;and_intros<;>(try exact trivial)<;>repeat (first|refine fun (Bk:Nat)=>?_|intro h))
  repeat' ((first|(apply G.cV (g:=106);rfl;rfl;exact fun w' hw'=>hcv w' hw'.below))<;>(refine go ?_;and_intros<;>(try exact trivial)<;>repeat (first|refine fun (Bk:Nat)=>?_|intro h)))
  exact J.finS ih3
 ·rw [Bool.not_eq_true] at hc
  rw [hF hc]
  rw [hc] at hcv
  clear ihn hF
  all_goals (refine go ?_;and_intros<;>(try exact trivial)<;>repeat (first|refine fun (Bk:Nat)=>?_|intro h))
  repeat' ((first|(apply G.cV (g:=106);rfl;rfl;exact fun w' hw'=>hcv w' hw'.below))<;>(refine go ?_;and_intros<;>(try exact trivial)<;>repeat (first|refine fun (Bk:Nat)=>?_|intro h)))
  all_goals refine ret1b Tryz.func40 Tryz.results40 ?_
  all_goals rfl
end Go.Proofs.YtcdgibkbbcekhaaGreatDoor
