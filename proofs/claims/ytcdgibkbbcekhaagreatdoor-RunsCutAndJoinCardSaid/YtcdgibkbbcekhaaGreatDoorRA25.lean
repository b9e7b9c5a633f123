/-
  Plain: what stands for a stretch is without an error, and agrees with what agrees with the stretch.
-/
import Derived.Test.YtcdgibkbbcekhaaGreatDoorRA17
set_option linter.unusedVariables false
set_option linter.unusedSimpArgs false
set_option linter.unusedSectionVars false
namespace Go.Proofs.YtcdgibkbbcekhaaGreatDoor
open Go.RowKit Go.Sl Go.Num
theorem AgS.tot:∀ {l:List Rn}{S:List Int},(∀ r∈l,OkR r)→(∀ r∈l,r.tab.length≠0)→AgS l S→∀ s,nIn s S=totC l s
 | [],S,_,_,h,s=>by rw [AgS] at h;subst h;rfl
 | r::t,S,ho,hg,⟨A,B,e,h1,h2⟩,s=>by
  subst e
  have m:=List.mem_cons_self (a:=r) (l:=t)
  have ih:=AgS.tot (fun x hx=>ho x (List.mem_cons_of_mem _ hx)) (fun x hx=>hg x (List.mem_cons_of_mem _ hx)) h2 s
  rw [AgP,if_neg (hg r m)] at h1
  rw [nIn_app,ih,nIn_perm h1,tab_cnt (ho r m) (hg r m),totC]
theorem AgP.rep {r:Rn}{A:List Int} (h:OkR r) (h1:r.tab.length=1) (ha:AgP r A):∃ n,A=List.replicate (n+1) (stg r):=by
 have h2:=(AgP.raw (h.raw h1).1).1 ha
 have h3:=h.rng
 exact ⟨(r.to_-r.from_).toNat-1,by rw [h2];congr 1;omega⟩
theorem AgS.head {l:List Rn}{S:List Int} (ho:∀ r∈l,OkR r) (h0:l≠[]) (h1:(headD' l).tab.length=1) (h:AgS l S):∃ S',S=stg (headD' l)::S':=by
 cases l with
 | nil=>exact absurd rfl h0
 | cons r t =>
  obtain ⟨A,B,rfl,h2,_⟩:=h
  obtain ⟨n,rfl⟩:=AgP.rep (ho r (List.mem_cons_self ..)) h1 h2
  exact ⟨List.replicate n (stg r)++B,rfl⟩
theorem AgS.last {l:List Rn}{S:List Int} (ho:∀ r∈l,OkR r) (h0:l≠[]) (h1:(lastD l).tab.length=1) (h:AgS l S):∃ S',S=S'++[stg (lastD l)]:=by
 rcases nil_or_snoc l with rfl|⟨o,y,rfl⟩
 ·exact absurd rfl h0
 ·rw [lastD_snoc] at h1 ⊢
  obtain ⟨A,B,rfl,_,h2⟩:=AgS_app.1 h
  obtain ⟨n,rfl⟩:=AgP.rep (ho y (by simp)) h1 (AgS_one.1 h2)
  exact ⟨A++List.replicate n (stg y),by rw [List.append_assoc,List.replicate_succ']⟩
theorem AgS.ends {l:List Rn}{S:List Int} (ho:∀ r∈l,OkR r) (h0:l≠[]) (h1:(headD' l).tab.length=1) (h2:(lastD l).tab.length=1) (h:AgS l S):(S.length=1∧S=[stg (headD' l)]∧stg (headD' l)=stg (lastD l))∨∃ M,S=stg (headD' l)::(M++[stg (lastD l)]):=by
 obtain ⟨S1,e1⟩:=h.head ho h0 h1
 obtain ⟨S2,e2⟩:=h.last ho h0 h2
 cases S2 with
 | nil =>
  rw [e2,List.nil_append] at e1
  have e3:=List.cons.inj e1
  refine .inl ⟨by rw [e2];rfl,by rw [e2,List.nil_append,e3.1],e3.1.symm⟩
 | cons x M =>
  rw [e2,List.cons_append] at e1
  have e3:=List.cons.inj e1
  exact .inr ⟨M,by rw [e2,List.cons_append,e3.1]⟩
structure SmOk (l X:List Rn) (f t:Int):Prop where
 cn:Cn f X t
 ok:∀ r∈X,OkR r
 ag:∀ S,AgS l S→AgS X S
 tot:∀ s,totC X s=totC l s
 gp:∀ r∈X,r.tab.length≠0
 hd:(headD' X).tab.length=1∧stg (headD' X)=stg (headD' l)
 la:(lastD X).tab.length=1∧stg (lastD X)=stg (lastD l)
 ne:X≠[]
theorem cnt_one (s a n:Int):cnt s [(a,n)]=if s=a then n else 0:=rfl
theorem nIn_mid (s a b:Int) (M:List Int):nIn s (a::(M++[b]))=(if s=a then 1 else 0)+nIn s M+(if s=b then 1 else 0):=by
 rw [nIn,nIn_app,nIn,nIn]
 have e1:(if a=s then (1:Int) else 0)=if s=a then 1 else 0:=by (by_cases h:a=s;rw [if_pos h,if_pos h.symm];rw [if_neg h,if_neg fun e=>h e.symm])
 have e2:(if b=s then (1:Int) else 0)=if s=b then 1 else 0:=by (by_cases h:b=s;rw [if_pos h,if_pos h.symm];rw [if_neg h,if_neg fun e=>h e.symm])
 rw [e1,e2];omega
theorem sm_ok {l:List Rn}{f t:Int} (h0:l≠[]) (hC:Cn f l t) (ho:∀ r∈l,OkR r) (hg:∀ r∈l,r.tab.length≠0) (h1:(headD' l).tab.length=1) (h2:(lastD l).tab.length=1) :
  SmOk l (smS f t (stg (headD' l)) (stg (lastD l)) (smTab l (stg (headD' l)) (stg (lastD l)))) f t:=by
 have hm1:headD' l∈l:=by cases l with
  | nil=>exact absurd rfl h0
  | cons r t=>exact List.mem_cons_self ..
 have hm2:lastD l∈l:=by
  rcases nil_or_snoc l with rfl|⟨o,y,rfl⟩
  ·exact absurd rfl h0
  ·rw [lastD_snoc];simp
 have ra:=((ho _ hm1).raw h1).2
 have rb:=((ho _ hm2).raw h2).2
 have r1:=(ho _ hm1).rng
 have r2:=(ho _ hm2).rng
 have e1:=(hC.first h0).1
 have e2:=hC.last h0
 have hF:=AgS.first ho
 have hFl:=AgS.len hC ho hF
 have hle:=hC.le ho
 have hp:0 < l.length:=List.length_pos_iff.2 h0
 have htF:=AgS.tot ho hg hF
 have hbF:=AgS.bd' ho hF
 have hall:∀ S,AgS l S→(S.length:Int)=t-f:=fun S hS=>by have:=AgS.len hC ho hS;omega
 have htS:∀ S,AgS l S→∀ s,nIn s S=totC l s:=fun S hS=>AgS.tot ho hg hS
 have hen:=fun S (hS:AgS l S)=>AgS.ends ho h0 h1 h2 hS
 generalize firstS l=F at *
 have henF:=hen F hF
 generalize ha:stg (headD' l)=a at *
 generalize hb:stg (lastD l)=b at *
 clear hm1 hm2
 have ok1:OkR (mkR f (f+1) a):=mkR_ok (by omega) ra
 rcases henF with ⟨g1,g2,g3⟩|⟨M,g2⟩
 ·have hX:smS f t a b (smTab l a b)=[mkR f (f+1) a]:=by rw [smS,if_neg (by omega),if_neg (by omega)];rfl
  rw [hX]
  have ht:t=f+1:=by omega
  refine ⟨⟨rfl,ht.symm⟩,fun r hr=>by rw [List.mem_singleton.1 hr];exact ok1,fun S hS=>?_,fun s=>?_,fun r hr=>by rw [List.mem_singleton.1 hr];exact Nat.one_ne_zero,⟨rfl,ha.symm⟩,⟨rfl,by rw [hb,← g3];rfl⟩,List.cons_ne_nil _ _⟩
  ·have h3:=hall S hS
   rw [AgS_one,AgP.raw (r:=mkR f (f+1) a) (s:=a) ⟨rfl,rfl,rfl⟩]
   show S=List.replicate (f+1-f).toNat a
   rw [show (f+1-f:Int).toNat=1 by omega]
   rcases hen S hS with ⟨_,h5,_⟩|⟨M,h5⟩
   ·exact h5
   ·rw [h5,List.length_cons,List.length_append,List.length_singleton] at h3;omega
  ·rw [← htF s,g2,totC,totC,mkR,cnt_one,nIn,nIn]
   by_cases h:s=a
   ·rw [if_pos h,if_pos h.symm];omega
   ·rw [if_neg h,if_neg (fun e=>h e.symm)]
 ·have hlen:F.length=M.length+2:=by rw [g2,List.length_cons,List.length_append,List.length_singleton]
  have hbM:∀ y∈M,0≤y∧y≤1000:=fun y hy=>hbF y (by rw [g2];simp [hy])
  have hT:smTab l a b=tabT M:=by
   have h5:∀ s:Nat,totC l s-(if (s:Int)=a then 1 else 0)-(if (s:Int)=b then 1 else 0)=nIn (s:Int) M:=fun s=>by
    rw [← htF s,g2,nIn_mid];omega
   unfold smTab tabT
   rw [List.map_congr_left (l:=List.range 1001) (f:=fun s:Nat=>totC l s-(if (s:Int)=a then 1 else 0)-(if (s:Int)=b then 1 else 0)) (g:=fun s:Nat=>nIn (s:Int) M) fun s _=>h5 s]
  rw [hT]
  have hMt:∀ s,totC l s=(if s=a then 1 else 0)+nIn s M+(if s=b then 1 else 0):=fun s=>by rw [← htF s,g2,nIn_mid]
  have ok3:OkR (mkR (t-1) t b):=mkR_ok (by omega) rb
  have hSM:∀ S,AgS l S→∃ M',S=a::(M'++[b])∧M'.Perm M:=fun S hS=>by
   rcases hen S hS with ⟨h5,_⟩|⟨M',h5⟩
   ·have:=hall S hS;omega
   ·refine ⟨M',h5,perm_nIn_iff.2 fun s=>?_⟩
    have h6:=htS S hS s
    rw [h5,nIn_mid,hMt s] at h6
    omega
  have a1:AgP (mkR f (f+1) a) [a]:=(AgP.raw (r:=mkR f (f+1) a) (s:=a) ⟨rfl,rfl,rfl⟩).2 (by show [a]=List.replicate (f+1-f).toNat a;rw [show (f+1-f:Int).toNat=1 by omega];rfl)
  have a3:AgP (mkR (t-1) t b) [b]:=(AgP.raw (r:=mkR (t-1) t b) (s:=b) ⟨rfl,rfl,rfl⟩).2 (by show [b]=List.replicate (t-(t-1)).toNat b;rw [show (t-(t-1):Int).toNat=1 by omega];rfl)
  rcases Nat.eq_zero_or_pos M.length with hM|hM
  ·obtain rfl:=List.length_eq_zero_iff.1 hM
   rw [List.length_nil] at hlen
   have hX:smS f t a b (tabT [])=[mkR f (f+1) a,mkR (t-1) t b]:=by rw [smS,if_neg (by omega),if_pos (by omega)];rfl
   rw [hX]
   refine ⟨⟨rfl,by show t-1=f+1;omega,rfl⟩,fun r hr=>?_,fun S hS=>?_,fun s=>?_,fun r hr=>?_,⟨rfl,ha.symm⟩,⟨rfl,hb.symm⟩,List.cons_ne_nil _ _⟩
   ·rcases List.mem_cons.1 hr with rfl|hr
    ·exact ok1
    ·rw [List.mem_singleton.1 hr];exact ok3
   ·obtain ⟨M',h5,h6⟩:=hSM S hS
    obtain rfl:=List.perm_nil.1 h6
    exact ⟨[a],[b],h5,a1,AgS_one.2 a3⟩
   ·rw [hMt s,totC,totC,totC,mkR,mkR,cnt_one,cnt_one,nIn]
    rw [show f+1-f=1 by omega,show t-(t-1)=1 by omega];omega
   ·rcases List.mem_cons.1 hr with rfl|hr
    ·exact Nat.one_ne_zero
    ·rw [List.mem_singleton.1 hr];exact Nat.one_ne_zero
  ·have hX:smS f t a b (tabT M)=[mkR f (f+1) a,⟨f+1,t-1,tabT M,none,0,0,0⟩,mkR (t-1) t b]:=by rw [smS,if_pos (by omega),if_pos (by omega)];rfl
   rw [hX]
   have key:∀ TM,TM=tabT M→OkR ⟨f+1,t-1,TM,none,0,0,0⟩:=fun TM h=>⟨by rw [inT,decide_eq_true_eq];show 0≤f+1∧f+1 < t-1∧t-1≤1402560;omega,oneE_tabT (seg:=M) hbM hM (by omega) h (by show t-1=f+1+(M.length:Int);omega) rfl rfl⟩
   have ok2:=key _ rfl
   have ne2:=tabT_ne hbM hM
   have c2:=cnt_tabT hbM
   clear hT key hX
   generalize tabT M=TM at *
   refine ⟨⟨rfl,rfl,rfl,rfl⟩,fun r hr=>?_,fun S hS=>?_,fun s=>?_,fun r hr=>?_,⟨rfl,ha.symm⟩,⟨rfl,hb.symm⟩,List.cons_ne_nil _ _⟩
   ·rcases List.mem_cons.1 hr with rfl|hr
    ·exact ok1
    ·rcases List.mem_cons.1 hr with rfl|hr
     ·exact ok2
     ·rw [List.mem_singleton.1 hr];exact ok3
   ·obtain ⟨M',h5,h6⟩:=hSM S hS
    refine ⟨[a],M'++[b],h5,a1,M',[b],rfl,?_,AgS_one.2 a3⟩
    rw [AgP,if_neg ne2]
    refine h6.trans (perm_nIn_iff.2 fun s=>?_)
    rw [tab_cnt ok2 ne2,c2]
   ·rw [hMt s,totC,totC,totC,totC,mkR,mkR,cnt_one,cnt_one,c2]
    rw [show f+1-f=1 by omega,show t-(t-1)=1 by omega];omega
   ·rcases List.mem_cons.1 hr with rfl|hr
    ·exact Nat.one_ne_zero
    ·rcases List.mem_cons.1 hr with rfl|hr
     ·exact ne2
     ·rw [List.mem_singleton.1 hr];exact Nat.one_ne_zero
end Go.Proofs.YtcdgibkbbcekhaaGreatDoor
/-
 Plain: the stretches of runs,one after another.
-/
namespace Go.Proofs.YtcdgibkbbcekhaaGreatDoor
open Go.RowKit Go.Sl Go.Num
theorem nst_pos {l:List Rn} (h:l≠[]):1≤nst l:=by
 cases l with
 | nil=>exact absurd rfl h
 | cons r t=>rw [nst];split<;>omega
theorem takeWhile_le {α:Type} (p:α→Bool):∀ l:List α,(l.takeWhile p).length≤l.length
 | []=>Nat.le_refl _
 | x::l=>by
  have:=takeWhile_le p l
  rw [List.takeWhile_cons]
  split<;>simp only [List.length_cons,List.length_nil]<;>omega
theorem nst_le {l:List Rn} (h:l≠[]):nst l≤l.length:=by
 cases l with
 | nil=>exact absurd rfl h
 | cons r t =>
  have:=takeWhile_le (fun x:Rn=>decide (x.tab.length≠0)) t
  rw [nst,List.length_cons];split<;>omega
theorem nst_iff {l:List Rn}{m:Nat} (h0:0 < m) (hm:m≤l.length) (h1:∀ i (h:i < m),l[i].tab.length≠0) (h2:∀ (h:m < l.length),l[m].tab.length=0):nst l=m:=by
 cases l with
 | nil=>rw [List.length_nil] at hm;omega
 | cons r t =>
  have h3:=h1 0 h0
  rw [List.getElem_cons_zero] at h3
  rw [nst,if_neg h3]
  have h4:∀ (t:List Rn) (m:Nat),m≤t.length→(∀ i (h:i < t.length),i < m→t[i].tab.length≠0)→(∀ (h:m < t.length),t[m].tab.length=0)→(t.takeWhile fun x=>decide (x.tab.length≠0)).length=m:=fun t=>by
   induction t with
   | nil=>intro m h _ _;rw [List.length_nil] at h;rw [List.takeWhile_nil,List.length_nil];omega
   | cons x t ih =>
    intro m h q1 q2
    cases m with
    | zero =>
     have:=q2 (Nat.succ_pos _)
     rw [List.getElem_cons_zero] at this
     rw [List.takeWhile_cons,if_neg (by simp [this])];rfl
    | succ m =>
     have:=q1 0 (Nat.succ_pos _) (Nat.succ_pos _)
     rw [List.getElem_cons_zero] at this
     rw [List.takeWhile_cons,if_pos (decide_eq_true this),List.length_cons,ih m (by simpa using h) (fun i hi hm=>by have:=q1 (i+1) (by rw [List.length_cons];omega) (by omega);rwa [List.getElem_cons_succ] at this) fun hh=>by have:=q2 (by rw [List.length_cons];omega);rwa [List.getElem_cons_succ] at this]
  rw [h4 t (m-1) (by rw [List.length_cons] at hm;omega) (fun i hi hm=>by have:=h1 (i+1) (by omega);rwa [List.getElem_cons_succ] at this) fun hh=>by
   have:=h2 (by rw [List.length_cons];omega)
   have e:(r::t)[m]'(by rw [List.length_cons];omega)=t[m-1]:=by
    cases m with
    | zero=>omega
    | succ m=>rw [List.getElem_cons_succ];rfl
   rwa [e] at this]
  omega
theorem nst_tab {l:List Rn} (h0:l≠[]) (h:(headD' l).tab.length≠0):∀ r∈l.take (nst l),r.tab.length≠0:=by
 cases l with
 | nil=>exact absurd rfl h0
 | cons x t =>
  have h1:x.tab.length≠0:=h
  rw [nst,if_neg h1,Nat.add_comm,List.take_succ_cons]
  intro r hr
  rcases List.mem_cons.1 hr with rfl|hr
  ·exact h1
  ·rw [show t.take (t.takeWhile fun x=>decide (x.tab.length≠0)).length=t.takeWhile fun x=>decide (x.tab.length≠0) from List.prefix_iff_eq_take.1 (List.takeWhile_prefix _) ▸ rfl] at hr
   have:=List.all_eq_true.1 (List.all_takeWhile (p:=fun x:Rn=>decide (x.tab.length≠0)) (l:=t)) r hr
   exact of_decide_eq_true this
theorem headD_bare (l:List Rn):headD' (l.map rbare)=rbare (headD' l):=by cases l<;>rfl
theorem lastD_bare (l:List Rn):lastD (l.map rbare)=rbare (lastD l):=by
 rcases nil_or_snoc l with rfl|⟨o,y,rfl⟩
 ·rfl
 ·rw [List.map_append,List.map_cons,List.map_nil,lastD_snoc,lastD_snoc]
theorem totC_bare:∀ (l:List Rn) (s:Int),totC (l.map rbare) s=totC l s
 | [],_=>rfl
 | r::l,s=>by rw [List.map_cons,totC,totC,totC_bare l s];rfl
theorem smTab_bare (l:List Rn) (a b:Int):smTab (l.map rbare) a b=smTab l a b:=by
 unfold smTab
 simp only [totC_bare]
theorem smOne_bare (l:List Rn):smOne (l.map rbare)=smOne l:=by
 unfold smOne
 rw [headD_bare,lastD_bare]
 show (if rawB (headD' l) && rawB (lastD l) then some (smS (headD' l).from_ (lastD l).to_ (stg (headD' l)) (stg (lastD l)) (smTab (l.map rbare) (stg (headD' l)) (stg (lastD l)))) else none)=_
 rw [smTab_bare]
theorem smS_bare (f t a b:Int) (T:List (Int×Int)):(smS f t a b T).map rbare=smS f t a b T:=by
 unfold smS
 rw [List.map_append,List.map_append]
 congr 1
 ·congr 1
  split<;>rfl
 ·split<;>rfl
theorem smOne_x {l x:List Rn} (h:smOne l=some x):x.map rbare=x:=by
 unfold smOne at h
 split at h
 ·rw [← Option.some.inj h];exact smS_bare ..
 ·cases h
theorem nst_bare (l:List Rn):nst (l.map rbare)=nst l:=by
 cases l with
 | nil=>rfl
 | cons r t =>
  rw [List.map_cons,nst,nst,List.takeWhile_map,List.length_map];rfl
theorem smF_bare:∀ (n:Nat) (o l:List Rn),smF n (o.map rbare) (l.map rbare)=(smF n o l).map (·.map rbare)
 | 0,_,_=>rfl
 | n+1,o,l=>by
  rw [smF,smF,List.length_map]
  by_cases h0:l.length=0
  ·rw [if_pos h0,if_pos h0];rfl
  rw [if_neg h0,if_neg h0,headD_bare]
  have e:(rbare (headD' l)).tab.length=(headD' l).tab.length:=rfl
  rw [e]
  by_cases h1:(headD' l).tab.length=0
  ·rw [if_pos h1,if_pos h1,← List.map_drop,← smF_bare n (o++[headD' l]),List.map_append];rfl
  rw [if_neg h1,if_neg h1,nst_bare,← List.map_take,smOne_bare,← List.map_drop]
  cases hx:smOne (l.take (nst l)) with
  | none=>rfl
  | some x =>
   dsimp only
   rw [← smF_bare n (o++x),List.map_append,smOne_x hx]
theorem smF_fuel:∀ (n m:Nat) (o l:List Rn),l.length≤n→l.length≤m→smF n o l=smF m o l
 | 0,m,o,l,h1,_=>by
  obtain rfl:=List.length_eq_zero_iff.1 (Nat.le_zero.1 h1)
  cases m<;>rfl
 | n+1,0,o,l,_,h2=>by
  obtain rfl:=List.length_eq_zero_iff.1 (Nat.le_zero.1 h2)
  rfl
 | n+1,m+1,o,l,h1,h2=>by
  rw [smF,smF]
  by_cases h0:l.length=0
  ·rw [if_pos h0,if_pos h0]
  rw [if_neg h0,if_neg h0]
  have hne:l≠[]:=fun e=>h0 (by rw [e];rfl)
  have h3:=nst_pos hne
  rw [smF_fuel n m _ (l.drop 1) (by rw [List.length_drop];omega) (by rw [List.length_drop];omega)]
  split
  ·rfl
  ·cases smOne (l.take (nst l)) with
   | none=>rfl
   | some x=>exact smF_fuel n m _ (l.drop (nst l)) (by rw [List.length_drop];omega) (by rw [List.length_drop];omega)
theorem smF_ok:∀ (n:Nat) {o l X:List Rn}{f0 f t:Int},l.length≤n→Cn f0 o f→(∀ r∈o,OkR r)→Cn f l t→(∀ r∈l,OkR r)→smF n o l=some X →
  Cn f0 X t∧(∀ r∈X,OkR r)∧∀ S A,AgS o S→AgS l A→AgS X (S++A)
 | 0,o,l,X,f0,f,t,hn,h1,h2,h3,h4,h=>by
  obtain rfl:=List.length_eq_zero_iff.1 (Nat.le_zero.1 hn)
  rw [Cn] at h3;subst h3
  obtain rfl:=Option.some.inj h
  exact ⟨h1,h2,fun S A hS hA=>by rw [AgS] at hA;subst hA;rw [List.append_nil];exact hS⟩
 | n+1,o,l,X,f0,f,t,hn,h1,h2,h3,h4,h=>by
  rw [smF] at h
  by_cases h0:l.length=0
  ·rw [if_pos h0] at h
   obtain rfl:=List.length_eq_zero_iff.1 h0
   rw [Cn] at h3;subst h3
   obtain rfl:=Option.some.inj h
   exact ⟨h1,h2,fun S A hS hA=>by rw [AgS] at hA;subst hA;rw [List.append_nil];exact hS⟩
  rw [if_neg h0] at h
  have hne:l≠[]:=fun e=>h0 (by rw [e];rfl)
  by_cases hg:(headD' l).tab.length=0
  ·rw [if_pos hg] at h
   cases l with
   | nil=>exact absurd rfl hne
   | cons r l =>
    have hr:=h4 r (List.mem_cons_self ..)
    obtain ⟨p1,p2,p3⟩:=smF_ok n (o:=o++[r]) (l:=l) (f0:=f0) (f:=r.to_) (t:=t) (by rw [List.length_cons] at hn;omega) (Cn.app.2 ⟨f,h1,h3.1,rfl⟩) (fun x hx=>(List.mem_append.1 hx).elim (h2 x) fun hx=>by rw [List.mem_singleton.1 hx];exact hr) h3.2 (fun x hx=>h4 x (List.mem_cons_of_mem _ hx)) h
    refine ⟨p1,p2,fun S A hS hA=>?_⟩
    obtain ⟨A1,A2,rfl,e1,e2⟩:=hA
    rw [← List.append_assoc]
    exact p3 _ _ (AgS_app.2 ⟨S,A1,rfl,hS,AgS_one.2 e1⟩) e2
  rw [if_neg hg] at h
  cases hx:smOne (l.take (nst l)) with
  | none=>rw [hx] at h;cases h
  | some x =>
   rw [hx] at h
   dsimp only at h
   have hs1:=nst_pos hne
   have hs2:=nst_le hne
   have hs3:=nst_tab hne hg
   have h3':Cn f (l.take (nst l)++l.drop (nst l)) t:=by rw [List.take_append_drop];exact h3
   obtain ⟨m,q1,q2⟩:=Cn.app.1 h3'
   have hpo:∀ r∈l.take (nst l),OkR r:=fun r hr=>h4 r (List.mem_of_mem_take hr)
   have hpn:l.take (nst l)≠[]:=fun e=>by
    have:=congrArg List.length e
    rw [List.length_take,List.length_nil] at this
    omega
   have hraw:rawB (headD' (l.take (nst l)))=true∧rawB (lastD (l.take (nst l)))=true:=by
    unfold smOne at hx
    split at hx
    ·rename_i hh;exact (Bool.and_eq_true ..).mp hh
    ·cases hx
   have hsm:=sm_ok hpn q1 hpo hs3 (of_decide_eq_true hraw.1) (of_decide_eq_true hraw.2)
   have hxe:x=smS f m (stg (headD' (l.take (nst l)))) (stg (lastD (l.take (nst l)))) (smTab (l.take (nst l)) (stg (headD' (l.take (nst l)))) (stg (lastD (l.take (nst l))))):=by
    unfold smOne at hx
    rw [if_pos (by rw [hraw.1,hraw.2];rfl),(q1.first hpn).1,q1.last hpn] at hx
    exact (Option.some.inj hx).symm
   rw [← hxe] at hsm
   obtain ⟨p1,p2,p3⟩:=smF_ok n (o:=o++x) (l:=l.drop (nst l)) (f0:=f0) (f:=m) (t:=t) (by rw [List.length_drop];omega) (Cn.app.2 ⟨f,h1,hsm.cn⟩) (fun y hy=>(List.mem_append.1 hy).elim (h2 y) (hsm.ok y)) q2 (fun y hy=>h4 y (List.mem_of_mem_drop hy)) h
   refine ⟨p1,p2,fun S A hS hA=>?_⟩
   rw [← List.take_append_drop (nst l) l] at hA
   obtain ⟨A1,A2,rfl,e1,e2⟩:=AgS_app.1 hA
   rw [← List.append_assoc]
   exact p3 _ _ (AgS_app.2 ⟨S,A1,rfl,hS,hsm.ag _ e1⟩) e2
end Go.Proofs.YtcdgibkbbcekhaaGreatDoor
