/-
  Plain: histories that agree with runs; runs in a row; what joining keeps.
-/
import Derived.Test.YtcdgibkbbcekhaaDoorRD7
set_option linter.unusedVariables false
set_option linter.unusedSimpArgs false
set_option linter.unusedSectionVars false
namespace Go.Proofs.YtcdgibkbbcekhaaDoor
open Go.RowKit Go.Sl Go.Num
def OkR (r:Rn):Prop:=inT r=true∧oneE r=0
def AgP (r:Rn) (A:List Int):Prop:=if r.tab.length=0 then A.length=(r.to_-r.from_).toNat∧∀ x∈A,r.lo≤x∧x≤r.hi else A.Perm (tabS r.tab)
def AgS:List Rn→List Int→Prop
 | [],S=>S=[]
 | r::t,S=>∃ A B,S=A++B∧AgP r A∧AgS t B
theorem AgS_app:∀ {a b:List Rn}{S:List Int},AgS (a++b) S ↔ ∃ A B,S=A++B∧AgS a A∧AgS b B
 | [],b,S=>⟨fun h=>⟨[],S,rfl,rfl,h⟩,fun ⟨A,B,h1,h2,h3⟩=>by rw [AgS] at h2;subst h2 h1;exact h3⟩
 | r::a,b,S=>by
  rw [List.cons_append,AgS]
  constructor
  ·rintro ⟨A,B,rfl,h2,h3⟩
   obtain ⟨A2,B2,rfl,h4,h5⟩:=AgS_app.1 h3
   exact ⟨A++A2,B2,(List.append_assoc ..).symm,⟨A,A2,rfl,h2,h4⟩,h5⟩
  ·rintro ⟨_,B,rfl,⟨A,A2,rfl,h2,h4⟩,h5⟩
   exact ⟨A,A2++B,List.append_assoc ..,h2,AgS_app.2 ⟨A2,B,rfl,h4,h5⟩⟩
theorem AgS_one {r:Rn}{S:List Int}:AgS [r] S ↔ AgP r S:=by
 constructor
 ·rintro ⟨A,B,rfl,h2,h3⟩
  rw [AgS] at h3;subst h3
  rw [List.append_nil];exact h2
 ·exact fun h=>⟨S,[],(List.append_nil _).symm,h,rfl⟩
theorem OkR.rng {r:Rn} (h:OkR r):0≤r.from_∧r.from_ < r.to_∧r.to_≤1402560:=by have:=h.1;rw [inT,decide_eq_true_eq] at this;exact this
theorem OkR.gap {r:Rn} (h:OkR r) (h0:r.tab.length=0):0≤r.lo∧r.lo≤r.hi∧r.hi≤1000:=by
 have:=h.2
 rw [oneE,if_pos h0] at this
 split at this
 ·cases this
 ·omega
theorem OkR.raw {r:Rn} (h:OkR r) (h1:r.tab.length=1):rawR r (stg r)∧0≤stg r∧stg r≤1000:=by
 obtain ⟨h2,_,h4,h5,h6⟩:=oneE_tab h.2 (by omega)
 obtain ⟨f,t,tab,ad,cp,lo,hi⟩:=r
 match tab,h1 with
 | [(s,n)],_ =>
  have:=(h2 (s,n) (List.mem_cons_self ..)).1
  dsimp only at h4 h5 h6 this
  rw [sumT,sumT,Int.add_zero] at h4
  dsimp only at h4
  subst h4 h5 h6
  exact ⟨⟨rfl,rfl,rfl⟩,this⟩
theorem AgP.len {r:Rn}{A:List Int} (h:OkR r) (ha:AgP r A):(A.length:Int)=r.to_-r.from_:=by
 have hr:=h.rng
 rw [AgP] at ha
 split at ha
 ·rw [ha.1];omega
 ·rename_i h0
  obtain ⟨h2,_,h4,_⟩:=oneE_tab h.2 h0
  rw [ha.length_eq,tabS_len _ fun x hx=>(h2 x hx).2.1,h4]
theorem AgP.bd {r:Rn}{A:List Int} (h:OkR r) (ha:AgP r A):∀ x∈A,0≤x∧x≤1000:=by
 intro x hx
 rw [AgP] at ha
 split at ha
 ·rename_i h0
  have:=h.gap h0
  have:=ha.2 x hx
  omega
 ·rename_i h0
  obtain ⟨m,hm⟩:=tabS_mem (ha.mem_iff.1 hx)
  exact ((oneE_tab h.2 h0).1 _ hm).1
theorem AgP.first' {r:Rn} (h:OkR r):AgP r (stagesR r):=by
 rw [AgP,stagesR]
 split
 ·rename_i h0
  have:=h.gap h0
  exact ⟨List.length_replicate,fun x hx=>by rw [List.eq_of_mem_replicate hx];omega⟩
 ·exact List.Perm.refl _
theorem AgS.first:∀ {l:List Rn},(∀ r∈l,OkR r)→AgS l (firstS l)
 | [],_=>rfl
 | r::t,h=>⟨_,_,rfl,AgP.first' (h r (List.mem_cons_self ..)),AgS.first fun x hx=>h x (List.mem_cons_of_mem _ hx)⟩
theorem AgS.bd':∀ {l:List Rn}{S:List Int},(∀ r∈l,OkR r)→AgS l S→∀ x∈S,0≤x∧x≤1000
 | [],S,_,h,x,hx=>by rw [AgS] at h;subst h;cases hx
 | r::t,S,h,⟨A,B,e,h1,h2⟩,x,hx=>by
  subst e
  rcases List.mem_append.1 hx with hx|hx
  ·exact AgP.bd (h r (List.mem_cons_self ..)) h1 x hx
  ·exact AgS.bd' (fun y hy=>h y (List.mem_cons_of_mem _ hy)) h2 x hx
theorem AgP.raw {r:Rn}{A:List Int}{s:Int} (h:rawR r s):AgP r A ↔ A=List.replicate (r.to_-r.from_).toNat s:=by
 rw [AgP,h.1]
 simp only [List.length_cons,List.length_nil,Nat.zero_add,Nat.one_ne_zero,if_false]
 rw [show tabS [(s,r.to_-r.from_)]=List.replicate (r.to_-r.from_).toNat s by rw [tabS_cons,show tabS []=[] from rfl,List.append_nil]]
 exact List.perm_replicate
def Cn:Int→List Rn→Int→Prop
 | f,[],t=>f=t
 | f,r::l,t=>r.from_=f∧Cn r.to_ l t
theorem Cn.app:∀ {a b:List Rn}{f t:Int},Cn f (a++b) t ↔ ∃ m,Cn f a m∧Cn m b t
 | [],b,f,t=>⟨fun h=>⟨f,rfl,h⟩,fun ⟨m,h1,h2⟩=>by rw [Cn] at h1;subst h1;exact h2⟩
 | r::a,b,f,t=>by
  rw [List.cons_append,Cn,Cn.app]
  exact ⟨fun ⟨h1,m,h2,h3⟩=>⟨m,⟨h1,h2⟩,h3⟩,fun ⟨m,⟨h1,h2⟩,h3⟩=>⟨h1,m,h2,h3⟩⟩
theorem Cn.one {r:Rn}{f t:Int}:Cn f [r] t ↔ r.from_=f∧r.to_=t:=Iff.rfl
theorem Cn.chn:∀ {l:List Rn}{f t:Int},Cn f l t→Chn f l
 | [],_,_,_=>trivial
 | _::_,_,_,h=>⟨h.1,h.2.chn⟩
theorem Cn.le:∀ {l:List Rn}{f t:Int},Cn f l t→(∀ r∈l,OkR r)→f+l.length≤t
 | [],f,t,h,_=>by rw [Cn] at h;rw [List.length_nil];omega
 | r::l,f,t,h,ho=>by
  have h1:=(ho r (List.mem_cons_self ..)).rng
  have h2:=h.2.le fun x hx=>ho x (List.mem_cons_of_mem _ hx)
  have:=h.1
  rw [List.length_cons];omega
theorem lastD_snoc (l:List Rn) (x:Rn):lastD (l++[x])=x:=by rw [lastD,List.getLast?_concat];rfl
theorem Cn.last {l:List Rn}{f t:Int} (h:Cn f l t) (h0:l≠[]):(lastD l).to_=t:=by
 rcases nil_or_snoc l with rfl|⟨o,y,rfl⟩
 ·exact absurd rfl h0
 ·obtain ⟨m,_,h2⟩:=Cn.app.1 h
  rw [lastD_snoc];exact h2.2
theorem Cn.first {l:List Rn}{f t:Int} (h:Cn f l t) (h0:l≠[]):(headD' l).from_=f∧firstF l=f:=by
 cases l with
 | nil=>exact absurd rfl h0
 | cons r l=>exact ⟨h.1,h.1⟩
theorem lenT_eq {l:List Rn} (h0:l≠[]):lenT l=(lastD l).to_-(headD' l).from_:=by
 cases l with
 | nil=>exact absurd rfl h0
 | cons r t =>
  unfold lenT
  rw [← List.getLast?_eq_getElem?]
  have:(r::t).getLast?=some (lastD (r::t)):=by rw [lastD,List.getLast?_eq_some_getLast h0];rfl
  rw [this]
  rfl
theorem runs_of {l:List Rn}{f t:Int} (h:Cn f l t) (ho:∀ r∈l,OkR r) (hl:t-f≤2000):runsErr l=0:=by
 have h1:=h.le ho
 by_cases h0:l=[]
 ·subst h0;rfl
 have h2:=rnErr_chn (p:=none) h.chn (fun q e=>by cases e) (fun r hr=>(ho r hr).1) fun r hr=>(ho r hr).2
 rw [runsErr,if_neg (by omega),if_neg (by rw [h2];decide),if_neg]
 rw [lenT_eq h0,h.last h0,(h.first h0).1];omega
theorem cn_of:∀ {l:List Rn}{f:Int},Chn f l→l≠[]→Cn f l (lastD l).to_
 | [r],f,h,_=>⟨h.1,rfl⟩
 | r::s::l,f,h,_=>by
  have:=cn_of (l:=s::l) h.2 (List.cons_ne_nil _ _)
  refine ⟨h.1,?_⟩
  rw [show lastD (r::s::l)=lastD (s::l) by rw [lastD,lastD,List.getLast?_cons_cons]]
  exact this
theorem runs_ok {l:List Rn} (h:runsErr l=0):(∀ r∈l,OkR r)∧l.length≤2000∧(l≠[]→Cn (headD' l).from_ l (lastD l).to_∧(lastD l).to_-(headD' l).from_≤40000):=by
 obtain ⟨h1,h2,h3⟩:=runsErr_ok h
 refine ⟨fun r hr=>⟨h2 r hr,runsErr_one h r hr⟩,h1,fun h0=>⟨?_,by rw [← lenT_eq h0];exact h3⟩⟩
 have h4:Chn (firstF l) l:=chn_of (p:=none) (runsErr_rn h)
 have h5:=cn_of h4 h0
 have h6:=h5.first h0
 rw [h6.1];exact h5
theorem AgS.len:∀ {l:List Rn}{S:List Int}{f t:Int},Cn f l t→(∀ r∈l,OkR r)→AgS l S→f+S.length=t
 | [],S,f,t,h,_,ha=>by rw [Cn] at h;rw [AgS] at ha;subst ha h;rw [List.length_nil];omega
 | r::l,S,f,t,h,ho,⟨A,B,e,h1,h2⟩=>by
  subst e
  have h3:=AgP.len (ho r (List.mem_cons_self ..)) h1
  have h4:=AgS.len h.2 (fun x hx=>ho x (List.mem_cons_of_mem _ hx)) h2
  have:=h.1
  rw [List.length_append];omega
theorem jbl_ok {a b:Rn} (ha:OkR a) (hb:OkR b) (hj:jblB a b=true) (h:b.from_=a.to_):OkR (jnR a b)∧(∀ A B,AgP a A→AgP b B→AgP (jnR a b) (A++B))∧(∀ s,cnt s (jnR a b).tab=cnt s a.tab+cnt s b.tab)∧(jnR a b).tab.length=a.tab.length:=by
 have r1:=ha.rng
 have r2:=hb.rng
 rw [jblB] at hj
 split at hj
 ·rename_i h1
  rw [decide_eq_true_eq] at hj
  obtain ⟨⟨a1,a2,a3⟩,a4⟩:=ha.raw h1.1
  obtain ⟨⟨b1,b2,b3⟩,b4⟩:=hb.raw h1.2
  rw [hj] at a1
  have e1:(jnR a b).tab=[(stg b,(jnR a b).to_-(jnR a b).from_)]:=by rw [jnR,if_neg (by omega)]
  have e2:rawR (jnR a b) (stg b):=⟨e1,b2,b3⟩
  have e3:stg (jnR a b)=stg b:=by rw [stg,e1];rfl
  refine ⟨⟨?_,oneE_raw (by rw [e3];exact e2) (by rw [e3];exact b4) ?_⟩,fun A B hA hB=>?_,fun s=>?_,by rw [e1,h1.1];rfl⟩
  ·rw [inT,decide_eq_true_eq];show 0≤a.from_∧a.from_ < b.to_∧b.to_≤1402560;omega
  ·show 0≤a.from_∧a.from_ < b.to_∧b.to_≤1402560;omega
  ·rw [AgP.raw ⟨a1,a2,a3⟩] at hA
   rw [AgP.raw ⟨b1,b2,b3⟩] at hB
   subst hA hB
   rw [AgP.raw e2,List.replicate_append_replicate]
   congr 1
   show _=(b.to_-a.from_).toNat
   omega
  ·rw [e1,a1,b1]
   simp only [cnt]
   show (if s=stg b then b.to_-a.from_ else 0)=_
   split<;>omega
 ·rw [decide_eq_true_eq] at hj
  obtain ⟨h1,h2,h3,h4⟩:=hj
  have g1:=hb.gap h2
  have e1:(jnR a b).tab=[]:=by rw [jnR,if_pos h2]
  have e0:(jnR a b).tab.length=0:=by rw [e1];rfl
  refine ⟨⟨?_,?_⟩,fun A B hA hB=>?_,fun s=>?_,by rw [e0,h1]⟩
  ·rw [inT,decide_eq_true_eq];show 0≤a.from_∧a.from_ < b.to_∧b.to_≤1402560;omega
  ·rw [oneE,if_pos e0,if_neg]
   show ¬ (b.lo < 0∨b.hi < b.lo∨1000 < b.hi)
   omega
  ·rw [AgP,if_pos h1] at hA
   rw [AgP,if_pos h2] at hB
   rw [AgP,if_pos e0]
   refine ⟨?_,fun x hx=>?_⟩
   ·rw [List.length_append,hA.1,hB.1]
    show _=(b.to_-a.from_).toNat
    omega
   ·show b.lo≤x∧x≤b.hi
    rcases List.mem_append.1 hx with hx|hx
    ·have:=hA.2 x hx;omega
    ·exact hB.2 x hx
  ·rw [e1,List.length_eq_zero_iff.1 h1,List.length_eq_zero_iff.1 h2];rfl
structure Jnd (f t:Int) (o:List Rn) (S:List Int→Prop) (c:Int→Int) (g:Prop):Prop where
 cn:Cn f o t
 ok:∀ r∈o,OkR r
 ag:∀ A,S A→AgS o A
 tot:∀ s,totC o s=c s
 gp:g→∀ r∈o,r.tab.length≠0
theorem putL_ok {f m:Int}{o:List Rn}{x:Rn} (h1:Cn f o m) (h2:∀ r∈o,OkR r) (h3:OkR x) (h4:x.from_=m) :
  Cn f (putL o x) x.to_∧(∀ r∈putL o x,OkR r)∧(∀ S A,AgS o S→AgP x A→AgS (putL o x) (S++A))∧(∀ s,totC (putL o x) s=totC o s+cnt s x.tab)∧((∀ r∈o,r.tab.length≠0)→x.tab.length≠0→∀ r∈putL o x,r.tab.length≠0):=by
 have key:Cn f (o++[x]) x.to_∧(∀ r∈o++[x],OkR r)∧(∀ S A,AgS o S→AgP x A→AgS (o++[x]) (S++A))∧(∀ s,totC (o++[x]) s=totC o s+cnt s x.tab)∧((∀ r∈o,r.tab.length≠0)→x.tab.length≠0→∀ r∈o++[x],r.tab.length≠0):=by
  refine ⟨Cn.app.2 ⟨m,h1,h4,rfl⟩,fun r hr=>?_,fun S A hS hA=>AgS_app.2 ⟨S,A,rfl,hS,AgS_one.2 hA⟩,fun s=>?_,fun q1 q2 r hr=>?_⟩
  ·rcases List.mem_append.1 hr with hr|hr
   ·exact h2 r hr
   ·rw [List.mem_singleton.1 hr];exact h3
  ·rw [totC_app,totC,totC,Int.add_zero]
  ·rcases List.mem_append.1 hr with hr|hr
   ·exact q1 r hr
   ·rw [List.mem_singleton.1 hr];exact q2
 rcases nil_or_snoc o with rfl|⟨o,y,rfl⟩
 ·exact key
 rw [putL_snoc]
 split
 ·rename_i hj
  obtain ⟨n,e1,e2,e3⟩:=Cn.app.1 h1
  rw [Cn] at e3
  have hy:=h2 y (by simp)
  obtain ⟨j1,j2,j3,j4⟩:=jbl_ok hy h3 hj (by omega)
  refine ⟨Cn.app.2 ⟨n,e1,e2,rfl⟩,fun r hr=>?_,fun S A hS hA=>?_,fun s=>?_,fun q1 _ r hr=>?_⟩
  ·rcases List.mem_append.1 hr with hr|hr
   ·exact h2 r (List.mem_append_left _ hr)
   ·rw [List.mem_singleton.1 hr];exact j1
  ·obtain ⟨S1,S2,rfl,e4,e5⟩:=AgS_app.1 hS
   exact AgS_app.2 ⟨S1,S2++A,List.append_assoc ..,e4,AgS_one.2 (j2 _ _ (AgS_one.1 e5) hA)⟩
  ·rw [totC_app,totC_app,totC,totC,totC,totC,Int.add_zero,Int.add_zero,j3];omega
  ·rcases List.mem_append.1 hr with hr|hr
   ·exact q1 r (List.mem_append_left _ hr)
   ·rw [List.mem_singleton.1 hr,j4];exact q1 y (by simp)
 ·exact key
theorem joinF_ok:∀ {l o:List Rn}{f m t:Int},Cn f o m→(∀ r∈o,OkR r)→Cn m l t→(∀ r∈l,OkR r) →
  Cn f (joinF o l) t∧(∀ r∈joinF o l,OkR r)∧(∀ S A,AgS o S→AgS l A→AgS (joinF o l) (S++A))∧(∀ s,totC (joinF o l) s=totC o s+totC l s)∧((∀ r∈o,r.tab.length≠0)→(∀ r∈l,r.tab.length≠0)→∀ r∈joinF o l,r.tab.length≠0)
 | [],o,f,m,t,h1,h2,h3,_=>by
  rw [Cn] at h3;subst h3
  rw [joinF_nil]
  exact ⟨h1,h2,fun S A hS hA=>by rw [AgS] at hA;subst hA;rw [List.append_nil];exact hS,fun s=>by rw [totC,Int.add_zero],fun q _=>q⟩
 | x::l,o,f,m,t,h1,h2,h3,h4=>by
  have hx:=h4 x (List.mem_cons_self ..)
  obtain ⟨p1,p2,p3,p4,p5⟩:=putL_ok h1 h2 hx h3.1
  obtain ⟨q1,q2,q3,q4,q5⟩:=joinF_ok p1 p2 h3.2 fun r hr=>h4 r (List.mem_cons_of_mem _ hr)
  rw [joinF_cons]
  refine ⟨q1,q2,fun S A hS hA=>?_,fun s=>?_,fun g1 g2=>q5 (p5 g1 (g2 x (List.mem_cons_self ..))) fun r hr=>g2 r (List.mem_cons_of_mem _ hr)⟩
  ·obtain ⟨A1,A2,rfl,e1,e2⟩:=hA
   rw [← List.append_assoc]
   exact q3 _ _ (p3 _ _ hS e1) e2
  ·rw [q4,p4,totC,Int.add_assoc]
theorem joinL_ok {l:List Rn}{f t:Int} (h1:Cn f l t) (h2:∀ r∈l,OkR r):Cn f (joinL l) t∧(∀ r∈joinL l,OkR r)∧(∀ A,AgS l A→AgS (joinL l) A)∧(∀ s,totC (joinL l) s=totC l s)∧((∀ r∈l,r.tab.length≠0)→∀ r∈joinL l,r.tab.length≠0):=by
 obtain ⟨q1,q2,q3,q4,q5⟩:=joinF_ok (o:=[]) (f:=f) rfl (fun r hr=>by cases hr) h1 h2
 exact ⟨q1,q2,fun A hA=>q3 [] A rfl hA,fun s=>by rw [joinL,q4,totC,Int.zero_add],q5 fun r hr=>by cases hr⟩
end Go.Proofs.YtcdgibkbbcekhaaDoor
/-
 Plain: when a history agrees with runs.
-/
namespace Go.Proofs.YtcdgibkbbcekhaaDoor
open Go.RowKit Go.Sl Go.Num
theorem goC_gap_iff {lo hi:Int}:∀ (seg:List Int) (C:List (Int×Int)),goC true lo hi C seg=true ↔ ∀ x∈seg,lo≤x∧x≤hi
 | [],_=>⟨fun _ x hx=>(by cases hx),fun _=>rfl⟩
 | s::r,C=>by
  rw [goC,Bool.and_eq_true,goC_gap_iff r,badC,if_pos rfl,Bool.not_not,decide_eq_true_eq]
  exact ⟨fun ⟨h1,h2⟩ x hx=>(List.mem_cons.1 hx).elim (fun e=>e ▸ h1) (h2 x),fun h=>⟨h s (List.mem_cons_self ..),fun x hx=>h x (List.mem_cons_of_mem _ hx)⟩⟩
theorem goC_tab_iff {lo hi:Int}:∀ (seg:List Int) (C:List (Int×Int)),(∀ x,0≤cnt x C)→(goC false lo hi C seg=true ↔ ∀ x,nIn x seg≤cnt x C)
 | [],C,h=>⟨fun _ x=>h x,fun _=>rfl⟩
 | s::r,C,h=>by
  have hs:=h s
  rw [goC,Bool.and_eq_true,badC,if_neg (by decide),Bool.not_eq_true',decide_eq_false_iff_not]
  constructor
  ·rintro ⟨h1,h2⟩ x
   have h3:=(goC_tab_iff r (setC s (cnt s C-1) C) fun y=>by rw [cnt_setC];have:=h y;split<;>omega).1 h2 x
   rw [cnt_setC] at h3
   rw [nIn]
   by_cases hx:x=s
   ·subst hx;rw [if_pos rfl] at h3 ⊢;omega
   ·rw [if_neg hx] at h3;rw [if_neg (fun e=>hx e.symm)];omega
  ·intro h1
   have h2:=h1 s
   have h3:=nIn_bd s r
   rw [nIn,if_pos rfl] at h2
   refine ⟨by omega,(goC_tab_iff r (setC s (cnt s C-1) C) fun y=>by rw [cnt_setC];have:=h y;split<;>omega).2 fun x=>?_⟩
   have h4:=h1 x
   rw [nIn] at h4
   rw [cnt_setC]
   by_cases hx:x=s
   ·subst hx;rw [if_pos rfl] at h4 ⊢;omega
   ·rw [if_neg (fun e=>hx e.symm)] at h4;rw [if_neg hx];omega
theorem nIn_count (x:Int):∀ l:List Int,nIn x l=(l.count x:Int)
 | []=>rfl
 | y::r=>by
  rw [nIn,nIn_count x r,List.count_cons]
  by_cases h:y=x
  ·rw [if_pos h,if_pos (by simpa using h)];omega
  ·rw [if_neg h,if_neg (by simpa using h)];omega
theorem perm_nIn_iff {a b:List Int}:a.Perm b ↔ ∀ x,nIn x a=nIn x b:=by
 rw [List.perm_iff_count]
 exact forall_congr' fun x=>by rw [nIn_count,nIn_count];omega
theorem le_perm:∀ {a b:List Int},a.length=b.length→(∀ x,nIn x a≤nIn x b)→a.Perm b
 | [],b,h,_=>by rw [List.length_eq_zero_iff.1 h.symm]
 | x::a,b,h,h1=>by
  have hx:x∈b:=by
   have:=h1 x
   have h2:=nIn_bd x a
   rw [nIn,if_pos rfl] at this
   exact nIn_pos.1 (by omega)
  have hp:=List.perm_cons_erase hx
  refine List.Perm.trans (List.Perm.cons x (le_perm (a:=a) (b:=b.erase x) ?_ fun y=>?_)) hp.symm
  ·rw [List.length_erase_of_mem hx]
   rw [List.length_cons] at h;omega
  ·have h3:=h1 y
   rw [nIn_perm hp,nIn,nIn] at h3
   omega
theorem cnt_nn {t:List (Int×Int)} (h:∀ p∈t,1≤p.2) (x:Int):0≤cnt x t:=by
 induction t with
 | nil=>exact Int.le_refl _
 | cons p t ih =>
  obtain ⟨y,n⟩:=p
  have:=h (y,n) (List.mem_cons_self ..)
  have:=ih fun q hq=>h q (List.mem_cons_of_mem _ hq)
  rw [cnt]
  dsimp only at *
  split<;>omega
theorem tab_cnt {r:Rn} (h:OkR r) (h0:r.tab.length≠0) (x:Int):nIn x (tabS r.tab)=cnt x r.tab:=by
 obtain ⟨h2,h3,_⟩:=oneE_tab h.2 h0
 exact nIn_tabS _ none h3 (fun p hp=>(h2 p hp).2.1) x
theorem agr1_iff {r:Rn}{seg:List Int} (h:OkR r) (hl:(seg.length:Int)=r.to_-r.from_):agr1 r seg=true ↔ AgP r seg:=by
 rw [agr1,AgP]
 by_cases h0:r.tab.length=0
 ·rw [if_pos h0,decide_eq_true h0,goC_gap_iff]
  exact ⟨fun h=>⟨by omega,h⟩,fun h=>h.2⟩
 ·obtain ⟨h2,h3,h4,_⟩:=oneE_tab h.2 h0
  rw [if_neg h0,decide_eq_false h0,goC_tab_iff _ _ fun x=>by rw [cnt_fill0 h3];exact cnt_nn (fun p hp=>(h2 p hp).2.1) x]
  constructor
  ·intro h5
   refine le_perm ?_ fun x=>?_
   ·have:=tabS_len _ fun x hx=>(h2 x hx).2.1
    omega
   ·have:=h5 x
    rw [cnt_fill0 h3] at this
    rw [tab_cnt h h0];exact this
  ·intro h5 x
   rw [cnt_fill0 h3,← tab_cnt h h0,nIn_perm h5]
   exact Int.le_refl _
theorem agrL_iff {f:Int}{hs:List Int}:∀ {L:List Rn}{d:Nat},Cn (f+d) L (f+hs.length)→(∀ r∈L,OkR r)→(agrL f hs L=true ↔ AgS L (hs.drop d))
 | [],d,h,_=>by
  rw [Cn] at h
  rw [AgS,List.drop_eq_nil_of_le (by omega)]
  exact ⟨fun _=>rfl,fun _=>rfl⟩
 | r::t,d,h,ho=>by
  have h1:=ho r (List.mem_cons_self ..)
  have h2:=h1.rng
  have h3:=h.1
  have h4:=h.2.le fun x hx=>ho x (List.mem_cons_of_mem _ hx)
  have h5:r.to_=f+((d+(r.to_-r.from_).toNat:Nat):Int):=by omega
  have h6:=h.2
  rw [h5] at h6
  have ih:=agrL_iff (L:=t) (d:=d+(r.to_-r.from_).toNat) h6 fun x hx=>ho x (List.mem_cons_of_mem _ hx)
  have h7:(((hs.drop d).take (r.to_-r.from_).toNat).length:Int)=r.to_-r.from_:=by rw [List.length_take,List.length_drop];omega
  rw [agrL,Bool.and_eq_true,ih,show (r.from_-f).toNat=d by omega,agr1_iff h1 h7,AgS]
  constructor
  ·rintro ⟨e1,e2⟩
   exact ⟨_,_,by rw [← List.drop_drop,List.take_append_drop],e1,e2⟩
  ·rintro ⟨A,B,e1,e2,e3⟩
   have e4:=AgP.len h1 e2
   have e5:(r.to_-r.from_).toNat=A.length:=by omega
   rw [e5,← List.drop_drop,e1,List.take_left,List.drop_left]
   exact ⟨e2,e3⟩
theorem agreeB_iff {rs:List Rn}{f:Int}{hs:List Int} (h:runsErr rs=0) (h0:rs≠[]):agreeB rs f hs=true ↔ f=(headD' rs).from_∧AgS rs hs:=by
 obtain ⟨h1,h2,h3⟩:=runs_ok h
 obtain ⟨h4,h5⟩:=h3 h0
 have hp:0 < rs.length:=List.length_pos_iff.2 h0
 have e0:rs[0]?=some (headD' rs):=by cases rs with
  | nil=>exact absurd rfl h0
  | cons r t=>rfl
 have e1:rs[rs.length-1]?=some (lastD rs):=by
  rw [← List.getLast?_eq_getElem?,lastD,List.getLast?_eq_some_getLast h0];rfl
 rw [agreeB,e0,e1]
 dsimp only
 constructor
 ·intro h6
  split at h6
  ·cases h6
  split at h6
  ·cases h6
  rename_i h7 h8
  rw [not_or,Decidable.not_not,Decidable.not_not] at h8
  refine ⟨h8.1,?_⟩
  have h9:=(agrL_iff (f:=f) (hs:=hs) (L:=rs) (d:=0) (by rw [Int.natCast_zero,Int.add_zero,h8.1,show (headD' rs).from_+(hs.length:Int)=(lastD rs).to_ by omega];exact h4) h1).1 h6
  rw [List.drop_zero] at h9
  exact h9
 ·rintro ⟨rfl,h6⟩
  have h7:=AgS.len h4 h1 h6
  have h8:=(h1 _ (List.mem_of_getElem? e0)).rng
  have h9:=(h1 _ (List.mem_of_getElem? e1)).rng
  have hr:rightH (headD' rs).from_ hs=true:=by
   rw [rightH,Bool.and_eq_true,decide_eq_true_eq,Bool.not_eq_true']
   refine ⟨by omega,List.any_eq_false.2 fun x hx=>?_⟩
   have:=AgS.bd' h1 h6 x hx
   rw [badSt,decide_eq_true this];decide
  rw [if_neg (by rw [h,hr];simp),if_neg (by rw [not_or,Decidable.not_not,Decidable.not_not];omega)]
  have h9:=(agrL_iff (f:=(headD' rs).from_) (hs:=hs) (L:=rs) (d:=0) (by rw [Int.natCast_zero,Int.add_zero,h7];exact h4) h1).2
  rw [List.drop_zero] at h9
  exact h9 h6
theorem agreeB_nil (f:Int) (hs:List Int):agreeB [] f hs=(rightH f hs && decide (hs.length=0)):=by
 rw [agreeB]
 cases h:rightH f hs
 ·rw [if_pos (.inr rfl)];rfl
 ·rw [if_neg (by rw [show runsErr []=0 from rfl];simp)];rfl
end Go.Proofs.YtcdgibkbbcekhaaDoor
/-
 Runs as values: what calls make;slices.Clone of runs and of tables;run.copied.
-/
namespace Go.Proofs.YtcdgibkbbcekhaaDoor
open Go.RowKit Go.Sl Go.Num
section
variable {C:Ctx}{st:List (Nat×Value)}{M:List Row}{k:List Item}{q q':Md}{all rest:List Oper}{d:Nat}{ty:TypeId}{pos:String}{after:Array Edge}{gd:Option (Nat×Bool)}
abbrev tfam (N:Nat) (L:List Rn):Row:=famRow N Rn.adr 2 (fun r:Rn=>r.tab.map hoV) L
def srcR (n:Nat) (L0 L:List Rn):Prop:=∀ r∈L,r.tab.length=0∨(∀ p,r.adr=some p→n≤p.block)∨∃ r'∈L0,r'.adr=r.adr∧r'.tab=r.tab
theorem srcR.mono {n m:Nat}{L0 L1 L:List Rn} (h:srcR n L0 L) (h1:m≤n) (h2:∀ r∈L0,r∈L1):srcR m L1 L:=fun r hr=>(h r hr).imp id (Or.imp (fun h p hp=>Nat.le_trans h1 (h p hp)) fun ⟨r',h3,h4⟩=>⟨r',h2 r' h3,h4⟩)
theorem srcR.nil {n:Nat}{L0:List Rn}:srcR n L0 []:=fun r hr=>by cases hr
theorem srcR.app {n:Nat}{L0 a b:List Rn} (h1:srcR n L0 a) (h2:srcR n L0 b):srcR n L0 (a++b):=fun r hr=>(List.mem_append.1 hr).elim (h1 r) (h2 r)
theorem srcR.sub {n:Nat}{L0 a b:List Rn} (h1:srcR n L0 a) (h2:∀ r∈b,r∈a):srcR n L0 b:=fun r hr=>h1 r (h2 r hr)
theorem srcR.one {n:Nat}{L0:List Rn}{r:Rn} (h:r.tab.length=0∨(∀ p,r.adr=some p→n≤p.block)∨∃ r'∈L0,r'.adr=r.adr∧r'.tab=r.tab):srcR n L0 [r]:=fun r hr=>by rw [List.mem_singleton.1 hr];exact h
theorem srcR.self {n:Nat}{L0 L:List Rn} (h:∀ r∈L,r∈L0):srcR n L0 L:=fun r hr=>.inr (.inr ⟨r,h r hr,rfl,rfl⟩)
theorem srcR.comp {n:Nat}{L0 L1 L:List Rn} (h:srcR n L0 L) (h1:srcR n L1 L0):srcR n L1 L:=fun r hr=>by
 rcases h r hr with h2|h2|⟨r',h2,h3,h4⟩
 ·exact .inl h2
 ·exact .inr (.inl h2)
 ·have:=h1 r' h2
  rw [h3,h4] at this;exact this
theorem SlAt.lt {w:World}{a:Option Addr}{sz:Nat}{L:List (List Value)} (h:SlAt w a sz L) (h0:0 < L.length):∀ p,a=some p→p.block < w.heap.size:=fun p hp=>by
 obtain ⟨b,off,e,hr⟩:=h h0
 rw [e] at hp;cases hp
 exact (hr 0 _ (List.getElem?_eq_getElem h0)).1
theorem Sat.tfamOld {w0 w:World}{a:Option Addr}{L:List Rn} (hw:Sat w0 M w) (h:RunsAt w0 a L):Sat w0 (tfam w0.heap.size L::M) w:=by
 refine hw.addFact (Nat.le_refl _) (fun r hr=>SlAt.below (h.2 r hr) hw.below) fun b hb=>?_
 obtain ⟨r,hr,h1,p,h2,h3,h4⟩:=hb
 have:=SlAt.lt (h.2 r hr) h1 p h2
 omega
theorem J.tfamOld {a:Option Addr}{L:List Rn} (h:RunsAt C.w0 a L) (hk:J C st (tfam C.w0.heap.size L::M) k):J C st M k:=.mk fun ac w hf hd hw=>hk.go ac w hf hd (Sat.tfamOld hw h)
theorem Sat.tfamNew {w0 w:World}{n:Nat}{L0 L:List Rn} (hw:Sat w0 M w) (h:∀ r∈L,TabAt w r) (hs:srcR n L0 L) (h0:L0=[]∨tfam w0.heap.size L0∈M) (hf:∀ b,n≤b→w0.heap.size≤b→∀ r∈M,¬ r.lock b):Sat w0 (tfam w0.heap.size L::M) w:=by
 refine hw.addFact (Nat.le_refl _) h fun b hb=>?_
 obtain ⟨r,hr,h1,p,h2,h3,h4⟩:=hb
 dsimp only at h1 h2 h3 h4
 have hlt:=SlAt.lt (h r hr) h1 p h2
 rw [List.length_map] at h1
 rcases hs r hr with h5|h5|⟨r',h5,h6,h7⟩
 ·omega
 ·have:=h5 p h2
  subst h3
  exact ⟨h4,hlt,hf _ this h4⟩
 ·rcases h0 with h0|h0
  ·rw [h0] at h5;cases h5
  ·have h8:(tfam w0.heap.size L0).sup b:=⟨r',h5,by show 0 < (r'.tab.map hoV).length;rw [h7,List.length_map];exact h1,p,h6.trans h2,h3,h4⟩
   have ho:=hw.old _ h0
   exact ⟨(ho.2 b h8).1,(ho.2 b h8).2,fun r'' hr''=>hw.noLock h0 (fun _ h=>h) hr'' h8⟩
def RetU (L0:List Rn) (P:List Rn→Prop) (v:Option Addr→Nat→Nat→Value) (w:World) (e:Ending) (w':World):Prop :=
 ∃ L a' c',P L∧e=.returned (v a' L.length c')∧RunsAt w' a' L∧((∀ p,a'=some p→w.heap.size≤p.block)∧L.length≤c')∧srcR w.heap.size L0 L∧Below w.heap.size w w'
theorem G.cU {g:FuncId}{args:List Operand}{vs:List Value}{at_:Array TypeId} (v:Option Addr→Nat→Nat→Value) (P:List Rn→Prop) (L0:List Rn) (h0:L0=[]∨tfam C.w0.heap.size L0∈M) (ha:evL st args=some vs) (hs:sideB all st gd d C.N q.ext=some q') [hF:Fun C.P g]
  (hc:∀ w,Sat C.w0 M w→Calls C.P g vs.toArray w (RetU L0 P v w))
  (h:∀ L a' c',P L→(0 < L.length→∃ b off,a'=some ⟨b,off,none⟩)∧((∀ p,a'=some p→C.w0.heap.size≤p.block)∧L.length≤c')→srcR C.w0.heap.size L0 L→G q' C all ((d,v a' L.length c')::st) (slRow C.w0.heap.size a' 5 (L.map rnV)::tfam C.w0.heap.size L::M) rest k) :
  G q C all st M ({ dst:=some d,op:=.call { callee:=.value (.func g),args:=args.toArray,argTypes:=at_ },type:=ty,pos,after,guard:=gd }::rest) k:=by
 obtain ⟨g1,g2,g3⟩:=sideB_ok hs
 refine G.call0 (X:={ x:List Rn×Option Addr×Nat // P x.1∧((0 < x.1.length→∃ b off,x.2.1=some ⟨b,off,none⟩)∧((∀ p,x.2.1=some p→C.w0.heap.size≤p.block)∧x.1.length≤x.2.2))∧srcR C.w0.heap.size L0 x.1 }) (v:=fun x=>v x.1.2.1 x.1.1.length x.1.2.2) (Mn:=fun x=>[slRow C.w0.heap.size x.1.2.1 5 (x.1.1.map rnV),tfam C.w0.heap.size x.1.1]) g1 g2 g3 ha (fun w hw=>(hc w hw).mono fun e w' he=>?_) fun x=>h x.1.1 x.1.2.1 x.1.2.2 x.2.1 x.2.2.1 x.2.2.2
 obtain ⟨L,a',c',hP,rfl,h1,⟨h2,h2c⟩,h3,h4⟩:=he
 have hw':=hw.ext h4
 have hf:∀ b,w.heap.size≤b→C.w0.heap.size≤b→∀ r∈M,¬ r.lock b:=fun b hb h7=>hw.free (.inr (.inl hb)) h7
 have hw2:Sat C.w0 (tfam C.w0.heap.size L::M) w':=Sat.tfamNew hw' h1.2 h3 h0 hf
 refine ⟨⟨(L,a',c'),hP,⟨fun h0=>(let ⟨b,off,e,_⟩:=h1.1 (by rw [List.length_map];exact h0);⟨b,off,e⟩),⟨fun p hp=>Nat.le_trans hw.size (h2 p hp),h2c⟩⟩,h3.mono hw.size fun _ h=>h⟩,rfl,hw2.addFact (Nat.le_refl _) h1.1 fun b hb=>?_⟩
 obtain ⟨h5,p,h6,h7,h8⟩:=hb
 dsimp only at h5 h6
 have hlt:=SlAt.lt h1.1 h5 p h6
 have:=h2 p h6
 subst h7
 refine ⟨h8,hlt,fun r hr=>?_⟩
 rcases List.mem_cons.1 hr with rfl|hr
 ·exact fun h=>h
 ·exact hf _ this h8 r hr
end
theorem RunsAt.of {w0 w:World}{M:List Row}{N:Nat}{a:Option Addr}{L:List Rn} (hw:Sat w0 M w) (h1:slRow N a 5 (L.map rnV)∈M:=by (repeat (first|exact List.Mem.head _|apply List.Mem.tail))) (h2:tfam N L∈M:=by (repeat (first|exact List.Mem.head _|apply List.Mem.tail))):RunsAt w a L:=⟨hw.sl h1,fun r hr=>hw.fam h2 r hr⟩
theorem sat_ownCap {w0 w:World}{M:List Row}{base E sz n c:Nat}{a:Option Addr}{xs:List Value} (hw:Sat w0 M w) (h1:Row.own base (.slice a n c) E sz n xs∈M):n≤c:=by
 obtain ⟨_,hv⟩:=hw.hold _ h1
 rcases hv with ⟨e,_⟩|⟨g,cap,cur,e,_,_,h,_⟩
 ·cases e;exact Nat.le_refl _
 ·cases e;exact h
theorem Sat.retU {w0 w:World}{M:List Row}{L0 L:List Rn}{a:Option Addr}{n c:Nat}{P:List Rn→Prop} (v:Option Addr→Nat→Nat→Value) (hw:Sat w0 M w) (hP:P L) (hn:L.length=n) (hs:srcR w0.heap.size L0 L) (h1:Row.own 0 (.slice a n c) 50 5 n (flat rnV L)∈M:=by (repeat (first|exact List.Mem.head _|apply List.Mem.tail))) (h2:tfam w0.heap.size L∈M:=by (repeat (first|exact List.Mem.head _|apply List.Mem.tail))) :
  RetU L0 P v w0 (.returned (v a n c)) w:=by
 subst hn
 have ho:=hw.hold _ h1
 refine ⟨L,a,c,hP,rfl,⟨SlAt.ofOwn rnV_len ho rfl,fun r hr=>hw.fam h2 r hr⟩,⟨?_,sat_ownCap hw h1⟩,hs,hw.below⟩
 rintro p rfl
 exact ((hw.old _ h1).2 p.block rfl).1
theorem Sat.retS {w0 w:World}{M:List Row}{L0 L:List Rn}{a:Option Addr}{n c:Nat}{P:List Rn→Prop} (v:Option Addr→Nat→Nat→Value) (hw:Sat w0 M w) (hP:P L) (hn:L.length=n) (ha:(∀ p,a=some p→w0.heap.size≤p.block)∧L.length≤c) (hs:srcR w0.heap.size L0 L) (h1:slRow w0.heap.size a 5 (L.map rnV)∈M:=by (repeat (first|exact List.Mem.head _|apply List.Mem.tail))) (h2:tfam w0.heap.size L∈M:=by (repeat (first|exact List.Mem.head _|apply List.Mem.tail))) :
  RetU L0 P v w0 (.returned (v a n c)) w:=by
 subst hn
 exact ⟨L,a,c,hP,rfl,RunsAt.of hw h1 h2,ha,hs,hw.below⟩
theorem hoV_one (x:Int×Int):(hoV x).all (·.oneCell')=true:=rfl
theorem rnV_one (r:Rn):(rnV r).all (·.oneCell')=true:=rfl
theorem cloneH_holds (a:Option Addr) (t:List (Int×Int)) (c:Nat) (w:World) (hA:SlAt w a 2 (t.map hoV)) (hl:t.length≤1000000) :
  Calls Tryd.prog 53 #[.slice a t.length c] w fun e w'=>∃ a' c',e=.returned (.slice a' t.length c')∧SlAt w' a' 2 (t.map hoV)∧(∀ p,a'=some p→w.heap.size≤p.block)∧Below w.heap.size w w':=by
 cases a with
 | none =>
  have h0:t.length=0:=by
   rcases Nat.eq_zero_or_pos t.length with h|h
   ·exact h
   ·obtain ⟨_,_,e,_⟩:=hA (by rw [List.length_map];exact h)
    cases e
  rw [h0]
  refine enterA [(0,.slice none 0 c)] Tryd.func53 Tryd.ntmps53 ?_
  all_goals (refine go ?_;and_intros<;>(try exact trivial)<;>repeat (first|refine fun (Bk:Nat)=>?_|intro h))
  repeat' ((first|(apply G.isNil;rfl;rfl;rfl;all_goals intro h;all_goals try (exact absurd rfl h)))<;>(refine go ?_;and_intros<;>(try exact trivial)<;>repeat (first|refine fun (Bk:Nat)=>?_|intro h)))
  refine ret1 Tryd.func53 Tryd.results53 ?_
  exact fun w' hw'=>⟨none,0,rfl,fun h=>by rw [List.length_map] at h;omega,fun p hp=>(by cases hp),hw'.below⟩
 | some p =>
  refine enterA [(0,.slice (some p) t.length c)] Tryd.func53 Tryd.ntmps53 ?_
  all_goals (refine go ?_;and_intros<;>(try exact trivial)<;>repeat (first|refine fun (Bk:Nat)=>?_|intro h))
  repeat' ((first|(apply G.isNil;rfl;rfl;rfl;all_goals intro h;all_goals try (cases h;done))|(apply G.slice0;rfl;rfl;rfl;intro Bk)|(apply G.apV;rfl;rfl;rfl;(repeat (first|exact RAt.head|apply RAt.tail));exact SrcV.old hoV_len hoV_one hA;exact List.nil_append _;omega;omega;intro a2 c2))<;>(refine go ?_;and_intros<;>(try exact trivial)<;>repeat (first|refine fun (Bk:Nat)=>?_|intro h)))
  refine ret1 Tryd.func53 Tryd.results53 ?_
  intro w' hw'
  rw [Nat.zero_add] at hw'
  refine ⟨a2,c2,by rw [Nat.zero_add],SlAt.ofOwn hoV_len (hw'.hold _ (List.Mem.head _)) rfl,?_,hw'.below⟩
  rintro p rfl
  exact ((hw'.old _ (List.Mem.head _)).2 p.block rfl).1
theorem cloneR_holds (a:Option Addr) (l:List Rn) (c:Nat) (w0 w:World) (M:List Row) (hw:Sat w0 M w) (hA:SlAt w0 a 5 (l.map rnV)) (hl:l.length≤1000000) :
  Calls Tryd.prog 52 #[.slice a l.length c] w fun e w'=>∃ x:Option Addr×Nat,e=.returned (.slice x.1 l.length x.2)∧Sat w0 (.own 0 (.slice x.1 l.length x.2) 50 5 l.length (flat rnV l)::M) w':=by
 cases a with
 | none =>
  have h0:l.length=0:=by
   rcases Nat.eq_zero_or_pos l.length with h|h
   ·exact h
   ·obtain ⟨_,_,e,_⟩:=hA (by rw [List.length_map];exact h)
    cases e
  obtain rfl:=List.length_eq_zero_iff.1 h0
  refine enterR [(0,.slice none 0 c)] hw Tryd.func52 Tryd.ntmps52 ?_
  apply J.nilOwn (E:=50) (size:=5)
  all_goals (refine go ?_;and_intros<;>(try exact trivial)<;>repeat (first|refine fun (Bk:Nat)=>?_|intro h))
  repeat' ((first|(apply G.isNil;rfl;rfl;rfl;all_goals intro h;all_goals try (exact absurd rfl h)))<;>(refine go ?_;and_intros<;>(try exact trivial)<;>repeat (first|refine fun (Bk:Nat)=>?_|intro h)))
  refine ret1 Tryd.func52 Tryd.results52 ?_
  exact fun w' hw'=>⟨(none,0),rfl,hw'⟩
 | some p =>
  refine enterR [(0,.slice (some p) l.length c)] hw Tryd.func52 Tryd.ntmps52 ?_
  all_goals (refine go ?_;and_intros<;>(try exact trivial)<;>repeat (first|refine fun (Bk:Nat)=>?_|intro h))
  repeat' ((first|(apply G.isNil;rfl;rfl;rfl;all_goals intro h;all_goals try (cases h;done))|(apply G.slice0;rfl;rfl;rfl;intro Bk)|(apply G.apV;rfl;rfl;rfl;(repeat (first|exact RAt.head|apply RAt.tail));exact SrcV.old rnV_len rnV_one hA;exact List.nil_append _;omega;omega;intro a2 c2))<;>(refine go ?_;and_intros<;>(try exact trivial)<;>repeat (first|refine fun (Bk:Nat)=>?_|intro h)))
  refine ret1 Tryd.func52 Tryd.results52 ?_
  intro w' hw'
  rw [Nat.zero_add] at hw'
  exact ⟨(a2,c2),by rw [Nat.zero_add],hw'⟩
end Go.Proofs.YtcdgibkbbcekhaaDoor
/-
 Contracts: run.copied,run.both.
-/
namespace Go.Proofs.YtcdgibkbbcekhaaDoor
open Go.RowKit Go.Sl Go.Num
theorem flat_mget {A:Type}{f:A→List Value}{sz:Nat} (hf:∀ x,(f x).length=sz) {l:List A}{k:Nat} (h:k < l.length) {j:Nat} (hj:j < sz) {v:Value} (hv:(f l[k])[j]?=some v):(flat f l)[0+k*sz+j]?=some v:=by
 rw [Nat.zero_add,flat_at hf h hj];exact hv
theorem flat_mset {A:Type}{f:A→List Value}{sz:Nat} (hf:∀ x,(f x).length=sz) {l:List A}{k:Nat} (h:k < l.length) {j:Nat} (hj:j < sz) {v:Value}{y:A} (hv:(f l[k]).set j v=f y):setL (flat f l) (0+k*sz+j) [v]=flat f (l.set k y):=by
 have h1:l=l.take k++l[k]::l.drop (k+1):=by rw [← List.drop_eq_getElem_cons h,List.take_append_drop]
 have h3:(flat f (l.take k)).length=k*sz:=by rw [flat_len hf,List.length_take,Nat.min_eq_left (by omega)]
 have h4:(flat f l).length=l.length*sz:=flat_len hf l
 have h5:(k+1)*sz≤l.length*sz:=Nat.mul_le_mul_right _ h
 rw [Nat.succ_mul] at h5
 rw [Nat.zero_add,setL_eq _ _ _ (by rw [h4,List.length_singleton];omega)]
 have h2:(flat f l)=flat f (l.take k)++(f l[k]++flat f (l.drop (k+1))):=by
  rw [← flat_cons,← flat_append,← h1]
 have h6:flat f (l.set k y)=flat f (l.take k)++(f y++flat f (l.drop (k+1))):=by
  rw [← flat_cons,← flat_append,List.set_eq_take_append_cons_drop,if_pos h]
 rw [h6,h2,← hv,List.take_append,h3,List.drop_append,h3]
 have e1:(f l[k]).length=sz:=hf _
 rw [List.take_of_length_le (by omega),show (flat f (l.take k)).drop (k*sz+j+[v].length)=[] from List.drop_eq_nil_of_le (by rw [h3,List.length_singleton];omega),show k*sz+j-k*sz=j by omega,List.length_singleton,show k*sz+j+1-k*sz=j+1 by omega,List.nil_append,List.take_append_of_le_length (by omega),List.drop_append_of_le_length (by omega),List.append_assoc,List.append_assoc]
 congr 1
 rw [← List.append_assoc,← List.append_assoc]
 congr 1
 rw [List.set_eq_take_append_cons_drop,if_pos (by omega),List.append_assoc];rfl
def newT (N:Nat) (L:List Rn):Prop:=∀ r∈L,∀ p,r.adr=some p→N≤p.block
theorem newT.src {N:Nat}{L0 L:List Rn} (h:newT N L):srcR N L0 L:=fun r hr=>.inr (.inl (h r hr))
theorem newT.app {N:Nat}{a b:List Rn} (h1:newT N a) (h2:newT N b):newT N (a++b):=fun r hr=>(List.mem_append.1 hr).elim (h1 r) (h2 r)
theorem copied_holds (a:Option Addr) (l:List Rn) (c:Nat) (w0 w:World) (M:List Row) (hw:Sat w0 M w) (hA:RunsAt w0 a l) (hl:l.length≤1000000) (ht:∀ r∈l,r.tab.length≤1000000) :
  Calls Tryd.prog 39 #[.slice a l.length c] w fun e w'=>∃ x:{ x:List Rn×Option Addr×Nat // x.1.map rbare=l.map rbare∧newT w0.heap.size x.1 },e=.returned (.slice x.1.2.1 l.length x.1.2.2)∧Sat w0 (.own 0 (.slice x.1.2.1 l.length x.1.2.2) 50 5 l.length (flat rnV x.1.1)::tfam w0.heap.size x.1.1::M) w':=by
 refine enterR [(0,.slice a l.length c)] hw Tryd.func39 Tryd.ntmps39 ?_
 all_goals (refine go ?_;and_intros<;>(try exact trivial)<;>repeat (first|refine fun (Bk:Nat)=>?_|intro h))
 repeat' ((first|(refine G.cR (g:=52) (v:=fun x:Option Addr×Nat=>.slice x.1 l.length x.2) (Mn:=fun x=>[.own 0 (.slice x.1 l.length x.2) 50 5 l.length (flat rnV l)]) rfl rfl (fun w' hw'=>cloneR_holds a l c w0 w' _ hw' hA.1 hl) ?_;intro ⟨a1,c1⟩;dsimp only))<;>(refine go ?_;and_intros<;>(try exact trivial)<;>repeat (first|refine fun (Bk:Nat)=>?_|intro h)))
 apply J.fam0 Rn.adr 2 (fun r=>r.tab.map hoV)
 rcases Nat.eq_zero_or_pos l.length with h0|h0
 ·obtain rfl:=List.length_eq_zero_iff.1 h0
  refine J.loop (c:=_) (0:Nat) (fun s=>0) (fun s=>[(3,.slice a1 0 c1),(8,.int .i64 0),(9,.int .i64 0)]) (fun s=>tfam w0.heap.size []::.own 0 (.slice a1 0 c1) 50 5 0 (flat rnV [])::M) (fun s=>True) ?_ sbT sbL ?_
  ·exact trivial
  intro _ _ _
  all_goals (refine go ?_;and_intros<;>(try exact trivial)<;>repeat (first|refine fun (Bk:Nat)=>?_|intro h))
  refine ret1 Tryd.func39 Tryd.results39 ?_
  exact fun w' hw'=>⟨⟨([],a1,c1),rfl,fun r hr=>by cases hr⟩,rfl,hw'.sel⟩
 refine J.ownOpen RAt.au h0 ?_
 intro g cap hgc hcm hv
 rw [hv]
 clear hv
 have hlk:=fun k hk=>hA.2 _ (List.getElem_mem (l:=l) (n:=k) hk)
 refine J.loop (c:=_) ((0,[]):Nat×List Rn) (fun s=>l.length-s.1) (fun s=>[(3,.slice (some ⟨g,0,none⟩) l.length cap),(8,.int .i64 l.length),(9,.int .i64 s.1)]) (fun s=>tfam w0.heap.size s.2::.blk g 50 (flat rnV (s.2++l.drop s.1)) (cap*5)::M) (fun s=>s.1≤l.length∧s.2.length=s.1∧s.2.map rbare=(l.take s.1).map rbare∧newT w0.heap.size s.2) ?_ sbT sbL ?_
 ·exact ⟨Nat.zero_le _,rfl,rfl,fun r hr=>by cases hr⟩
 intro ⟨k,P⟩ ⟨h1,h2,h3,h4⟩ ih
 dsimp only at h1 h2 h3 h4 ⊢
 by_cases hk:k < l.length
 ·have htk:=hlk k hk
  have hcl:=fun w' (hb:Below w0.heap.size w0 w')=>cloneH_holds l[k].adr l[k].tab l[k].cap w' (SlAt.below htk hb) (ht _ (List.getElem_mem hk))
  have hlen:k < (P++l.drop k).length:=by rw [List.length_append,List.length_drop];omega
  have hge:(P++l.drop k)[k]=l[k]:=by rw [List.getElem_append_right (by omega),List.getElem_drop];congr 1;omega
  have q1:=flat_mget rnV_len hlen (j:=2) (by decide) (v:=.slice l[k].adr l[k].tab.length l[k].cap) (by rw [hge];rfl)
  have r1:=fun a2 c2=>flat_mset rnV_len hlen (j:=2) (by decide) (v:=.slice a2 l[k].tab.length c2) (y:={ l[k] with adr:=a2,cap:=c2 }) (by rw [hge];rfl)
  have e1:∀ y,(P++l.drop k).set k y=(P++[y])++l.drop (k+1):=fun y=>by
   rw [List.set_append_right _ _ (by omega),h2,Nat.sub_self,List.drop_eq_getElem_cons hk,List.set_cons_zero,List.append_assoc];rfl
  have l1:0+k*5+2 < (flat rnV (P++l.drop k)).length:=by
   rw [flat_len rnV_len]
   have:(k+1)*5≤(P++l.drop k).length*5:=Nat.mul_le_mul_right _ hlen
   omega
  have htm:(l.take (k+1)).map rbare=(l.take k).map rbare++[rbare l[k]]:=by
   rw [List.take_add_one,List.getElem?_eq_getElem hk,List.map_append];rfl
  have ih:=fun (y:Rn) (hy:rbare y=rbare l[k]) (hn:∀ p,y.adr=some p→w0.heap.size≤p.block)=>ih (k+1,P++[y]) ⟨hk,by dsimp only;simp [h2],by dsimp only;rw [List.map_append,h3,htm,← hy];rfl,h4.app fun r hr=>by rw [List.mem_singleton.1 hr];exact hn⟩ (by dsimp only;omega)
  clear hlk htm hge
  generalize l[k]=r at *
  obtain ⟨f,t,tab,adr,cap2,lo,hi⟩:=r
  dsimp only at *
  all_goals (refine go ?_;and_intros<;>(try exact trivial)<;>repeat (first|refine fun (Bk:Nat)=>?_|intro h))
  repeat' ((first|(apply G.ix (i:=k);rfl;rfl;exact rfl;omega;rfl)|(apply G.ld;rfl;(apply LdV.one;exact CellV.blk (by exact mm) q1);rfl)|(apply G.cN (g:=53) (fun a' c'=>.slice a' tab.length c') (tab.map hoV);rfl;rfl;exact fun w' hw'=>hcl w' hw'.below;intro a2 c2 hp2 hq2)|(apply G.s1;rfl;rfl;rfl;(repeat (first|exact RAt.head|apply RAt.tail));exact ⟨rfl,rfl⟩;exact l1;exact r1 a2 c2))<;>(refine go ?_;and_intros<;>(try exact trivial)<;>repeat (first|refine fun (Bk:Nat)=>?_|intro h)))
  rw [e1]
  refine J.famAdd (r:=(⟨f,t,tab,a2,c2,lo,hi⟩:Rn)) (o:=P) mm mm ?_
  exact J.fin (ih ⟨f,t,tab,a2,c2,lo,hi⟩ rfl hq2)
 ·obtain rfl:k=l.length:=by omega
  clear ih hlk
  rw [List.drop_length,List.append_nil]
  rw [List.take_length] at h3
  refine J.blkCut (l':=P) P.length rnV_len RAt.au (by omega) hcm (Nat.le_refl _) (List.take_length ..) ?_
  rw [h2]
  all_goals (refine go ?_;and_intros<;>(try exact trivial)<;>repeat (first|refine fun (Bk:Nat)=>?_|intro h))
  refine ret1 Tryd.func39 Tryd.results39 ?_
  exact fun w' hw'=>⟨⟨(P,some ⟨g,0,none⟩,cap),h3,h4⟩,rfl,hw'.sel⟩
def RetB (a b:Rn) (w:World) (e:Ending) (w':World):Prop:=∃ x:Rn,e=.returned (.tuple #[rnA x,.bool (jblB a b)])∧(jblB a b=true→rbare x=jnR a b)∧TabAt w' x∧(∀ p,x.adr=some p→w.heap.size≤p.block)∧Below w.heap.size w w'
theorem both_holds (a b:Rn) (w:World) (hA:TabAt w a) (hB:TabAt w b) (h1:OkR a) (h2:OkR b):Calls Tryd.prog 21 #[rnA a,rnA b] w (RetB a b w):=by
 have r1:=h1.rng
 have r2:=h2.rng
 have hno:jblB a b=false→Calls Tryd.prog 21 #[rnA a,rnA b] w (fun e w'=>e=.returned (.tuple #[.agg #[.int .i64 0,.int .i64 0,.slice none 0 0,.int .i64 0,.int .i64 0],.bool false])∧Below w.heap.size w w')→Calls Tryd.prog 21 #[rnA a,rnA b] w (RetB a b w):=fun hj h=>h.mono fun e w' ⟨h3,h4⟩=>⟨⟨0,0,[],none,0,0,0⟩,by rw [hj];exact h3,fun h=>(by rw [hj] at h;cases h),fun h=>(by cases h),fun p hp=>(by cases hp),h4⟩
 by_cases hr:a.tab.length=1∧b.tab.length=1
 ·obtain ⟨ra,_⟩:=h1.raw hr.1
  obtain ⟨rb,_⟩:=h2.raw hr.2
  by_cases hs:stg a=stg b
  ·have hj:jblB a b=true:=by rw [jblB,if_pos hr];exact decide_eq_true hs
   refine (bothEq_holds a b (stg b) w (hs ▸ ra) rb hA hB (by omega) (by omega)).mono fun e w' ⟨a',c',h3,h4,h5,h6⟩=>?_
   refine ⟨⟨a.from_,b.to_,[(stg b,b.to_-a.from_)],a',c',0,0⟩,by rw [hj];exact h3,fun _=>?_,h4,h5,h6⟩
   rw [jnR,if_neg (by omega),rb.2.1,rb.2.2];rfl
  ·have hj:jblB a b=false:=by rw [jblB,if_pos hr];exact decide_eq_false hs
   exact hno hj (bothNe_holds a b _ _ w ra rb hA hB hs)
 have hj:jblB a b=decide (a.tab.length=0∧b.tab.length=0∧a.lo=b.lo∧a.hi=b.hi):=by rw [jblB,if_neg hr]
 have hra:=fun w'=>raw_holds a w'
 have hrb:=fun w'=>raw_holds b w'
 have hga:=fun w'=>gap_holds a w'
 have hgb:=fun w'=>gap_holds b w'
 by_cases hg:a.tab.length=0∧b.tab.length=0∧a.lo=b.lo∧a.hi=b.hi
 ·rw [decide_eq_true hg] at hj
  clear hno hr hA hB h1 h2
  obtain ⟨f,t,tab,adr,cap,lo,hi⟩:=a
  obtain ⟨f2,t2,tab2,adr2,cap2,lo2,hi2⟩:=b
  dsimp only [rnA] at *
  obtain ⟨g1,g2,g3,g4⟩:=hg
  rw [decide_eq_true g1] at hga
  rw [decide_eq_true g2] at hgb
  rw [decide_eq_false (by omega)] at hra hrb
  refine enterA [(0,.agg #[.int .i64 f,.int .i64 t,.slice adr tab.length cap,.int .i64 lo,.int .i64 hi]),(1,.agg #[.int .i64 f2,.int .i64 t2,.slice adr2 tab2.length cap2,.int .i64 lo2,.int .i64 hi2])] Tryd.func21 Tryd.ntmps21 ?_
  all_goals (refine go ?_;and_intros<;>(try exact trivial)<;>repeat (first|refine fun (Bk:Nat)=>?_|intro h))
  repeat' ((first|(apply G.cV (g:=28) (vs:=[.agg #[.int .i64 f,.int .i64 t,.slice adr tab.length cap,.int .i64 lo,.int .i64 hi]]);rfl;rfl;exact fun w' _=>hra w')|(apply G.cV (g:=28) (vs:=[.agg #[.int .i64 f2,.int .i64 t2,.slice adr2 tab2.length cap2,.int .i64 lo2,.int .i64 hi2]]);rfl;rfl;exact fun w' _=>hrb w')|(apply G.cV (g:=24) (vs:=[.agg #[.int .i64 f,.int .i64 t,.slice adr tab.length cap,.int .i64 lo,.int .i64 hi]]);rfl;rfl;exact fun w' _=>hga w')|(apply G.cV (g:=24) (vs:=[.agg #[.int .i64 f2,.int .i64 t2,.slice adr2 tab2.length cap2,.int .i64 lo2,.int .i64 hi2]]);rfl;rfl;exact fun w' _=>hgb w'))<;>(refine go ?_;and_intros<;>(try exact trivial)<;>repeat (first|refine fun (Bk:Nat)=>?_|intro h)))
  refine ret2 Tryd.func21 Tryd.results21 ?_
  exact fun w' hw'=>⟨⟨f,t2,[],none,0,lo,hi⟩,by rw [hj];rfl,fun _=>by rw [jnR,if_pos g2,← g3,← g4];rfl,fun h=>(by cases h),fun p hp=>(by cases hp),hw'.below⟩
 ·rw [decide_eq_false hg] at hj
  refine hno hj ?_
  clear hno hj hA hB h1 h2
  obtain ⟨f,t,tab,adr,cap,lo,hi⟩:=a
  obtain ⟨f2,t2,tab2,adr2,cap2,lo2,hi2⟩:=b
  dsimp only [rnA] at *
  by_cases g1:tab.length=0
  ·rw [decide_eq_true g1] at hga
   rw [decide_eq_false (by omega)] at hra
   by_cases g2:tab2.length=0
   ·rw [decide_eq_true g2] at hgb
    rw [decide_eq_false (by omega)] at hrb
    by_cases g3:lo=lo2
    ·have g4:hi≠hi2:=fun e=>hg ⟨g1,g2,g3,e⟩
     clear hg hr
     refine enterA [(0,.agg #[.int .i64 f,.int .i64 t,.slice adr tab.length cap,.int .i64 lo,.int .i64 hi]),(1,.agg #[.int .i64 f2,.int .i64 t2,.slice adr2 tab2.length cap2,.int .i64 lo2,.int .i64 hi2])] Tryd.func21 Tryd.ntmps21 ?_
     all_goals (refine go ?_;and_intros<;>(try exact trivial)<;>repeat (first|refine fun (Bk:Nat)=>?_|intro h))
     repeat' ((first|(apply G.cV (g:=28) (vs:=[.agg #[.int .i64 f,.int .i64 t,.slice adr tab.length cap,.int .i64 lo,.int .i64 hi]]);rfl;rfl;exact fun w' _=>hra w')|(apply G.cV (g:=28) (vs:=[.agg #[.int .i64 f2,.int .i64 t2,.slice adr2 tab2.length cap2,.int .i64 lo2,.int .i64 hi2]]);rfl;rfl;exact fun w' _=>hrb w')|(apply G.cV (g:=24) (vs:=[.agg #[.int .i64 f,.int .i64 t,.slice adr tab.length cap,.int .i64 lo,.int .i64 hi]]);rfl;rfl;exact fun w' _=>hga w')|(apply G.cV (g:=24) (vs:=[.agg #[.int .i64 f2,.int .i64 t2,.slice adr2 tab2.length cap2,.int .i64 lo2,.int .i64 hi2]]);rfl;rfl;exact fun w' _=>hgb w'))<;>(refine go ?_;and_intros<;>(try exact trivial)<;>repeat (first|refine fun (Bk:Nat)=>?_|intro h)))
     all_goals refine ret2b Tryd.func21 Tryd.results21 ?_
     all_goals rfl
    ·clear hg hr
     refine enterA [(0,.agg #[.int .i64 f,.int .i64 t,.slice adr tab.length cap,.int .i64 lo,.int .i64 hi]),(1,.agg #[.int .i64 f2,.int .i64 t2,.slice adr2 tab2.length cap2,.int .i64 lo2,.int .i64 hi2])] Tryd.func21 Tryd.ntmps21 ?_
     all_goals (refine go ?_;and_intros<;>(try exact trivial)<;>repeat (first|refine fun (Bk:Nat)=>?_|intro h))
     repeat' ((first|(apply G.cV (g:=28) (vs:=[.agg #[.int .i64 f,.int .i64 t,.slice adr tab.length cap,.int .i64 lo,.int .i64 hi]]);rfl;rfl;exact fun w' _=>hra w')|(apply G.cV (g:=28) (vs:=[.agg #[.int .i64 f2,.int .i64 t2,.slice adr2 tab2.length cap2,.int .i64 lo2,.int .i64 hi2]]);rfl;rfl;exact fun w' _=>hrb w')|(apply G.cV (g:=24) (vs:=[.agg #[.int .i64 f,.int .i64 t,.slice adr tab.length cap,.int .i64 lo,.int .i64 hi]]);rfl;rfl;exact fun w' _=>hga w')|(apply G.cV (g:=24) (vs:=[.agg #[.int .i64 f2,.int .i64 t2,.slice adr2 tab2.length cap2,.int .i64 lo2,.int .i64 hi2]]);rfl;rfl;exact fun w' _=>hgb w'))<;>(refine go ?_;and_intros<;>(try exact trivial)<;>repeat (first|refine fun (Bk:Nat)=>?_|intro h)))
     all_goals refine ret2b Tryd.func21 Tryd.results21 ?_
     all_goals rfl
   ·rw [decide_eq_false g2] at hgb
    clear hg hr
    refine enterA [(0,.agg #[.int .i64 f,.int .i64 t,.slice adr tab.length cap,.int .i64 lo,.int .i64 hi]),(1,.agg #[.int .i64 f2,.int .i64 t2,.slice adr2 tab2.length cap2,.int .i64 lo2,.int .i64 hi2])] Tryd.func21 Tryd.ntmps21 ?_
    all_goals (refine go ?_;and_intros<;>(try exact trivial)<;>repeat (first|refine fun (Bk:Nat)=>?_|intro h))
    repeat' ((first|(apply G.cV (g:=28) (vs:=[.agg #[.int .i64 f,.int .i64 t,.slice adr tab.length cap,.int .i64 lo,.int .i64 hi]]);rfl;rfl;exact fun w' _=>hra w')|(apply G.cV (g:=28) (vs:=[.agg #[.int .i64 f2,.int .i64 t2,.slice adr2 tab2.length cap2,.int .i64 lo2,.int .i64 hi2]]);rfl;rfl;exact fun w' _=>hrb w')|(apply G.cV (g:=24) (vs:=[.agg #[.int .i64 f,.int .i64 t,.slice adr tab.length cap,.int .i64 lo,.int .i64 hi]]);rfl;rfl;exact fun w' _=>hga w')|(apply G.cV (g:=24) (vs:=[.agg #[.int .i64 f2,.int .i64 t2,.slice adr2 tab2.length cap2,.int .i64 lo2,.int .i64 hi2]]);rfl;rfl;exact fun w' _=>hgb w'))<;>(refine go ?_;and_intros<;>(try exact trivial)<;>repeat (first|refine fun (Bk:Nat)=>?_|intro h)))
    all_goals refine ret2b Tryd.func21 Tryd.results21 ?_
    all_goals rfl
  ·rw [decide_eq_false g1] at hga
   by_cases g2:tab.length=1
   ·rw [decide_eq_true g2] at hra
    rw [decide_eq_false (by omega)] at hrb
    clear hg hr
    refine enterA [(0,.agg #[.int .i64 f,.int .i64 t,.slice adr tab.length cap,.int .i64 lo,.int .i64 hi]),(1,.agg #[.int .i64 f2,.int .i64 t2,.slice adr2 tab2.length cap2,.int .i64 lo2,.int .i64 hi2])] Tryd.func21 Tryd.ntmps21 ?_
    all_goals (refine go ?_;and_intros<;>(try exact trivial)<;>repeat (first|refine fun (Bk:Nat)=>?_|intro h))
    repeat' ((first|(apply G.cV (g:=28) (vs:=[.agg #[.int .i64 f,.int .i64 t,.slice adr tab.length cap,.int .i64 lo,.int .i64 hi]]);rfl;rfl;exact fun w' _=>hra w')|(apply G.cV (g:=28) (vs:=[.agg #[.int .i64 f2,.int .i64 t2,.slice adr2 tab2.length cap2,.int .i64 lo2,.int .i64 hi2]]);rfl;rfl;exact fun w' _=>hrb w')|(apply G.cV (g:=24) (vs:=[.agg #[.int .i64 f,.int .i64 t,.slice adr tab.length cap,.int .i64 lo,.int .i64 hi]]);rfl;rfl;exact fun w' _=>hga w')|(apply G.cV (g:=24) (vs:=[.agg #[.int .i64 f2,.int .i64 t2,.slice adr2 tab2.length cap2,.int .i64 lo2,.int .i64 hi2]]);rfl;rfl;exact fun w' _=>hgb w'))<;>(refine go ?_;and_intros<;>(try exact trivial)<;>repeat (first|refine fun (Bk:Nat)=>?_|intro h)))
    all_goals refine ret2b Tryd.func21 Tryd.results21 ?_
    all_goals rfl
   ·rw [decide_eq_false g2] at hra
    clear hg hr
    refine enterA [(0,.agg #[.int .i64 f,.int .i64 t,.slice adr tab.length cap,.int .i64 lo,.int .i64 hi]),(1,.agg #[.int .i64 f2,.int .i64 t2,.slice adr2 tab2.length cap2,.int .i64 lo2,.int .i64 hi2])] Tryd.func21 Tryd.ntmps21 ?_
    all_goals (refine go ?_;and_intros<;>(try exact trivial)<;>repeat (first|refine fun (Bk:Nat)=>?_|intro h))
    repeat' ((first|(apply G.cV (g:=28) (vs:=[.agg #[.int .i64 f,.int .i64 t,.slice adr tab.length cap,.int .i64 lo,.int .i64 hi]]);rfl;rfl;exact fun w' _=>hra w')|(apply G.cV (g:=28) (vs:=[.agg #[.int .i64 f2,.int .i64 t2,.slice adr2 tab2.length cap2,.int .i64 lo2,.int .i64 hi2]]);rfl;rfl;exact fun w' _=>hrb w')|(apply G.cV (g:=24) (vs:=[.agg #[.int .i64 f,.int .i64 t,.slice adr tab.length cap,.int .i64 lo,.int .i64 hi]]);rfl;rfl;exact fun w' _=>hga w')|(apply G.cV (g:=24) (vs:=[.agg #[.int .i64 f2,.int .i64 t2,.slice adr2 tab2.length cap2,.int .i64 lo2,.int .i64 hi2]]);rfl;rfl;exact fun w' _=>hgb w'))<;>(refine go ?_;and_intros<;>(try exact trivial)<;>repeat (first|refine fun (Bk:Nat)=>?_|intro h)))
    all_goals refine ret2b Tryd.func21 Tryd.results21 ?_
    all_goals rfl
end Go.Proofs.YtcdgibkbbcekhaaDoor
/-
 Contract: run.joined.
-/
namespace Go.Proofs.YtcdgibkbbcekhaaDoor
open Go.RowKit Go.Sl Go.Num
section
variable {C:Ctx}{st:List (Nat×Value)}{M:List Row}{k:List Item}{q q':Md}{all rest:List Oper}{d:Nat}{ty:TypeId}{pos:String}{after:Array Edge}{gd:Option (Nat×Bool)}
theorem G.cBoth {g:FuncId}{f:Operand}{args:List Operand}{vs:List Value}{at_:Array TypeId} (a b:Rn) (hf:evS st f=some (.func (.func g) #[] #[])) (ha:evL st args=some vs) (hs:sideB all st gd d C.N q.ext=some q') [hF:Fun C.P g]
  (hc:∀ w,Sat C.w0 M w→Calls C.P g vs.toArray w (RetB a b w))
  (h:∀ x:Rn,(jblB a b=true→rbare x=jnR a b)→(∀ p,x.adr=some p→C.w0.heap.size≤p.block)→G q' C all ((d,.tuple #[rnA x,.bool (jblB a b)])::st) (slRow C.w0.heap.size x.adr 2 (x.tab.map hoV)::M) rest k) :
  G q C all st M ({ dst:=some d,op:=.call { callee:=.value f,args:=args.toArray,argTypes:=at_ },type:=ty,pos,after,guard:=gd }::rest) k:=by
 obtain ⟨g1,g2,g3⟩:=sideB_ok hs
 refine G.call (X:={ x:Rn // (jblB a b=true→rbare x=jnR a b)∧∀ p,x.adr=some p→C.w0.heap.size≤p.block }) (v:=fun x=>.tuple #[rnA x.1,.bool (jblB a b)]) (Mn:=fun x=>[slRow C.w0.heap.size x.1.adr 2 (x.1.tab.map hoV)]) g1 g2 g3 hf ha (fun w hw=>?_) fun x=>h x.1 x.2.1 x.2.2
 rw [Array.append_empty]
 refine (hc w hw).mono fun e w' ⟨x,h1,h2,h3,h4,h5⟩=>⟨⟨x,h2,fun p hp=>Nat.le_trans hw.size (h4 p hp)⟩,h1,(hw.ext h5).addFact (Nat.le_refl _) h3 fun b hb=>?_⟩
 obtain ⟨h6,p,h7,h8,h9⟩:=hb
 dsimp only at h6 h7
 have hlt:=SlAt.lt h3 h6 p h7
 have:=h4 p h7
 subst h8
 exact ⟨h9,hlt,hw.free (.inr (.inl this)) h9⟩
theorem Sat.tfamTo {w0 w:World}{o l o':List Rn} (hw:Sat w0 M w) (h1:tfam w0.heap.size o∈M) (h2:tfam w0.heap.size l∈M) (hs:∀ r∈o',r∈o∨r∈l):Sat w0 (tfam w0.heap.size o'::M) w:=by
 refine hw.addFact (Nat.le_refl _) (fun r hr=>(hs r hr).elim (hw.fam h1 r) (hw.fam h2 r)) fun b hb=>?_
 obtain ⟨r,hr,h3⟩:=hb
 rcases hs r hr with h|h
 ·have h4:(tfam w0.heap.size o).sup b:=⟨r,h,h3⟩
  have ho:=hw.old _ h1
  exact ⟨(ho.2 b h4).1,(ho.2 b h4).2,fun r' hr'=>hw.noLock h1 (fun _ h=>h) hr' h4⟩
 ·have h4:(tfam w0.heap.size l).sup b:=⟨r,h,h3⟩
  have ho:=hw.old _ h2
  exact ⟨(ho.2 b h4).1,(ho.2 b h4).2,fun r' hr'=>hw.noLock h2 (fun _ h=>h) hr' h4⟩
theorem J.tfamTo {o l:List Rn} (o':List Rn) (h1:tfam C.w0.heap.size o∈M) (h2:tfam C.w0.heap.size l∈M) (hs:∀ r∈o',r∈o∨r∈l) (hk:J C st (tfam C.w0.heap.size o'::M) k):J C st M k:=.mk fun ac w hf hd hw=>hk.go ac w hf hd (Sat.tfamTo hw h1 h2 hs)
end
theorem joinF_take {l:List Rn}{n:Nat} (h:n < l.length):joinL ((l.take (n+1)).map rbare)=putL (joinL ((l.take n).map rbare)) (rbare l[n]):=by
 rw [List.take_add_one,List.getElem?_eq_getElem h,List.map_append,joinL,joinF_app];rfl
theorem ok_bare {r:Rn}:OkR (rbare r) ↔ OkR r:=Iff.rfl
theorem cn_bare:∀ {l:List Rn}{f t:Int},Cn f (l.map rbare) t ↔ Cn f l t
 | [],_,_=>Iff.rfl
 | r::l,f,t=>and_congr Iff.rfl (cn_bare (l:=l))
structure JnAt (l:List Rn) (n:Nat) (o:List Rn):Prop where
 le:n≤l.length
 eq:o.map rbare=joinL ((l.take n).map rbare)
theorem JnAt.step {l:List Rn}{n:Nat}{o o':List Rn} (h:JnAt l n o) (hn:n < l.length) (ho:o'.map rbare=putL (o.map rbare) (rbare l[n])):JnAt l (n+1) o':=⟨hn,by rw [ho,joinF_take hn,h.eq]⟩
theorem JnAt.ok {l:List Rn}{n:Nat}{o:List Rn}{f t:Int} (h:JnAt l n o) (hC:Cn f l t) (hO:∀ r∈l,OkR r) (hn:n < l.length):(∀ r∈o,OkR r)∧Cn f o l[n].from_:=by
 rw [← List.take_append_drop n l] at hC
 obtain ⟨m,h1,h2⟩:=Cn.app.1 hC
 rw [List.drop_eq_getElem_cons hn] at h2
 obtain ⟨q1,q2,_⟩:=joinL_ok (cn_bare.2 h1) (fun r hr=>by obtain ⟨r',h3,rfl⟩:=List.mem_map.1 hr;exact ok_bare.2 (hO r' (List.mem_of_mem_take h3)))
 rw [← h.eq] at q1 q2
 exact ⟨fun r hr=>ok_bare.1 (q2 _ (List.mem_map_of_mem hr)),by rw [h2.1];exact cn_bare.1 q1⟩
theorem JnAt.len {l:List Rn}{n:Nat}{o:List Rn} (h:JnAt l n o):o.length≤n:=by
 have:=congrArg List.length h.eq
 rw [List.length_map] at this
 have:=joinL_len ((l.take n).map rbare)
 rw [List.length_map,List.length_take] at this
 omega
theorem putL_nilB {x:Rn}:[x].map rbare=putL (([]:List Rn).map rbare) (rbare x):=rfl
theorem putL_addB {o:List Rn}{y x:Rn} (h:jblB y x=false):(o++[y]++[x]).map rbare=putL ((o++[y]).map rbare) (rbare x):=by
 rw [putL_bare,putL_snoc,h];rfl
theorem putL_jnB {o:List Rn}{y x z:Rn} (h:jblB y x=true) (hz:rbare z=jnR y x):(o++[z]).map rbare=putL ((o++[y]).map rbare) (rbare x):=by
 rw [putL_bare,putL_snoc,h,List.map_append,if_pos rfl,List.map_append,List.map_cons,hz];rfl
set_option maxHeartbeats 4000000 in
theorem joined_holds (a:Option Addr) (l:List Rn) (c:Nat) (f t:Int) (w:World) (hA:RunsAt w a l) (hC:Cn f l t) (hO:∀ r∈l,OkR r) (hl:l.length≤1000000) :
  Calls Tryd.prog 31 #[.slice a l.length c,.func (.func 21) #[] #[]] w (RetU l (fun L=>L.map rbare=joinL (l.map rbare)) (fun a' n c'=>.slice a' n c') w):=by
 refine enterA [(0,.slice a l.length c),(1,.func (.func 21) #[] #[])] Tryd.func31 Tryd.ntmps31 ?_
 all_goals (refine go ?_;and_intros<;>(try exact trivial)<;>repeat (first|refine fun (Bk:Nat)=>?_|intro h))
 apply J.nilOwn (E:=50) (size:=5)
 refine J.tfamOld hA ?_
 apply J.fam0 Rn.adr 2 (fun r=>r.tab.map hoV)
 refine J.loop (c:=_) ((0,none,0,[]):Nat×Option Addr×Nat×List Rn) (fun s=>l.length-s.1) (fun s=>[(1,.func (.func 21) #[] #[]),(5,.slice s.2.1 s.2.2.2.length s.2.2.1),(11,.slice a l.length c),(12,.int .i64 l.length),(13,.int .i64 s.1)]) (fun s=>[tfam w.heap.size s.2.2.2,tfam w.heap.size l,.own 0 (.slice s.2.1 s.2.2.2.length s.2.2.1) 50 5 s.2.2.2.length (flat rnV s.2.2.2)]) (fun s=>JnAt l s.1 s.2.2.2∧srcR w.heap.size l s.2.2.2) ?_ sbT sbL ?_
 ·exact ⟨⟨Nat.zero_le _,rfl⟩,srcR.nil⟩
 intro ⟨n,au,cu,o⟩ ⟨h1,h2⟩ ih
 dsimp only at h1 h2 ⊢
 have hlen:=h1.len
 by_cases hn:n < l.length
 ·obtain ⟨ba,oa,rfl,hra⟩:=SlAt.all hA.1 (by omega)
  have hrn:=hra n hn
  have hmem:=List.getElem_mem hn
  obtain ⟨ho1,ho2⟩:=h1.ok hC hO hn
  have hxo:=hO _ hmem
  have ih1:=fun (o':List Rn) a' c' (q:o'.map rbare=putL (o.map rbare) (rbare l[n])) (q2:srcR w.heap.size l o')=>ih (n+1,a',c',o') ⟨h1.step hn q,q2⟩ (by dsimp only;omega)
  dsimp only at ih1
  have htb:=hA.2 _ hmem
  clear ih hra h1 hA hC hO
  generalize l[n]=x at *
  rcases nil_or_snoc o with rfl|⟨o,y,rfl⟩
  ·have ih2:=fun a' c'=>ih1 [x] a' c' putL_nilB (srcR.self fun r hr=>by rw [List.mem_singleton.1 hr];exact hmem)
   clear ih1
   have hap:flat rnV ([]:List Rn)++rnV x=flat rnV [x]:=(flat_append rnV [] [x]).symm.trans rfl
   obtain ⟨xf,xt,tab,adr,cap,lo,hi⟩:=x
   dsimp only [rnV,List.length_nil] at *
   all_goals (refine go ?_;and_intros<;>(try exact trivial)<;>repeat (first|refine fun (Bk:Nat)=>?_|intro h))
   repeat' ((first|(apply G.sliceL;rfl;rfl;rfl;rfl;rfl;rfl;rfl;rfl;intro Bs)|(apply G.apV;rfl;rfl;rfl;(repeat (first|exact RAt.head|apply RAt.tail));exact SrcV.blk (by exact mm) rfl rfl;exact hap;omega;omega;intro a2 c2))<;>(refine go ?_;and_intros<;>(try exact trivial)<;>repeat (first|refine fun (Bk:Nat)=>?_|intro h)))
   refine J.tfamTo (o:=[]) (l:=l) [⟨xf,xt,tab,adr,cap,lo,hi⟩] mm mm (fun r hr=>.inr (by rw [List.mem_singleton.1 hr];exact hmem)) ?_
   exact J.fin (ih2 a2 c2)
  ·have hym:y∈o++[y]:=by simp
   have hyo:=ho1 y hym
   have hy:(o++[y])[o.length]?=some y:=by simp
   have hne:(o++[y]).length=o.length+1:=by simp
   rw [hne] at hlen
   rw [hne]
   refine J.ownOpen RAt.au (by omega) ?_
   intro g cap hgc hcm hv
   rw [hv]
   clear hv
   have hbo:=fun w' (hb:Below w.heap.size w w') (hyt:TabAt w' y)=>both_holds y x w' hyt (SlAt.below htb hb) hyo hxo
   have hz:((o.length+1:Nat):Int)-1=(o.length:Int):=by omega
   obtain ⟨xf,xt,tab,adr,cx,lo,hi⟩:=x
   have hsr:=fun z (hz:∀ p,z.adr=some p→w.heap.size≤p.block)=>(h2.sub fun r hr=>List.mem_append_left [y] hr).app (srcR.one (L0:=l) (r:=z) (.inr (.inl hz)))
   have hsx:=h2.app (srcR.self (n:=w.heap.size) (L0:=l) (L:=[(⟨xf,xt,tab,adr,cx,lo,hi⟩:Rn)]) fun r hr=>by rw [List.mem_singleton.1 hr];exact hmem)
   cases hj:jblB y ⟨xf,xt,tab,adr,cx,lo,hi⟩
   ·have ih2:=fun a' c'=>ih1 (o++[y]++[⟨xf,xt,tab,adr,cx,lo,hi⟩]) a' c' (putL_addB hj) hsx
    clear ih1 hsr hsx
    have hap:flat rnV (o++[y])++rnV ⟨xf,xt,tab,adr,cx,lo,hi⟩=flat rnV (o++[y]++[⟨xf,xt,tab,adr,cx,lo,hi⟩]):=flat1 rnV _ _
    have hl2:(o++[y]++[(⟨xf,xt,tab,adr,cx,lo,hi⟩:Rn)]).length=o.length+1+1:=by simp
    rw [hl2] at ih2
    dsimp only [rnV,rnA] at *
    all_goals (refine goR ?_;and_intros<;>(try exact trivial)<;>repeat (first|refine fun (Bk:Nat)=>?_|intro h))
    repeat' ((first|(apply J.regA (.q 0 <| .q 1 <| .q 2 <| .q 3 <| .q 4 <| .q 5 <| .q 6 <| .f 7 (.q 8 <| .q 9 <| .q 10 <| .e 11 <| .r 12 <| .q 13 <| .nil) 11 (.e 7 <| .q 8 <| .q 9 <| .q 10 <| .r 12 <| .q 13 <| .nil));exact Tryd.mixed;decide +kernel)|(apply G.fork)|(apply G.ix (i:=o.length);rfl;rfl;exact hz;omega;rfl)|(apply G.ld;rfl;exact LdV.flat rnV_len mm hy rfl;rfl)|(apply G.cBoth (g:=21) y ⟨xf,xt,tab,adr,cx,lo,hi⟩;rfl;rfl;rfl;exact fun w' hw'=>hbo w' hw'.below (famTab (N:=w.heap.size) hw' hym);intro z hz1 hz2;rw [hj];dsimp only [rnA])|(refine G.blkCut (l':=o++[y]) (o.length+1) rnV_len RAt.au hgc hcm (by omega) (List.take_of_length_le (by omega)) ?_)|(apply G.sliceL;rfl;rfl;rfl;rfl;rfl;rfl;rfl;rfl;intro Bs)|(apply G.apV;rfl;rfl;rfl;(repeat (first|exact RAt.head|apply RAt.tail));exact SrcV.blk (by exact mm) rfl rfl;exact hap;omega;omega;intro a2 c2)|(apply J.regQ;exact Tryd.mixed;decide +kernel)|(apply J.regL';exact Tryd.mixed;decide +kernel))<;>(refine goR ?_;and_intros<;>(try exact trivial)<;>repeat (first|refine fun (Bk:Nat)=>?_|intro h)))
    all_goals
     refine J.tfamTo (o:=o++[y]) (l:=l) (o++[y]++[⟨xf,xt,tab,adr,cx,lo,hi⟩]) mm mm (fun r hr=>(List.mem_append.1 hr).imp id fun hr=>by rw [List.mem_singleton.1 hr];exact hmem) ?_
     exact J.fin (ih2 a2 c2)
   ·have ih2:=fun z a' c' hz0 hz1=>ih1 (o++[z]) a' c' (putL_jnB hj hz0) (hsr z hz1)
    clear ih1 hsr hsx
    have hl2:∀ z:Rn,(o++[z]).length=o.length+1:=fun z=>by simp
    simp only [hl2] at ih2
    have r1:=fun z:Rn=>flat_set rnV_len (l:=o++[y]) (i:=o.length) (by omega) z
    have e1:∀ z:Rn,(o++[y]).set o.length z=o++[z]:=fun z=>by rw [List.set_append_right _ _ (Nat.le_refl _),Nat.sub_self];rfl
    simp only [e1] at r1
    rw [← Nat.zero_add (o.length*5)] at r1
    have l1:0+o.length*5+5≤(flat rnV (o++[y])).length:=by rw [flat_len rnV_len,hne];omega
    dsimp only [rnV,rnA] at *
    all_goals (refine goR ?_;and_intros<;>(try exact trivial)<;>repeat (first|refine fun (Bk:Nat)=>?_|intro h))
    repeat' ((first|(apply J.regA (.q 0 <| .q 1 <| .q 2 <| .q 3 <| .q 4 <| .q 5 <| .q 6 <| .f 7 (.q 8 <| .q 9 <| .q 10 <| .e 11 <| .r 12 <| .q 13 <| .nil) 11 (.e 7 <| .q 8 <| .q 9 <| .q 10 <| .r 12 <| .q 13 <| .nil));exact Tryd.mixed;decide +kernel)|(apply G.fork)|(apply G.ix (i:=o.length);rfl;rfl;exact hz;omega;rfl)|(apply G.ld;rfl;exact LdV.flat rnV_len mm hy rfl;rfl)|(apply G.cBoth (g:=21) y ⟨xf,xt,tab,adr,cx,lo,hi⟩;rfl;rfl;rfl;exact fun w' hw'=>hbo w' hw'.below (famTab (N:=w.heap.size) hw' hym);rintro ⟨zf,zt,ztab,zadr,zc,zlo,zhi⟩ hz1 hz2;rw [hj];dsimp only [rnA])|(apply G.sA (vs:=rnV ⟨zf,zt,ztab,zadr,zc,zlo,zhi⟩);rfl;rfl;rfl;(repeat (first|exact RAt.head|apply RAt.tail));rfl;rfl;exact l1;exact r1 _)|(apply J.regQ;exact Tryd.mixed;decide +kernel)|(apply J.regL';exact Tryd.mixed;decide +kernel))<;>(refine goR ?_;and_intros<;>(try exact trivial)<;>repeat (first|refine fun (Bk:Nat)=>?_|intro h)))
    all_goals
     refine J.blkCut (l':=o++[⟨zf,zt,ztab,zadr,zc,zlo,zhi⟩]) (o.length+1) rnV_len RAt.au hgc hcm (by rw [hl2];exact Nat.le_refl _) (List.take_of_length_le (by rw [hl2];exact Nat.le_refl _)) ?_
     refine J.famSub (o:=o++[y]) (o':=o) mm (fun r hr=>List.mem_append_left _ hr) ?_
     refine J.famAdd (r:=(⟨zf,zt,ztab,zadr,zc,zlo,zhi⟩:Rn)) (o:=o) mm mm ?_
     exact J.fin (ih2 ⟨zf,zt,ztab,zadr,zc,zlo,zhi⟩ _ _ (hz1 hj) hz2)
 ·obtain rfl:n=l.length:=by have:=h1.le;omega
  have h3:=h1.eq
  rw [List.take_length] at h3
  clear ih
  all_goals (refine go ?_;and_intros<;>(try exact trivial)<;>repeat (first|refine fun (Bk:Nat)=>?_|intro h))
  refine ret1 Tryd.func31 Tryd.results31 ?_
  exact fun w' hw'=>Sat.retU _ hw' h3 rfl h2
end Go.Proofs.YtcdgibkbbcekhaaDoor
/-
 Contract: run.Join.
-/
namespace Go.Sl
open Go.RowKit Go.Proofs.YtcdgibkbbcekhaaDoor
variable {C:Ctx}{st:List (Nat×Value)}{M:List Row}{k:List Item}
theorem J.ownSlR {A:Type}{f:A→List Value}{base n c E sz:Nat}{a:Option Addr}{l:List A}{M':List Row} (hf:∀ x,(f x).length=sz) (hp:Pick (.own base (.slice a n c) E sz n (flat f l)) M M') (hn:l.length=n) (h:J C st (slRow C.w0.heap.size a sz (l.map f)::M') k):J C st M k:=.mk fun ac w hfit hd hw=>by
 have hw2:=hw.perm hp.perm
 have h1:=SlAt.ofOwn hf (hw2.hold _ (.head _)) hn
 refine h.go ac w hfit hd ((hw2.forget (List.sublist_cons_self _ _)).addSl h1 fun p hp2 r hr hl=>?_)
 subst hp2
 exact ((List.pairwise_cons.1 hw2.apart).1 r hr p.block).1 rfl (Row.lock_sup hl)
theorem G.ownNz {all rest:List Oper}{base n c E sz:Nat}{a:Option Addr}{xs:List Value} (hm:Row.own base (.slice a n c) E sz n xs∈M) (h:(0 < n→∃ b off,a=some ⟨b,off,none⟩)→G .seq C all st M rest k):G .seq C all st M rest k :=
 ⟨fun ac w hf hd hw=>by
  refine (h fun h0=>?_).go ac w hf hd hw
  obtain ⟨hl,hv⟩:=hw.hold _ hm
  rcases hv with ⟨hv,h1⟩|⟨g,cap,cur,hv,_⟩
  ·omega
  ·cases hv;exact ⟨g,0,rfl⟩⟩
theorem SrcV.own {A:Type}{f:A→List Value}{base sz n c E:Nat}{l:List A}{a:Option Addr} (hf:∀ x,(f x).length=sz) (h1:∀ x,(f x).all (·.oneCell')=true) (hn:l.length=n) (h0:0 < n→∃ b off,a=some ⟨b,off,none⟩) (hm:Row.own base (.slice a n c) E sz n (Sl.flat f l)∈M):SrcV C M a n sz (Sl.flat f l) where
 len:=by rw [flat_len hf,hn]
 one:=by
  refine List.all_eq_true.2 fun v hv=>?_
  obtain ⟨cs,hcs,hv⟩:=List.mem_flatten.1 hv
  obtain ⟨x,_,rfl⟩:=List.mem_map.1 hcs
  exact List.all_eq_true.1 (h1 x) v hv
 nil:=fun e=>by
  rcases Nat.eq_zero_or_pos n with h|h
  ·exact h
  ·obtain ⟨b,off,h2⟩:=h0 h
   rw [h2] at e;cases e
 go:=fun ad ha w hw j u hj=>by
  subst ha
  obtain ⟨h3,h4,h5⟩:=flat_back hf hj
  obtain ⟨b,off,h6,h7⟩:=(SlAt.ofOwn hf (hw.hold _ hm) hn) (by rw [List.length_map];exact Nat.lt_of_le_of_lt (Nat.zero_le _) h4)
  cases h6
  have:=(h7 (j / sz) _ (by rw [List.getElem?_map,List.getElem?_eq_getElem h4];rfl)).2 (j % sz) u h5
  rw [addr_add,addO_eq,← this]
  congr 2
  have:=Nat.div_add_mod j sz
  rw [Nat.mul_comm] at this
  omega
end Go.Sl
namespace Go.Proofs.YtcdgibkbbcekhaaDoor
open Go.RowKit Go.Sl Go.Num
theorem RetU.nil {L0:List Rn}{P:List Rn→Prop} (v:Option Addr→Nat→Nat→Value) {w w':World} (hb:Below w.heap.size w w') (hP:P []):RetU L0 P v w (.returned (v none 0 0)) w':=⟨[],none,0,hP,rfl,⟨fun h=>absurd h (Nat.lt_irrefl _),fun r hr=>by cases hr⟩,⟨fun p hp=>(by cases hp),Nat.le_refl _⟩,srcR.nil,hb⟩
theorem headD_at {l:List Rn} (h:0 < l.length):headD' l=l[0]:=by cases l with
 | nil=>exact absurd h (Nat.lt_irrefl _)
 | cons r t=>rfl
theorem lastD_at {l:List Rn} (h:0 < l.length):lastD l=l[l.length-1]:=by
 rw [lastD,List.getLast?_eq_getElem?,List.getElem?_eq_getElem (by omega)];rfl
set_option maxHeartbeats 4000000 in
theorem vJoin_holds (a:Option Addr) (la:List Rn) (ca:Nat) (b:Option Addr) (lb:List Rn) (cb:Nat) (w:World) (hA:RunsAt w a la) (hB:RunsAt w b lb) (hta:∀ r∈la,r.tab.length≤64) (htb:∀ r∈lb,r.tab.length≤64) (hla:la.length≤400) (hlb:lb.length≤400) :
  Calls Tryd.prog 17 #[.slice a la.length ca,.slice b lb.length cb] w (RetU [] (fun L=>L.map rbare=(joinE la lb).1.map rbare) (fun a' n c'=>.tuple #[.slice a' n c',.int .i64 (joinE la lb).2]) w):=by
 have hca:=fun w' (hb:Below w.heap.size w w')=>vRuns_holds a la ca w' (hA.below hb) hta
 have hcb:=fun w' (hb:Below w.heap.size w w')=>vRuns_holds b lb cb w' (hB.below hb) htb
 refine enterA [(0,.slice a la.length ca),(1,.slice b lb.length cb)] Tryd.func17 Tryd.ntmps17 ?_
 all_goals (refine go ?_;and_intros<;>(try exact trivial)<;>repeat (first|refine fun (Bk:Nat)=>?_|intro h))
 repeat' ((first|(apply G.sliceL;rfl;rfl;rfl;rfl;rfl;rfl;rfl;rfl;intro Bs))<;>(refine go ?_;and_intros<;>(try exact trivial)<;>repeat (first|refine fun (Bk:Nat)=>?_|intro h)))
 refine J.loop (c:=_) (0:Nat) (fun s=>2-s) (fun s=>[(0,.slice a la.length ca),(1,.slice b lb.length cb),(12,.slice (some ⟨Bs,0,none⟩) 2 2),(13,.int .i64 2),(14,.int .i64 s)]) (fun s=>[.blk Bs 27 [.slice a la.length ca,.slice b lb.length cb] 2]) (fun s=>s≤2∧(1≤s→runsErr la=0)∧(2≤s→runsErr lb=0)) ?_ sbT sbL ?_
 ·exact ⟨Nat.zero_le _,fun h=>absurd h (by decide),fun h=>absurd h (by decide)⟩
 intro n ⟨h1,h2,h3⟩ ih
 by_cases hn:n < 2
 ·rcases n with _|_|n
  ·by_cases hE:runsErr la=0
   ·rw [hE] at hca
    all_goals (refine go ?_;and_intros<;>(try exact trivial)<;>repeat (first|refine fun (Bk:Nat)=>?_|intro h))
    repeat' ((first|(apply G.ix (i:=0);rfl;rfl;exact rfl;omega;rfl)|(refine G.cvb hca ?_))<;>(refine go ?_;and_intros<;>(try exact trivial)<;>repeat (first|refine fun (Bk:Nat)=>?_|intro h)))
    exact J.fin (ih 1 ⟨by decide,fun _=>hE,fun h=>absurd h (by decide)⟩ (by decide))
   ·have hJ:joinE la lb=([],runsErr la):=by rw [joinE,if_pos hE]
    clear ih
    rw [hJ]
    generalize runsErr la=E at *
    all_goals (refine go ?_;and_intros<;>(try exact trivial)<;>repeat (first|refine fun (Bk:Nat)=>?_|intro h))
    repeat' ((first|(apply G.ix (i:=0);rfl;rfl;exact rfl;omega;rfl)|(refine G.cvb hca ?_))<;>(refine go ?_;and_intros<;>(try exact trivial)<;>repeat (first|refine fun (Bk:Nat)=>?_|intro h)))
    refine ret2 Tryd.func17 Tryd.results17 ?_
    exact fun w' hw'=>RetU.nil (fun a' n c'=>.tuple #[.slice a' n c',.int .i64 E]) hw'.below rfl
  ·by_cases hE:runsErr lb=0
   ·rw [hE] at hcb
    all_goals (refine go ?_;and_intros<;>(try exact trivial)<;>repeat (first|refine fun (Bk:Nat)=>?_|intro h))
    repeat' ((first|(apply G.ix (i:=1);rfl;rfl;exact rfl;omega;rfl)|(refine G.cvb hcb ?_))<;>(refine go ?_;and_intros<;>(try exact trivial)<;>repeat (first|refine fun (Bk:Nat)=>?_|intro h)))
    exact J.fin (ih 2 ⟨by decide,fun _=>h2 (by decide),fun _=>hE⟩ (by decide))
   ·have hJ:joinE la lb=([],runsErr lb):=by rw [joinE,if_neg (by rw [h2 (by decide)];decide),if_pos hE]
    clear ih
    rw [hJ]
    generalize runsErr lb=E at *
    all_goals (refine go ?_;and_intros<;>(try exact trivial)<;>repeat (first|refine fun (Bk:Nat)=>?_|intro h))
    repeat' ((first|(apply G.ix (i:=1);rfl;rfl;exact rfl;omega;rfl)|(refine G.cvb hcb ?_))<;>(refine go ?_;and_intros<;>(try exact trivial)<;>repeat (first|refine fun (Bk:Nat)=>?_|intro h)))
    refine ret2 Tryd.func17 Tryd.results17 ?_
    exact fun w' hw'=>RetU.nil (fun a' n c'=>.tuple #[.slice a' n c',.int .i64 E]) hw'.below rfl
  ·omega
 obtain rfl:n=2:=by omega
 have hEa:=h2 (by decide)
 have hEb:=h3 (by decide)
 clear ih h1 h2 h3 hn hca hcb
 have cpa:=fun M w' (hw':Sat w M w')=>copied_holds a la ca w w' M hw' hA (by omega) fun r hr=>Nat.le_trans (hta r hr) (by decide)
 have cpb:=fun M w' (hw':Sat w M w')=>copied_holds b lb cb w w' M hw' hB (by omega) fun r hr=>Nat.le_trans (htb r hr) (by decide)
 obtain ⟨oa',_,ca3⟩:=runs_ok hEa
 obtain ⟨ob',_,cb3⟩:=runs_ok hEb
 all_goals (refine go ?_;and_intros<;>(try exact trivial)<;>repeat (first|refine fun (Bk:Nat)=>?_|intro h))
 repeat' ((first|(refine G.cR (g:=39) (vs:=[.slice a la.length ca]) (v:=fun x:{ x:List Rn×Option Addr×Nat // x.1.map rbare=la.map rbare∧newT w.heap.size x.1 }=>.slice x.1.2.1 la.length x.1.2.2) (Mn:=fun x=>[.own 0 (.slice x.1.2.1 la.length x.1.2.2) 50 5 la.length (flat rnV x.1.1),tfam w.heap.size x.1.1]) rfl rfl (cpa _) ?_;rintro ⟨⟨LA,a1,c1⟩,hA1,hA2⟩;dsimp only at hA1 hA2 ⊢)|(refine G.cR (g:=39) (vs:=[.slice b lb.length cb]) (v:=fun x:{ x:List Rn×Option Addr×Nat // x.1.map rbare=lb.map rbare∧newT w.heap.size x.1 }=>.slice x.1.2.1 lb.length x.1.2.2) (Mn:=fun x=>[.own 0 (.slice x.1.2.1 lb.length x.1.2.2) 50 5 lb.length (flat rnV x.1.1),tfam w.heap.size x.1.1]) rfl rfl (cpb _) ?_;rintro ⟨⟨LB,b1,d1⟩,hB1,hB2⟩;dsimp only at hB1 hB2 ⊢))<;>(refine go ?_;and_intros<;>(try exact trivial)<;>repeat (first|refine fun (Bk:Nat)=>?_|intro h)))
 dsimp only [List.cons_append,List.nil_append]
 refine G.ownNz (a:=b1) (n:=lb.length) (c:=d1) mm ?_
 intro hnz
 have lA:LA.length=la.length:=by rw [← List.length_map (f:=rbare),hA1,List.length_map]
 have lB:LB.length=lb.length:=by rw [← List.length_map (f:=rbare),hB1,List.length_map]
 have hap:flat rnV LA++flat rnV LB=flat rnV (LA++LB):=(flat_append ..).symm
 have lAB:(LA++LB).length=la.length+lb.length:=by rw [List.length_append,lA,lB]
 apply G.apV;rfl;rfl;rfl;(repeat (first|exact RAt.head|apply RAt.tail));exact SrcV.own rnV_len rnV_one lB hnz (by exact mm);exact hap;omega;omega;intro a2 c2
 all_goals (refine goG ?_;and_intros<;>(try exact trivial)<;>repeat (first|refine fun (Bk:Nat)=>?_|intro h))
 repeat' ((first|fail)<;>(refine goG ?_;and_intros<;>(try exact trivial)<;>repeat (first|refine fun (Bk:Nat)=>?_|intro h)))
 refine J.tfamTo (o:=LA) (l:=LB) (LA++LB) mm mm (fun r hr=>List.mem_append.1 hr) ?_
 refine J.ownSlR (a:=a2) (c:=c2) (n:=la.length+lb.length) (l:=LA++LB) rnV_len (by (repeat (first|exact Pick.head|apply Pick.tail))) lAB ?_
 have hall:(LA++LB).map rbare=(la++lb).map rbare:=by rw [List.map_append,hA1,hB1,List.map_append]
 have hjn:(joinL ((LA++LB).map rbare)).length≤800:=by
  have:=joinL_len ((LA++LB).map rbare)
  rw [List.length_map,lAB] at this;omega
 have hnew:srcR w.heap.size [] (LA++LB):=(hA2.app hB2).src
 have hCA:∀ f t,Cn f la t→Cn f LA t:=fun f t h=>cn_bare.1 (by rw [hA1];exact cn_bare.2 h)
 have hCB:∀ f t,Cn f lb t→Cn f LB t:=fun f t h=>cn_bare.1 (by rw [hB1];exact cn_bare.2 h)
 have hOk:∀ r∈LA++LB,OkR r:=fun r hr=>by
  have h1:=List.mem_map_of_mem (f:=rbare) hr
  rw [hall] at h1
  obtain ⟨r',h2,h3⟩:=List.mem_map.1 h1
  exact ok_bare.1 (h3 ▸ ok_bare.2 ((List.mem_append.1 h2).elim (oa' r') (ob' r')))
 clear hta htb cpa cpb hnz hap hA2 hB2
 have hjd:=fun f t hC w' hR=>joined_holds a2 (LA++LB) c2 f t w' hR hC hOk (by omega)
 rw [lAB] at hjd
 change J _ _ (slRow w.heap.size a2 5 _::tfam w.heap.size (LA++LB)::_) _
 have hbig:¬ 2000 < (joinL (la++lb)).length:=by
  have:=joinL_len (la++lb)
  rw [List.length_append] at this;omega
 have hP:∀ L:List Rn,L.map rbare=joinL ((LA++LB).map rbare)→L.map rbare=(joinL (la++lb)).map rbare:=fun L h=>by rw [h,hall,joinL_bare]
 by_cases h0a:la.length=0
 ·have hJ:joinE la lb=(joinL (la++lb),0):=by
   rw [joinE,if_neg (by rw [hEa];decide),if_neg (by rw [hEb];decide),if_neg (fun h=>h.1 h0a),if_neg (fun h=>h.1 h0a),if_neg hbig]
  obtain ⟨f,t,hC⟩:∃ f t,Cn f (LA++LB) t:=by
   obtain rfl:=List.length_eq_zero_iff.1 (lA.trans h0a)
   by_cases h0b:lb=[]
   ·subst h0b
    obtain rfl:=List.length_eq_zero_iff.1 lB
    exact ⟨0,0,rfl⟩
   ·exact ⟨_,_,hCB _ _ (cb3 h0b).1⟩
  rw [hJ]
  all_goals (refine go ?_;and_intros<;>(try exact trivial)<;>repeat (first|refine fun (Bk:Nat)=>?_|intro h))
  repeat' ((first|(refine G.cU (g:=31) (fun a' n c'=>.slice a' n c') (fun L=>L.map rbare=joinL ((LA++LB).map rbare)) (LA++LB) (.inr mm) rfl rfl (fun w' hw'=>hjd f t hC w' (RunsAt.of (N:=w.heap.size) hw')) ?_;intro L a3 c3 hL ⟨hL1,hL2⟩ hL3;have hLl:L.length≤800:=by rw [← List.length_map (f:=rbare),hL];exact hjn)|fail)<;>(refine go ?_;and_intros<;>(try exact trivial)<;>repeat (first|refine fun (Bk:Nat)=>?_|intro h)))
  refine ret2 Tryd.func17 Tryd.results17 ?_
  exact fun w' hw'=>Sat.retS (fun a' n c'=>.tuple #[.slice a' n c',.int .i64 0]) hw' (hP L hL) rfl hL2 (hL3.comp hnew)
 by_cases h0b:lb.length=0
 ·have hJ:joinE la lb=(joinL (la++lb),0):=by
   rw [joinE,if_neg (by rw [hEa];decide),if_neg (by rw [hEb];decide),if_neg (fun h=>h.2.1 h0b),if_neg (fun h=>h.2.1 h0b),if_neg hbig]
  obtain ⟨f,t,hC⟩:∃ f t,Cn f (LA++LB) t:=by
   obtain rfl:=List.length_eq_zero_iff.1 (lB.trans h0b)
   rw [List.append_nil]
   exact ⟨_,_,hCA _ _ (ca3 (fun e=>h0a (by rw [e];rfl))).1⟩
  rw [hJ]
  all_goals (refine go ?_;and_intros<;>(try exact trivial)<;>repeat (first|refine fun (Bk:Nat)=>?_|intro h))
  repeat' ((first|(refine G.cU (g:=31) (fun a' n c'=>.slice a' n c') (fun L=>L.map rbare=joinL ((LA++LB).map rbare)) (LA++LB) (.inr mm) rfl rfl (fun w' hw'=>hjd f t hC w' (RunsAt.of (N:=w.heap.size) hw')) ?_;intro L a3 c3 hL ⟨hL1,hL2⟩ hL3;have hLl:L.length≤800:=by rw [← List.length_map (f:=rbare),hL];exact hjn)|fail)<;>(refine go ?_;and_intros<;>(try exact trivial)<;>repeat (first|refine fun (Bk:Nat)=>?_|intro h)))
  refine ret2 Tryd.func17 Tryd.results17 ?_
  exact fun w' hw'=>Sat.retS (fun a' n c'=>.tuple #[.slice a' n c',.int .i64 0]) hw' (hP L hL) rfl hL2 (hL3.comp hnew)
 obtain ⟨ba,oa,rfl,hra⟩:=SlAt.all hA.1 (by omega)
 obtain ⟨bb,ob,rfl,hrb⟩:=SlAt.all hB.1 (by omega)
 have ra0:=hra 0 (by omega)
 have ra1:=hra (la.length-1) (by omega)
 have rb0:=hrb 0 (by omega)
 have rb1:=hrb (lb.length-1) (by omega)
 have hza:(la.length:Int)-1=((la.length-1:Nat):Int):=by omega
 have hzb:(lb.length:Int)-1=((lb.length-1:Nat):Int):=by omega
 have g1:=ca3 (fun e=>h0a (by rw [e];rfl))
 have g2:=cb3 (fun e=>h0b (by rw [e];rfl))
 have i1:=(oa' _ (List.getElem_mem (l:=la) (n:=0) (by omega))).rng
 have i2:=(oa' _ (List.getElem_mem (l:=la) (n:=la.length-1) (by omega))).rng
 have i3:=(ob' _ (List.getElem_mem (l:=lb) (n:=0) (by omega))).rng
 have i4:=(ob' _ (List.getElem_mem (l:=lb) (n:=lb.length-1) (by omega))).rng
 have hJ0:joinE la lb=if (lastD la).to_≠(headD' lb).from_ then ([],1) else if 40000 < (lastD lb).to_-(headD' la).from_ then ([],2) else (joinL (la++lb),0):=by
  rw [joinE,if_neg (by rw [hEa];decide),if_neg (by rw [hEb];decide),if_neg hbig]
  by_cases h1:(lastD la).to_≠(headD' lb).from_
  ·rw [if_pos ⟨h0a,h0b,h1⟩,if_pos h1]
  ·rw [if_neg (fun h=>h1 h.2.2),if_neg h1]
   by_cases h2:40000 < (lastD lb).to_-(headD' la).from_
   ·rw [if_pos ⟨h0a,h0b,h2⟩,if_pos h2]
   ·rw [if_neg (fun h=>h2 h.2.2),if_neg h2]
 rw [lastD_at (by omega),headD_at (by omega),lastD_at (l:=lb) (by omega),headD_at (l:=la) (by omega)] at hJ0
 rw [lastD_at (by omega),headD_at (by omega)] at g1 g2
 clear hra hrb ca3 cb3 hA hB hEa hEb hbig
 generalize la[0]=x1 at *
 generalize la[la.length-1]=x2 at *
 generalize lb[0]=x3 at *
 generalize lb[lb.length-1]=x4 at *
 obtain ⟨f1,t1,tb1,ad1,cp1,lo1,hi1⟩:=x1
 obtain ⟨f2,t2,tb2,ad2,cp2,lo2,hi2⟩:=x2
 obtain ⟨f3,t3,tb3,ad3,cp3,lo3,hi3⟩:=x3
 obtain ⟨f4,t4,tb4,ad4,cp4,lo4,hi4⟩:=x4
 dsimp only [rnV] at *
 by_cases h1:t2≠f3
 ·rw [if_pos h1] at hJ0
  rw [hJ0]
  all_goals (refine go ?_;and_intros<;>(try exact trivial)<;>repeat (first|refine fun (Bk:Nat)=>?_|intro h))
  repeat' ((first|(apply G.ix (i:=la.length-1);rfl;rfl;exact hza;omega;rfl)|(apply G.ix (i:=lb.length-1);rfl;rfl;exact hzb;omega;rfl)|(apply G.ix (i:=0);rfl;rfl;exact rfl;omega;rfl))<;>(refine go ?_;and_intros<;>(try exact trivial)<;>repeat (first|refine fun (Bk:Nat)=>?_|intro h)))
  refine ret2 Tryd.func17 Tryd.results17 ?_
  exact fun w' hw'=>RetU.nil (fun a' n c'=>.tuple #[.slice a' n c',.int .i64 1]) hw'.below rfl
 rw [if_neg h1] at hJ0
 rw [Decidable.not_not] at h1
 by_cases h2:40000 < t4-f1
 ·rw [if_pos h2] at hJ0
  rw [hJ0]
  all_goals (refine go ?_;and_intros<;>(try exact trivial)<;>repeat (first|refine fun (Bk:Nat)=>?_|intro h))
  repeat' ((first|(apply G.ix (i:=la.length-1);rfl;rfl;exact hza;omega;rfl)|(apply G.ix (i:=lb.length-1);rfl;rfl;exact hzb;omega;rfl)|(apply G.ix (i:=0);rfl;rfl;exact rfl;omega;rfl))<;>(refine go ?_;and_intros<;>(try exact trivial)<;>repeat (first|refine fun (Bk:Nat)=>?_|intro h)))
  refine ret2 Tryd.func17 Tryd.results17 ?_
  exact fun w' hw'=>RetU.nil (fun a' n c'=>.tuple #[.slice a' n c',.int .i64 2]) hw'.below rfl
 rw [if_neg h2] at hJ0
 rw [hJ0]
 obtain ⟨f,t,hC⟩:∃ f t,Cn f (LA++LB) t:=⟨f1,t4,Cn.app.2 ⟨t2,hCA _ _ g1.1,h1 ▸ hCB _ _ g2.1⟩⟩
 all_goals (refine go ?_;and_intros<;>(try exact trivial)<;>repeat (first|refine fun (Bk:Nat)=>?_|intro h))
 repeat' ((first|(refine G.cU (g:=31) (fun a' n c'=>.slice a' n c') (fun L=>L.map rbare=joinL ((LA++LB).map rbare)) (LA++LB) (.inr mm) rfl rfl (fun w' hw'=>hjd f t hC w' (RunsAt.of (N:=w.heap.size) hw')) ?_;intro L a3 c3 hL ⟨hL1,hL2⟩ hL3;have hLl:L.length≤800:=by rw [← List.length_map (f:=rbare),hL];exact hjn)|(apply G.ix (i:=la.length-1);rfl;rfl;exact hza;omega;rfl)|(apply G.ix (i:=lb.length-1);rfl;rfl;exact hzb;omega;rfl)|(apply G.ix (i:=0);rfl;rfl;exact rfl;omega;rfl))<;>(refine go ?_;and_intros<;>(try exact trivial)<;>repeat (first|refine fun (Bk:Nat)=>?_|intro h)))
 refine ret2 Tryd.func17 Tryd.results17 ?_
 exact fun w' hw'=>Sat.retS (fun a' n c'=>.tuple #[.slice a' n c',.int .i64 0]) hw' (hP L hL) rfl hL2 (hL3.comp hnew)
end Go.Proofs.YtcdgibkbbcekhaaDoor
/-
 Appends in regions that fork,with the form of the slice.
-/
namespace Go.Sl
open Go.RowKit
variable {C:Ctx}{st:List (Nat×Value)}{M:List Row}{k:List Item}{q q':Md}{all rest:List Oper}{d:Nat}{ty:TypeId}{pos:String}{after:Array Edge}{gd:Option (Nat×Bool)}
theorem Sat.ownForm {w0 w:World}{base E size n:Nat}{v:Value}{xs:List Value} (hw:Sat w0 M w) (hm:Row.own base v E size n xs∈M):∃ a c,v=.slice a n c:=by
 obtain ⟨hl,hv⟩:=hw.hold _ hm
 rcases hv with ⟨rfl,rfl⟩|⟨g,cap,cur,rfl,_⟩
 ·exact ⟨_,_,rfl⟩
 ·exact ⟨_,_,rfl⟩
theorem G.ownFormS {p:Pt}{M0:List Row}{l:List Oper}{base E size n:Nat}{v:Value}{xs:List Value} (hm:Row.own base v E size n xs∈M) (h:∀ a c,v=.slice a n c→G (.anys M0 p) C all st M l k):G (.anys M0 p) C all st M l k :=
 ⟨fun hs hl hsel listed hdc hp a w hf hdf hw=>by
  obtain ⟨a',c',e⟩:=hw.ownForm hm
  exact (h a' c' e).go hs hl hsel listed hdc hp a w hf hdf hw⟩
theorem G.apSF {p:Pt}{T ty' E bytes size n m c base:Nat}{z v:Value}{x y:Operand}{a:Option Addr}{xs news cs:List Value}{F:Row→List Row}{M0:List Row}{i:Nat} (hs:sdB all st gd d C.N=true)
  (hx:evS st x=some v) (hy:evS st y=some (.slice a m c)) (hm:RAt (.own base v E size n xs) M F) [hT:TElem C.P T E z size bytes] (hsrc:SrcV C M a m size news) (hcs:xs++news=cs) (hb:(n+m)*bytes≤140737488355328) (hnm:n+m≤9223372036854775807)
  (hsub:∀ v',M0.Sublist (F (.own 0 v' E size (n+m) cs))) (hin:∀ v',Row.own 0 v' E size (n+m) cs∈F (.own 0 v' E size (n+m) cs))
  (h:∀ a' c',G (.anys M0 p) C all ((d,.slice a' (n+m) c')::st) (F (.own 0 (.slice a' (n+m) c') E size (n+m) cs)) rest k) :
  G (.anys M0 (.e i p)) C all st M ({ dst:=some d,op:=.call { callee:=.builtin .append,args:=#[x,y],argTypes:=#[T,T] },type:=ty',pos,after,guard:=gd }::rest) k :=
 G.apS hs rfl hx hy hm hsrc hcs hb hnm fun v'=>⟨hsub v',G.ownFormS (hin v') fun a' c' e=>by subst e;exact h a' c'⟩
theorem G.apSOF {p:Pt}{T ty' E bytes size n m c base:Nat}{z v:Value}{x y:Operand}{a:Option Addr}{xs news cs:List Value}{F:Row→List Row}{M0:List Row}{i:Nat} (hs:sdB all st gd d C.N=true)
  (hx:evS st x=some v) (hy:evS st y=some (.slice a m c)) (hm:RAt (.own base v E size n xs) M F) [hT:TElem C.P T E z size bytes] (hsrc:SrcV C M a m size news) (hcs:xs++news=cs) (hb:(n+m)*bytes≤140737488355328) (hnm:n+m≤9223372036854775807)
  (hsub:∀ v',M0.Sublist (F (.own 0 v' E size (n+m) cs))) (hin:∀ v',Row.own 0 v' E size (n+m) cs∈F (.own 0 v' E size (n+m) cs))
  (h:∀ a' c',G (.anys M0 p) C all ((d,.slice a' (n+m) c')::st) (F (.own 0 (.slice a' (n+m) c') E size (n+m) cs)) rest k) :
  G (.ones M0 i p) C all st M ({ dst:=some d,op:=.call { callee:=.builtin .append,args:=#[x,y],argTypes:=#[T,T] },type:=ty',pos,after,guard:=gd }::rest) k :=
 G.apSO hs hx hy hm hsrc hcs hb hnm fun v'=>⟨hsub v',G.ownFormS (hin v') fun a' c' e=>by subst e;exact h a' c'⟩
end Go.Sl
/-
 Contracts of the specification of runs: put.
-/
namespace Go.Proofs.YtcdgibkbbcekhaaDoor
open Go.RowKit Go.Sl Go.Num
section
variable {C:Ctx}{st:List (Nat×Value)}{M:List Row}{k:List Item}
theorem Sat.tabOf {w0 w:World}{N:Nat}{L:List Rn}{r:Rn} (hw:Sat w0 M w) (hm:tfam N L∈M) (hr:r∈L):Sat w0 (slRow N r.adr 2 (r.tab.map hoV)::M) w:=by
 have ho:=hw.old _ hm
 refine hw.addFact ho.1 (hw.fam hm r hr) fun b hb=>?_
 have h2:(tfam N L).sup b:=⟨r,hr,hb⟩
 exact ⟨(ho.2 b h2).1,(ho.2 b h2).2,fun r' hr'=>hw.noLock hm (fun _ h=>h) hr' h2⟩
theorem J.tabOf {N:Nat}{L:List Rn} (r:Rn) (hm:tfam N L∈M) (hr:r∈L) (h:J C st (slRow N r.adr 2 (r.tab.map hoV)::M) k):J C st M k:=.mk fun ac w hf hd hw=>h.go ac w hf hd (Sat.tabOf hw hm hr)
theorem J.slForm {N sz:Nat}{a:Option Addr}{L:List (List Value)} (hm:slRow N a sz L∈M) (h:(0 < L.length→∃ b off,a=some ⟨b,off,none⟩)→J C st M k):J C st M k:=.mk fun ac w hf hd hw=>(h fun h0=>let ⟨b,off,e,_⟩:=hw.sl hm h0;⟨b,off,e⟩).go ac w hf hd hw
end
section
variable {C:Ctx}{st:List (Nat×Value)}{M:List Row}{k:List Item}
theorem J.tfamGap {o:List Rn} (o':List Rn) (z:Rn) (hm:tfam C.w0.heap.size o∈M) (hs:∀ r∈o',r∈o) (hz:z.tab=[]) (h:J C st (tfam C.w0.heap.size (o'++[z])::M) k):J C st M k:=.mk fun ac w hf hd hw=>h.go ac w hf hd (by
 refine hw.addFact (Nat.le_refl _) (fun r hr=>?_) fun b hb=>?_
 ·rcases List.mem_append.1 hr with hr|hr
  ·exact hw.fam hm r (hs r hr)
  ·rw [List.mem_singleton.1 hr];show SlAt w z.adr 2 (z.tab.map hoV);rw [hz];exact fun h=>absurd h (Nat.lt_irrefl _)
 ·obtain ⟨r,hr,h3⟩:=hb
  rcases List.mem_append.1 hr with hr|hr
  ·have h4:(tfam C.w0.heap.size o).sup b:=⟨r,hs r hr,h3⟩
   have ho:=hw.old _ hm
   exact ⟨(ho.2 b h4).1,(ho.2 b h4).2,fun r' hr'=>hw.noLock hm (fun _ h=>h) hr' h4⟩
  ·rw [List.mem_singleton.1 hr] at h3
   have h4:0 < (z.tab.map hoV).length:=h3.1
   rw [hz] at h4;exact absurd h4 (Nat.lt_irrefl _))
end
end Go.Proofs.YtcdgibkbbcekhaaDoor
/-
 Contracts of the specification of runs: joined,Join.
-/
namespace Go.Proofs.YtcdgibkbbcekhaaDoor
open Go.RowKit Go.Sl Go.Num
theorem own5R {w0 w:World}{M:List Row}{N n c:Nat}{a:Option Addr}{L:List Rn} (hw:Sat w0 M w) (hn:L.length=n) (h1:Row.own 0 (.slice a n c) 50 5 n (flat rnV L)∈M:=by (repeat (first|exact List.Mem.head _|apply List.Mem.tail))) (h2:tfam N L∈M:=by (repeat (first|exact List.Mem.head _|apply List.Mem.tail))):RunsAt w a L:=⟨SlAt.ofOwn rnV_len (hw.hold _ h1) hn,fun r hr=>hw.fam h2 r hr⟩
end Go.Proofs.YtcdgibkbbcekhaaDoor
/-
 Contracts: the runs of a history,of the program and of the specification.
-/
namespace Go.Proofs.YtcdgibkbbcekhaaDoor
open Go.RowKit Go.Sl Go.Num
def raws:Int→List Int→List Rn
 | _,[]=>[]
 | f,s::r=>mkR f (f+1) s::raws (f+1) r
def ofE (f:Int) (hs:List Int):List Rn×Int:=if rightH f hs=false then ([],1) else (joinL (raws f hs),0)
theorem raws_len:∀ (hs:List Int) (f:Int),(raws f hs).length=hs.length
 | [],_=>rfl
 | s::r,f=>by rw [raws,List.length_cons,List.length_cons,raws_len r]
theorem raws_get:∀ (hs:List Int) (f:Int) (k:Nat) (h:k < hs.length),(raws f hs)[k]'(by rw [raws_len];exact h)=mkR (f+k) (f+k+1) hs[k]
 | s::r,f,0,h=>by simp only [raws,List.getElem_cons_zero];rw [Int.natCast_zero,Int.add_zero]
 | s::r,f,k+1,h=>by
  have:=raws_get r (f+1) k (by simpa using h)
  simp only [raws,List.getElem_cons_succ]
  rw [this]
  congr 1<;>omega
theorem raws_bare (hs:List Int) (f:Int):(raws f hs).map rbare=raws f hs:=by
 induction hs generalizing f with
 | nil=>rfl
 | cons s r ih=>rw [raws,List.map_cons,ih];rfl
theorem mkR_ok {f t s:Int} (h1:0≤f∧f < t∧t≤1402560) (h2:0≤s∧s≤1000):OkR (mkR f t s) :=
 ⟨by rw [inT,decide_eq_true_eq];exact h1,oneE_raw (r:=mkR f t s) ⟨rfl,rfl,rfl⟩ h2 h1⟩
theorem raws_cn:∀ (hs:List Int) (f:Int),Cn f (raws f hs) (f+hs.length)
 | [],f=>by rw [raws,Cn,List.length_nil];omega
 | s::r,f=>by
  refine ⟨rfl,?_⟩
  have:=raws_cn r (f+1)
  rw [List.length_cons]
  rw [show f+((r.length+1:Nat):Int)=f+1+r.length by omega]
  exact this
theorem raws_ok {hs:List Int}{f:Int} (h:rightH f hs=true):∀ r∈raws f hs,OkR r:=fun r hr=>by
 obtain ⟨h1,h2⟩:=rightH_ok h
 obtain ⟨k,hk,rfl⟩:=List.getElem_of_mem hr
 have hk2:k < hs.length:=by rw [raws_len] at hk;exact hk
 rw [raws_get hs f k hk2]
 have:=h2 k hk2
 exact mkR_ok (by omega) this
theorem raws_ag:∀ (hs:List Int) (f:Int),AgS (raws f hs) hs
 | [],_=>rfl
 | s::r,f=>⟨[s],r,rfl,(AgP.raw (r:=mkR f (f+1) s) (s:=s) ⟨rfl,rfl,rfl⟩).2 (by show [s]=List.replicate (f+1-f).toNat s;rw [show (f+1-f:Int).toNat=1 by omega];rfl),raws_ag r (f+1)⟩
def unk (k:Int×Int×Int):Rn:=mkR k.1 k.2.1 k.2.2
theorem raw_unk {r:Rn} (h:rawR r (stg r)):rbare r=unk (key r):=by
 obtain ⟨f,t,tab,ad,cp,lo,hi⟩:=r
 obtain ⟨h1,h2,h3⟩:=h
 dsimp only at h1 h2 h3
 subst h2 h3
 show (⟨f,t,tab,none,0,0,0⟩:Rn)=⟨f,t,[(stg ⟨f,t,tab,ad,cp,0,0⟩,t-f)],none,0,0,0⟩
 rw [← h1]
theorem joinF_unk:∀ (hs:List Int) (f:Int) (o:List (Int×Int×Int)),joinF (o.map unk) (raws f hs)=(ofL f hs o).map unk
 | [],_,_=>rfl
 | s::r,f,o=>by
  rw [raws,joinF_cons,ofL,← joinF_unk r (f+1)]
  congr 1
  rcases nil_or_snoc o with rfl|⟨o,p,rfl⟩
  ·rfl
  ·obtain ⟨a,b,c⟩:=p
   rw [List.map_append,List.map_cons,List.map_nil,putL_snoc,ofStep,List.getLast?_concat]
   dsimp only
   have hj:jblB (unk (a,b,c)) (mkR f (f+1) s)=decide (c=s):=by
    rw [jblB,if_pos ⟨rfl,rfl⟩];rfl
   rw [hj]
   by_cases hc:c=s
   ·rw [decide_eq_true hc,if_pos rfl,if_pos hc,List.dropLast_concat,List.map_append];rfl
   ·rw [decide_eq_false hc,if_neg (by decide),if_neg hc,List.map_append,List.map_append];rfl
theorem rawsOf_bare {L:List Rn}{f:Int}{hs:List Int} (h:RawsOf L (ofL f hs [])):L.map rbare=joinL (raws f hs):=by
 have h1:=joinF_unk hs f []
 rw [List.map_nil] at h1
 rw [joinL,h1,← h.1,List.map_map]
 exact List.map_congr_left fun r hr=>raw_unk (h.2 r hr)
theorem vOf_holds (f:Int) (a:Option Addr) (hs:List Int) (c:Nat) (w:World) (hA:SlAt w a 1 (hs.map isV)) (hl:hs.length≤1000) :
  Calls Tryd.prog 6 #[.agg #[.int .i64 f,.slice a hs.length c]] w (RetU [] (fun L=>L.map rbare=(ofE f hs).1.map rbare) (fun a' n c'=>.tuple #[.slice a' n c',.int .i64 (ofE f hs).2]) w):=by
 cases hr:rightH f hs
 ·refine (ofBad_holds f a hs c w hA (by omega) hr).mono fun e w' ⟨h1,h2⟩=>?_
  rw [ofE,if_pos hr,h1]
  exact RetU.nil (fun a' n c'=>.tuple #[.slice a' n c',.int .i64 1]) h2 rfl
 ·refine (ofRuns_holds f a hs c w hA hl hr).mono fun e w' ⟨L,a',c',h1,h2,hcc,_,h5,h6,h7,h8⟩=>?_
  rw [ofE,if_neg (by rw [hr];decide)]
  refine ⟨L,a',c',?_,h2,h5,⟨h6,hcc⟩,fun r hr=>.inr (.inl (h7 r hr)),h8⟩
  show L.map rbare=(joinL (raws f hs)).map rbare
  rw [rawsOf_bare h1,← joinL_bare,raws_bare]
end Go.Proofs.YtcdgibkbbcekhaaDoor
/-
 Contracts of the specification of runs: held,among,SameInts,SameHistory.
-/
namespace Go.Proofs.YtcdgibkbbcekhaaDoor
open Go.RowKit Go.Sl Go.Num
theorem sameI_holds (a b:Option Addr) (l m:List Int) (c d:Nat) (w:World) (hA:SlAt w a 1 (l.map isV)) (hB:SlAt w b 1 (m.map isV)) (hl:l.length≤1000000∧m.length≤1000000) :
  Calls Tryd.prog 37 #[.slice a l.length c,.slice b m.length d] w fun e w'=>e=.returned (.bool (decide (l=m)))∧Below w.heap.size w w':=by
 refine enterA [(0,.slice a l.length c),(1,.slice b m.length d)] Tryd.func37 Tryd.ntmps37 ?_
 by_cases hn:l.length=m.length
 case neg =>
  rw [decide_eq_false (fun e=>hn (by rw [e]))]
  all_goals (refine go ?_;and_intros<;>(try exact trivial)<;>repeat (first|refine fun (Bk:Nat)=>?_|intro h))
  all_goals refine ret1b Tryd.func37 Tryd.results37 ?_
  all_goals rfl
 all_goals (refine go ?_;and_intros<;>(try exact trivial)<;>repeat (first|refine fun (Bk:Nat)=>?_|intro h))
 refine J.loop (c:=_) (0:Nat) (fun s=>l.length-s) (fun s=>[(0,.slice a l.length c),(1,.slice b m.length d),(5,.int .i64 s)]) (fun s=>[]) (fun s=>s≤l.length∧∀ i (h:i < l.length),i < s→l[i]=m[i]) ?_ sbT sbL ?_
 ·exact ⟨Nat.zero_le _,fun i h h2=>absurd h2 (Nat.not_lt_zero _)⟩
 intro k ⟨h1,h2⟩ ih
 by_cases hk:k < l.length
 ·obtain ⟨ba,oa,rfl,hra⟩:=SlAt.all hA (by omega)
  obtain ⟨bb,ob,rfl,hrb⟩:=SlAt.all hB (by omega)
  have hr:=hra k hk
  have hr2:=hrb k (by omega)
  have hne:l[k]≠m[k]→decide (l=m)=false:=fun h=>decide_eq_false fun e=>h (by subst e;rfl)
  have ih:=fun (h:l[k]=m[k])=>ih (k+1) ⟨hk,fun i hi h3=>by
   rcases Nat.lt_or_ge i k with h4|h4
   ·exact h2 i hi h4
   ·obtain rfl:i=k:=by omega
    exact h⟩ (by omega)
  clear hra hrb h2
  generalize l[k]=x at *
  generalize m[k]=y at *
  dsimp only [isV] at hr hr2
  by_cases hx:x=y
  ·have ihN:=ih hx
   clear ih
   all_goals (refine go ?_;and_intros<;>(try exact trivial)<;>repeat (first|refine fun (Bk:Nat)=>?_|intro h))
   exact J.fin ihN
  ·rw [hne hx]
   clear ih
   all_goals (refine go ?_;and_intros<;>(try exact trivial)<;>repeat (first|refine fun (Bk:Nat)=>?_|intro h))
   all_goals refine ret1b Tryd.func37 Tryd.results37 ?_
   all_goals rfl
 ·rw [decide_eq_true (List.ext_getElem hn fun i h3 h4=>h2 i h3 (by omega))]
  clear ih
  all_goals (refine go ?_;and_intros<;>(try exact trivial)<;>repeat (first|refine fun (Bk:Nat)=>?_|intro h))
  all_goals refine ret1b Tryd.func37 Tryd.results37 ?_
  all_goals rfl
theorem sameH_holds (f g:Int) (a b:Option Addr) (l m:List Int) (c d:Nat) (w:World) (hA:SlAt w a 1 (l.map isV)) (hB:SlAt w b 1 (m.map isV)) (hl:l.length≤1000000∧m.length≤1000000) :
  Calls Tryd.prog 12 #[.agg #[.int .i64 f,.slice a l.length c],.agg #[.int .i64 g,.slice b m.length d]] w fun e w'=>e=.returned (.bool (decide (l=m∧f=g)))∧Below w.heap.size w w':=by
 have hs:=fun w' (hb:Below w.heap.size w w')=>sameI_holds a b l m c d w' (hA.below hb) (hB.below hb) hl
 refine enterA [(0,.agg #[.int .i64 f,.slice a l.length c]),(1,.agg #[.int .i64 g,.slice b m.length d])] Tryd.func12 Tryd.ntmps12 ?_
 by_cases h1:l=m
 ·rw [decide_eq_true h1] at hs
  by_cases h2:f=g
  ·rw [decide_eq_true ⟨h1,h2⟩]
   clear h1
   all_goals (refine go ?_;and_intros<;>(try exact trivial)<;>repeat (first|refine fun (Bk:Nat)=>?_|intro h))
   repeat' ((first|(apply G.cV (g:=37);rfl;rfl;exact fun w' hw'=>hs w' hw'.below))<;>(refine go ?_;and_intros<;>(try exact trivial)<;>repeat (first|refine fun (Bk:Nat)=>?_|intro h)))
   all_goals refine ret1b Tryd.func12 Tryd.results12 ?_
   all_goals rfl
  ·rw [decide_eq_false (fun h=>h2 h.2)]
   clear h1
   all_goals (refine go ?_;and_intros<;>(try exact trivial)<;>repeat (first|refine fun (Bk:Nat)=>?_|intro h))
   repeat' ((first|(apply G.cV (g:=37);rfl;rfl;exact fun w' hw'=>hs w' hw'.below))<;>(refine go ?_;and_intros<;>(try exact trivial)<;>repeat (first|refine fun (Bk:Nat)=>?_|intro h)))
   all_goals refine ret1b Tryd.func12 Tryd.results12 ?_
   all_goals rfl
 ·rw [decide_eq_false h1] at hs
  rw [decide_eq_false (fun h=>h1 h.1)]
  clear h1
  all_goals (refine go ?_;and_intros<;>(try exact trivial)<;>repeat (first|refine fun (Bk:Nat)=>?_|intro h))
  repeat' ((first|(apply G.cV (g:=37);rfl;rfl;exact fun w' hw'=>hs w' hw'.below))<;>(refine go ?_;and_intros<;>(try exact trivial)<;>repeat (first|refine fun (Bk:Nat)=>?_|intro h)))
  all_goals refine ret1b Tryd.func12 Tryd.results12 ?_
  all_goals rfl
end Go.Proofs.YtcdgibkbbcekhaaDoor
/-
 Contract of the specification of runs: Same.
-/
namespace Go.Proofs.YtcdgibkbbcekhaaDoor
open Go.RowKit Go.Sl Go.Num
section
variable {C:Ctx}{st:List (Nat×Value)}{M:List Row}{k:List Item}{q q':Md}{all rest:List Oper}{d:Nat}{ty:TypeId}{pos:String}{after:Array Edge}{gd:Option (Nat×Bool)}
theorem G.ne2 {T:TypeId}{x y:Operand}{yt:TypeId} (a b:Int×Int) (hx:evS st x=some (.agg (hoV a).toArray)) (hy:evS st y=some (.agg (hoV b).toArray)) [hT:TEq2 C.P T] (hs:sideB all st gd d C.N q.calm=some q') (h1:a=b→G q' C all ((d,.bool false)::st) M rest k) (h2:a≠b→G q' C all ((d,.bool true)::st) M rest k) :
  G q C all st M ({ dst:=some d,op:=.binOp .neq T x y yt,type:=ty,pos,after,guard:=gd }::rest) k:=by
 obtain ⟨g1,g2,g3⟩:=sideB_ok hs
 refine G.opDec (p:=¬ a=b) (OpV.of fun ac w hf _ dst pos after guard=>?_) g1 rfl g2 g3 h2 (fun h=>h1 (Decidable.not_not.1 h))
 have e:(binOp .neq T (.agg (hoV a).toArray) (.agg (hoV b).toArray)).run C.P w=.ok (.bool (decide (¬ a=b))) w:=by
  show ((Op.equal T _ _).bind fun b=>Sem.pure (Value.bool (!b))).run C.P w=_
  rw [Sem.run_bind',show (Op.equal T (.agg (hoV a).toArray) (.agg (hoV b).toArray)).run C.P w=_ from hT.h a.1 a.2 b.1 b.2 w,decide_not]
  obtain ⟨a1,a2⟩:=a
  obtain ⟨b1,b2⟩:=b
  simp only [Prod.mk.injEq]
  rfl
 have hg:(eqGuard .neq T x y (.agg (hoV a).toArray) (.agg (hoV b).toArray)).run C.P w=.ok () w:=run_eqGuard_agg w .neq T x y _ _ hT.g
 simp only [execOp,hf.eval hx,hf.eval hy,Sem.run_bind,hg,e,Result.andThen_ok];rfl
end
theorem rb_eq {x y:Rn}:rbare x=rbare y ↔ x.from_=y.from_∧x.to_=y.to_∧x.lo=y.lo∧x.hi=y.hi∧x.tab=y.tab:=by
 obtain ⟨f,t,tab,ad,c,lo,hi⟩:=x
 obtain ⟨f2,t2,tab2,ad2,c2,lo2,hi2⟩:=y
 simp only [rbare,Rn.mk.injEq,true_and]
 exact ⟨fun ⟨a,b,c,d,e⟩=>⟨a,b,d,e,c⟩,fun ⟨a,b,d,e,c⟩=>⟨a,b,c,d,e⟩⟩
set_option maxHeartbeats 4000000 in
theorem same16_holds (a b:Option Addr) (l m:List Rn) (c d:Nat) (w:World) (hA:RunsAt w a l) (hB:RunsAt w b m) (hl:l.length≤1000000∧m.length≤1000000) (hta:∀ r∈l,r.tab.length≤1000000) (htb:∀ r∈m,r.tab.length≤1000000) :
  Calls Tryd.prog 18 #[.slice a l.length c,.slice b m.length d] w fun e w'=>e=.returned (.bool (decide (l.map rbare=m.map rbare)))∧Below w.heap.size w w':=by
 refine enterA [(0,.slice a l.length c),(1,.slice b m.length d)] Tryd.func18 Tryd.ntmps18 ?_
 by_cases hn:l.length=m.length
 case neg =>
  rw [decide_eq_false (fun e=>hn (by have:=congrArg List.length e;rwa [List.length_map,List.length_map] at this))]
  all_goals (refine go ?_;and_intros<;>(try exact trivial)<;>repeat (first|refine fun (Bk:Nat)=>?_|intro h))
  all_goals refine ret1b Tryd.func18 Tryd.results18 ?_
  all_goals rfl
 all_goals (refine go ?_;and_intros<;>(try exact trivial)<;>repeat (first|refine fun (Bk:Nat)=>?_|intro h))
 refine J.loop (c:=_) (0:Nat) (fun s=>l.length-s) (fun s=>[(0,.slice a l.length c),(1,.slice b m.length d),(5,.int .i64 s)]) (fun s=>[]) (fun s=>s≤l.length∧∀ i (h:i < l.length),i < s→rbare l[i]=rbare m[i]) ?_ sbT sbL ?_
 ·exact ⟨Nat.zero_le _,fun i h h2=>absurd h2 (Nat.not_lt_zero _)⟩
 intro k ⟨h1,h2⟩ ih
 by_cases hk:k < l.length
 ·obtain ⟨ba,oa,rfl,hra⟩:=SlAt.all hA.1 (by omega)
  obtain ⟨bb,ob,rfl,hrb⟩:=SlAt.all hB.1 (by omega)
  have hk2:k < m.length:=by omega
  have hr:=hra k hk
  have hr2:=hrb k hk2
  have ht:=hA.2 _ (List.getElem_mem hk)
  have ht2:=hB.2 _ (List.getElem_mem hk2)
  have hlt:=hta _ (List.getElem_mem hk)
  have hlt2:=htb _ (List.getElem_mem hk2)
  have hne:rbare l[k]≠rbare m[k]→decide (l.map rbare=m.map rbare)=false:=fun h=>decide_eq_false fun e=>h (by
   have h5:(l.map rbare)[k]'(by rw [List.length_map];exact hk)=(m.map rbare)[k]'(by rw [List.length_map];exact hk2):=by simp only [e]
   rwa [List.getElem_map,List.getElem_map] at h5)
  have ih:=fun (h:rbare l[k]=rbare m[k])=>ih (k+1) ⟨hk,fun i hi h3=>by
   rcases Nat.lt_or_ge i k with h4|h4
   ·exact h2 i hi h4
   ·obtain rfl:i=k:=by omega
    exact h⟩ (by omega)
  clear hra hrb h2 hta htb hA hB
  generalize decide (l.map rbare=m.map rbare)=T at *
  generalize l[k]=x at *
  generalize m[k]=y at *
  rw [rb_eq] at ih
  rw [Ne,rb_eq] at hne
  obtain ⟨f1,t1,tb1,ad1,cp1,lo1,hi1⟩:=x
  obtain ⟨f2,t2,tb2,ad2,cp2,lo2,hi2⟩:=y
  rw [TabAt] at ht ht2
  dsimp only [rnV] at *
  by_cases e1:f1=f2
  case neg =>
   rw [hne fun h=>e1 h.1]
   clear ih
   all_goals (refine go ?_;and_intros<;>(try exact trivial)<;>repeat (first|refine fun (Bk:Nat)=>?_|intro h))
   repeat' ((first|(apply G.ix (i:=k);rfl;rfl;exact rfl;exact hk;rfl)|(apply G.ix (i:=k);rfl;rfl;exact rfl;exact hk2;rfl))<;>(refine go ?_;and_intros<;>(try exact trivial)<;>repeat (first|refine fun (Bk:Nat)=>?_|intro h)))
   all_goals refine ret1b Tryd.func18 Tryd.results18 ?_
   all_goals rfl
  by_cases e2:t1=t2
  case neg =>
   rw [hne fun h=>e2 h.2.1]
   clear ih
   all_goals (refine go ?_;and_intros<;>(try exact trivial)<;>repeat (first|refine fun (Bk:Nat)=>?_|intro h))
   repeat' ((first|(apply G.ix (i:=k);rfl;rfl;exact rfl;exact hk;rfl)|(apply G.ix (i:=k);rfl;rfl;exact rfl;exact hk2;rfl))<;>(refine go ?_;and_intros<;>(try exact trivial)<;>repeat (first|refine fun (Bk:Nat)=>?_|intro h)))
   all_goals refine ret1b Tryd.func18 Tryd.results18 ?_
   all_goals rfl
  by_cases e3:lo1=lo2
  case neg =>
   rw [hne fun h=>e3 h.2.2.1]
   clear ih
   all_goals (refine go ?_;and_intros<;>(try exact trivial)<;>repeat (first|refine fun (Bk:Nat)=>?_|intro h))
   repeat' ((first|(apply G.ix (i:=k);rfl;rfl;exact rfl;exact hk;rfl)|(apply G.ix (i:=k);rfl;rfl;exact rfl;exact hk2;rfl))<;>(refine go ?_;and_intros<;>(try exact trivial)<;>repeat (first|refine fun (Bk:Nat)=>?_|intro h)))
   all_goals refine ret1b Tryd.func18 Tryd.results18 ?_
   all_goals rfl
  by_cases e4:hi1=hi2
  case neg =>
   rw [hne fun h=>e4 h.2.2.2.1]
   clear ih
   all_goals (refine go ?_;and_intros<;>(try exact trivial)<;>repeat (first|refine fun (Bk:Nat)=>?_|intro h))
   repeat' ((first|(apply G.ix (i:=k);rfl;rfl;exact rfl;exact hk;rfl)|(apply G.ix (i:=k);rfl;rfl;exact rfl;exact hk2;rfl))<;>(refine go ?_;and_intros<;>(try exact trivial)<;>repeat (first|refine fun (Bk:Nat)=>?_|intro h)))
   all_goals refine ret1b Tryd.func18 Tryd.results18 ?_
   all_goals rfl
  by_cases e5:tb1.length=tb2.length
  case neg =>
   rw [hne fun h=>e5 (by rw [h.2.2.2.2])]
   clear ih
   all_goals (refine go ?_;and_intros<;>(try exact trivial)<;>repeat (first|refine fun (Bk:Nat)=>?_|intro h))
   repeat' ((first|(apply G.ix (i:=k);rfl;rfl;exact rfl;exact hk;rfl)|(apply G.ix (i:=k);rfl;rfl;exact rfl;exact hk2;rfl))<;>(refine go ?_;and_intros<;>(try exact trivial)<;>repeat (first|refine fun (Bk:Nat)=>?_|intro h)))
   all_goals refine ret1b Tryd.func18 Tryd.results18 ?_
   all_goals rfl
  have ih:=fun h=>ih ⟨e1,e2,e3,e4,h⟩
  have hne:=fun (h:tb1≠tb2)=>hne fun h'=>h h'.2.2.2.2
  all_goals (refine go ?_;and_intros<;>(try exact trivial)<;>repeat (first|refine fun (Bk:Nat)=>?_|intro h))
  repeat' ((first|(apply G.ix (i:=k);rfl;rfl;exact rfl;exact hk;rfl)|(apply G.ix (i:=k);rfl;rfl;exact rfl;exact hk2;rfl))<;>(refine go ?_;and_intros<;>(try exact trivial)<;>repeat (first|refine fun (Bk:Nat)=>?_|intro h)))
  refine J.loop (c:=_) (0:Nat) (fun s=>tb1.length-s) (fun s=>[(0,.slice (some ⟨ba,oa,none⟩) l.length c),(1,.slice (some ⟨bb,ob,none⟩) m.length d),(5,.int .i64 k),(6,.int .i64 s)]) (fun s=>[]) (fun s=>s≤tb1.length∧∀ i (h:i < tb1.length),i < s→tb1[i]=tb2[i]) ?_ sbT sbL ?_
  ·exact ⟨Nat.zero_le _,fun i h h2=>absurd h2 (Nat.not_lt_zero _)⟩
  intro j ⟨j1,j2⟩ ih2
  by_cases hj:j < tb1.length
  ·obtain ⟨b1,o1,rfl,q1⟩:=SlAt.all ht (by omega)
   obtain ⟨b2,o2,rfl,q2⟩:=SlAt.all ht2 (by omega)
   have hj2:j < tb2.length:=by omega
   have q1:=q1 j hj
   have q2:=q2 j hj2
   have ne2:=fun (h:tb1[j]≠tb2[j])=>hne fun e=>h (by subst e;rfl)
   have ih3:=fun (h:tb1[j]=tb2[j])=>ih2 (j+1) ⟨hj,fun i hi h3=>by
    rcases Nat.lt_or_ge i j with h4|h4
    ·exact j2 i hi h4
    ·obtain rfl:i=j:=by omega
     exact h⟩ (by omega)
   clear ih ih2 hne j2
   generalize tb1[j]=z1 at *
   generalize tb2[j]=z2 at *
   by_cases hz:z1=z2
   ·have ih4:=ih3 hz
    clear ih3 ne2
    all_goals (refine go ?_;and_intros<;>(try exact trivial)<;>repeat (first|refine fun (Bk:Nat)=>?_|intro h))
    repeat' ((first|(apply G.ix (i:=k);rfl;rfl;exact rfl;exact hk;rfl)|(apply G.ix (i:=k);rfl;rfl;exact rfl;exact hk2;rfl)|(apply G.ix (i:=j);rfl;rfl;exact rfl;exact hj;rfl)|(apply G.ix (i:=j);rfl;rfl;exact rfl;exact hj2;rfl)|(apply G.ne2 z1 z2;rfl;rfl;rfl;all_goals intro h;all_goals try (exact absurd hz h)))<;>(refine go ?_;and_intros<;>(try exact trivial)<;>repeat (first|refine fun (Bk:Nat)=>?_|intro h)))
    exact J.fin ih4
   ·rw [ne2 hz]
    clear ih3 ne2
    all_goals (refine go ?_;and_intros<;>(try exact trivial)<;>repeat (first|refine fun (Bk:Nat)=>?_|intro h))
    repeat' ((first|(apply G.ix (i:=k);rfl;rfl;exact rfl;exact hk;rfl)|(apply G.ix (i:=k);rfl;rfl;exact rfl;exact hk2;rfl)|(apply G.ix (i:=j);rfl;rfl;exact rfl;exact hj;rfl)|(apply G.ix (i:=j);rfl;rfl;exact rfl;exact hj2;rfl)|(apply G.ne2 z1 z2;rfl;rfl;rfl;all_goals intro h;all_goals try (exact absurd h hz)))<;>(refine go ?_;and_intros<;>(try exact trivial)<;>repeat (first|refine fun (Bk:Nat)=>?_|intro h)))
    all_goals refine ret1b Tryd.func18 Tryd.results18 ?_
    all_goals rfl
  ·have ih:=ih (List.ext_getElem e5 fun i h3 h4=>j2 i h3 (by omega))
   clear ih2 hne j2
   all_goals (refine go ?_;and_intros<;>(try exact trivial)<;>repeat (first|refine fun (Bk:Nat)=>?_|intro h))
   repeat' ((first|(apply G.ix (i:=k);rfl;rfl;exact rfl;exact hk;rfl)|(apply G.ix (i:=k);rfl;rfl;exact rfl;exact hk2;rfl))<;>(refine go ?_;and_intros<;>(try exact trivial)<;>repeat (first|refine fun (Bk:Nat)=>?_|intro h)))
   exact J.fin ih
 ·rw [decide_eq_true (List.ext_getElem (by rw [List.length_map,List.length_map];exact hn) fun i h3 h4=>by
   rw [List.length_map] at h3
   rw [List.getElem_map,List.getElem_map]
   exact h2 i h3 (by omega))]
  clear ih
  all_goals (refine go ?_;and_intros<;>(try exact trivial)<;>repeat (first|refine fun (Bk:Nat)=>?_|intro h))
  all_goals refine ret1b Tryd.func18 Tryd.results18 ?_
  all_goals rfl
end Go.Proofs.YtcdgibkbbcekhaaDoor
/-
 Contract: run.Count.
-/
namespace Go.Proofs.YtcdgibkbbcekhaaDoor
open Go.RowKit Go.Sl Go.Num
theorem G.cF0 {C:Ctx}{st:List (Nat×Value)}{M:List Row}{k:List Item}{q q':Md}{all rest:List Oper}{d:Nat}{ty:TypeId}{pos:String}{after:Array Edge}{gd:Option (Nat×Bool)}{g:FuncId}{f:Operand}{args:List Operand}{vs:List Value}{at_:Array TypeId}{v:Value} (hf:evS st f=some (.func (.func g) #[] #[])) (ha:evL st args=some vs) (hs:sideB all st gd d C.N q.calm=some q') [hF:Fun C.P g]
  (hc:∀ w,Sat C.w0 (q.cls M) w→Calls C.P g vs.toArray w fun e w'=>e=.returned v∧Below w.heap.size w w') (h:G q' C all ((d,v)::st) M rest k) :
  G q C all st M ({ dst:=some d,op:=.call { callee:=.value f,args:=args.toArray,argTypes:=at_ },type:=ty,pos,after,guard:=gd }::rest) k:=by
 obtain ⟨g1,g2,g3⟩:=sideB_ok hs
 exact G.callVf hf ha g1 g2 g3 (fun w hw=>by rw [Array.append_empty];exact hc w hw) h
def cntE (l:List Rn):List UInt8×Int:=if runsErr l≠0 then ([],runsErr l) else if l.length≠0∧400 < (lastD l).to_-(headD' l).from_ then ([],2) else (nB (cntL l),0)
theorem number_fn (n:Nat) (w:World) (h:n < 9223372036854775808):Calls Tryd.prog 22 #[.int .i64 n] w fun e w'=>e=.returned (.string (bs (nB n)))∧Below w.heap.size w w':=by
 have hi:=fun w'=>natInt_holds n w' h
 generalize nB n=B at *
 refine enterA [(0,.int .i64 n)] Tryd.func22 Tryd.ntmps22 ?_
 all_goals (refine go ?_;and_intros<;>(try exact trivial)<;>repeat (first|refine fun (Bk:Nat)=>?_|intro h))
 repeat' ((first|(apply G.cV (g:=23);rfl;rfl;exact fun w' _=>hi w'))<;>(refine go ?_;and_intros<;>(try exact trivial)<;>repeat (first|refine fun (Bk:Nat)=>?_|intro h)))
 all_goals refine ret1b Tryd.func22 Tryd.results22 ?_
 all_goals rfl
theorem mul_v {x y:Nat} (hx:(nB x).length≤536870000) (hy:(nB y).length≤536870000) (w:World):Calls Tryd.prog 25 #[.string (bs (nB x)),.string (bs (nB y))] w fun e w'=>e=.returned (.string (bs (nB (x*y))))∧Below w.heap.size w w':=by
 have h:=natMul_holds (nB x) (nB y) w (by omega) (by omega)
 rwa [vB_nB,vB_nB] at h
theorem div_v {x y:Nat} (hx:(nB x).length≤536870000) (hy:(nB y).length≤536870000) (h0:y≠0) (w:World):Calls Tryd.prog 26 #[.string (bs (nB x)),.string (bs (nB y))] w fun e w'=>e=.returned (.tuple #[.string (bs (nB (x / y))),.string (bs (nB (x % y))),.int .i64 0])∧Below w.heap.size w w':=by
 have h:=natDivMod_holds (nB x) (nB y) w (by omega) (by omega) (by rw [vB_nB];exact h0)
 rwa [vB_nB,vB_nB] at h
theorem nB_small {n:Nat} (h:n < 65536):(nB n).length≤2:=nB_bound h
def tks:List Rn→Nat
 | []=>0
 | r::t=>(r.to_-r.from_).toNat+tks t
theorem tks_cn:∀ {l:List Rn}{f t:Int},Cn f l t→(∀ r∈l,OkR r)→(tks l:Int)=t-f
 | [],f,t,h,_=>by rw [Cn] at h;rw [tks];omega
 | r::l,f,t,h,ho=>by
  have h1:=(ho r (List.mem_cons_self ..)).rng
  have h2:=tks_cn h.2 fun x hx=>ho x (List.mem_cons_of_mem _ hx)
  have:=h.1
  rw [tks];omega
theorem pow_step (v g n:Nat):v*g ^ (n+1)=v*g*g ^ n:=by rw [Nat.pow_succ,Nat.mul_comm (g ^ n),← Nat.mul_assoc]
theorem chs_mul (v m j:Nat):v*chs m j*(m+j+1) / (j+1)=v*chs m (j+1):=by
 rw [Nat.mul_assoc,chs_step,← Nat.mul_assoc,Nat.mul_div_cancel _ (Nat.succ_pos j)]
set_option maxHeartbeats 4000000 in
theorem vCount_holds (a:Option Addr) (l:List Rn) (c:Nat) (w:World) (hA:RunsAt w a l) (hta:∀ r∈l,r.tab.length≤64) (hl:l.length≤2000) :
  Calls Tryd.prog 7 #[.slice a l.length c] w fun e w'=>e=.returned (.tuple #[.string (bs (cntE l).1),.int .i64 (cntE l).2])∧Below w.heap.size w w':=by
 have hck:=fun w' (hb:Below w.heap.size w w')=>vRuns_holds a l c w' (hA.below hb) hta
 by_cases hE:runsErr l=0
 case neg =>
  have hJ:cntE l=([],runsErr l):=by rw [cntE,if_pos hE]
  rw [hJ]
  generalize runsErr l=E at *
  refine enterA [(0,.slice a l.length c)] Tryd.func7 Tryd.ntmps7 ?_
  all_goals (refine go ?_;and_intros<;>(try exact trivial)<;>repeat (first|refine fun (Bk:Nat)=>?_|intro h))
  repeat' ((first|(refine G.cvb hck ?_))<;>(refine go ?_;and_intros<;>(try exact trivial)<;>repeat (first|refine fun (Bk:Nat)=>?_|intro h)))
  all_goals refine ret2b Tryd.func7 Tryd.results7 ?_
  all_goals rfl
 rw [hE] at hck
 obtain ⟨ho,_,hc3⟩:=runs_ok hE
 have hn1:=fun w'=>number_fn 1 w' (by decide)
 by_cases hbig:l.length≠0∧400 < (lastD l).to_-(headD' l).from_
 ·have hJ:cntE l=([],2):=by rw [cntE,if_neg (by rw [hE];decide),if_pos hbig]
  rw [hJ]
  obtain ⟨ba,oa,rfl,hra⟩:=SlAt.all hA.1 (by omega)
  have r0:=hra 0 (by omega)
  have r1:=hra (l.length-1) (by omega)
  have hz:(l.length:Int)-1=((l.length-1:Nat):Int):=by omega
  have i1:=(ho _ (List.getElem_mem (l:=l) (n:=0) (by omega))).rng
  have i2:=(ho _ (List.getElem_mem (l:=l) (n:=l.length-1) (by omega))).rng
  obtain ⟨b1,b2⟩:=hbig
  rw [lastD_at (by omega),headD_at (by omega)] at b2
  clear hra hc3 ho hta hn1
  generalize l[0]=x1 at *
  generalize l[l.length-1]=x2 at *
  obtain ⟨f1,t1,tb1,ad1,cp1,lo1,hi1⟩:=x1
  obtain ⟨f2,t2,tb2,ad2,cp2,lo2,hi2⟩:=x2
  dsimp only [rnV] at *
  refine enterA [(0,.slice (some ⟨ba,oa,none⟩) l.length c)] Tryd.func7 Tryd.ntmps7 ?_
  all_goals (refine go ?_;and_intros<;>(try exact trivial)<;>repeat (first|refine fun (Bk:Nat)=>?_|intro h))
  repeat' ((first|(refine G.cvb hck ?_)|(apply G.ix (i:=l.length-1);rfl;rfl;exact hz;omega;rfl)|(apply G.ix (i:=0);rfl;rfl;exact rfl;omega;rfl))<;>(refine go ?_;and_intros<;>(try exact trivial)<;>repeat (first|refine fun (Bk:Nat)=>?_|intro h)))
  all_goals refine ret2b Tryd.func7 Tryd.results7 ?_
  all_goals rfl
 have hJ:cntE l=(nB (cntL l),0):=by rw [cntE,if_neg (by rw [hE];decide),if_neg hbig]
 rw [hJ]
 have htk:tks l≤400:=by
  by_cases h0:l=[]
  ·subst h0;exact Nat.zero_le _
  ·have:=tks_cn (hc3 h0).1 ho
   have:¬ 400 < (lastD l).to_-(headD' l).from_:=fun h=>hbig ⟨fun e=>h0 (List.length_eq_zero_iff.1 e),h⟩
   omega
 clear hJ hbig
 generalize hT:cntL l=T
 rcases Nat.eq_zero_or_pos l.length with h0|h0
 ·obtain rfl:=List.length_eq_zero_iff.1 h0
  rw [cntL] at hT
  subst hT
  refine enterA [(0,.slice a 0 c)] Tryd.func7 Tryd.ntmps7 ?_
  all_goals (refine go ?_;and_intros<;>(try exact trivial)<;>repeat (first|refine fun (Bk:Nat)=>?_|intro h))
  repeat' ((first|(refine G.cvb hck ?_)|(apply G.cF0 (g:=22);rfl;rfl;rfl;exact fun w' _=>hn1 w'))<;>(refine go ?_;and_intros<;>(try exact trivial)<;>repeat (first|refine fun (Bk:Nat)=>?_|intro h)))
  refine J.loop (c:=_) (0:Nat) (fun s=>0) (fun s=>[(6,.func (.func 22) #[] #[]),(7,.string (bs (nB 1))),(39,.slice a 0 c),(40,.int .i64 0),(41,.int .i64 0)]) (fun s=>[]) (fun s=>True) ?_ sbT sbL ?_
  ·exact trivial
  intro _ _ _
  all_goals (refine go ?_;and_intros<;>(try exact trivial)<;>repeat (first|refine fun (Bk:Nat)=>?_|intro h))
  all_goals refine ret2b Tryd.func7 Tryd.results7 ?_
  all_goals rfl
 obtain ⟨ba,oa,rfl,hra⟩:=SlAt.all hA.1 (by omega)
 have r0:=hra 0 (by omega)
 have r1:=hra (l.length-1) (by omega)
 have hz:(l.length:Int)-1=((l.length-1:Nat):Int):=by omega
 have i1:=(ho _ (List.getElem_mem (l:=l) (n:=0) (by omega))).rng
 have i2:=(ho _ (List.getElem_mem (l:=l) (n:=l.length-1) (by omega))).rng
 have hcn:=hc3 (fun e=>by rw [e] at h0;exact absurd h0 (Nat.lt_irrefl _))
 have htk2:=tks_cn hcn.1 ho
 rw [lastD_at h0,headD_at h0] at hcn htk2
 clear hc3
 refine enterA [(0,.slice (some ⟨ba,oa,none⟩) l.length c)] Tryd.func7 Tryd.ntmps7 ?_
 have r0':=r0
 have r1':=r1
 rw [show rnV l[0]=[.int .i64 l[0].from_,.int .i64 l[0].to_,.slice l[0].adr l[0].tab.length l[0].cap,.int .i64 l[0].lo,.int .i64 l[0].hi] from rfl] at r0'
 rw [show rnV l[l.length-1]=[.int .i64 (l[l.length-1]).from_,.int .i64 (l[l.length-1]).to_,.slice (l[l.length-1]).adr (l[l.length-1]).tab.length (l[l.length-1]).cap,.int .i64 (l[l.length-1]).lo,.int .i64 (l[l.length-1]).hi] from rfl] at r1'
 all_goals (refine go ?_;and_intros<;>(try exact trivial)<;>repeat (first|refine fun (Bk:Nat)=>?_|intro h))
 repeat' ((first|(refine G.cvb hck ?_)|(apply G.ix (i:=l.length-1);rfl;rfl;exact hz;omega;rfl)|(apply G.ix (i:=0);rfl;rfl;exact rfl;omega;rfl)|(apply G.cF0 (g:=22);rfl;rfl;rfl;exact fun w' _=>hn1 w'))<;>(refine go ?_;and_intros<;>(try exact trivial)<;>repeat (first|refine fun (Bk:Nat)=>?_|intro h)))
 clear hck r0 r1 r0' r1' i1 i2 hcn htk2 hn1
 refine J.loop (c:=_) ((0,1):Nat×Nat) (fun s=>l.length-s.1) (fun s=>[(6,.func (.func 22) #[] #[]),(39,.slice (some ⟨ba,oa,none⟩) l.length c),(40,.int .i64 l.length),(7,.string (bs (nB s.2))),(41,.int .i64 s.1)]) (fun s=>[]) (fun s=>s.1≤l.length∧s.2*cntL (l.drop s.1)=T∧(nB s.2).length+2*tks (l.drop s.1)≤802) ?_ sbT sbL ?_
 ·exact ⟨Nat.zero_le _,by dsimp only;rw [Nat.one_mul];exact hT,by have:=nB_small (n:=1) (by decide);show (nB 1).length+2*tks (l.drop 0)≤802;rw [List.drop_zero];omega⟩
 clear hT htk
 intro ⟨k,v⟩ ⟨h1,h2,h3⟩ ih
 dsimp only at h1 h2 h3 ⊢
 by_cases hk:k < l.length
 ·have hr:=hra k hk
  have hmem:=List.getElem_mem hk
  have hok:=ho _ hmem
  have htb:=hA.2 _ hmem
  have hlk:=hta _ hmem
  have hg:=fun w'=>gap_holds l[k] w'
  rw [List.drop_eq_getElem_cons hk,cntL] at h2
  rw [List.drop_eq_getElem_cons hk,tks] at h3
  have ihN:=fun v' e1 e2=>ih (k+1,v') ⟨hk,e1,e2⟩ (by dsimp only;omega)
  dsimp only at ihN
  clear ih hra hA ho hta
  generalize cntL (l.drop (k+1))=R at *
  generalize tks (l.drop (k+1))=K at *
  generalize l[k]=x at *
  have hrg:=hok.rng
  by_cases hq:x.tab.length=0
  ·have hgp:=hok.gap hq
   rw [cntR,if_pos hq] at h2
   rw [decide_eq_true hq] at hg
   obtain ⟨f,t,tab,adr,cap,lo,hi⟩:=x
   dsimp only [rnV,rnA,TabAt] at *
   obtain ⟨n,rfl⟩:∃ n:Nat,t=f+n:=⟨(t-f).toNat,by omega⟩
   obtain ⟨g,hgg⟩:∃ g:Nat,hi-lo+1=(g:Int):=⟨(hi-lo+1).toNat,by omega⟩
   rw [hgg,Int.toNat_natCast,show (f+(n:Int)-f).toNat=n by omega] at h2
   rw [show (f+(n:Int)-f).toNat=n by omega] at h3
   have hnx:f+(n:Int)-f=(n:Int):=by omega
   have hgs:=nB_small (n:=g) (by omega)
   have hnf:=fun w'=>number_fn g w' (by omega)
   all_goals (refine go ?_;and_intros<;>(try exact trivial)<;>repeat (first|refine fun (Bk:Nat)=>?_|intro h))
   repeat' ((first|(apply G.cV (g:=24);rfl;rfl;exact fun w' _=>hg w'))<;>(refine go ?_;and_intros<;>(try exact trivial)<;>repeat (first|refine fun (Bk:Nat)=>?_|intro h)))
   rw [hnx]
   refine J.loop (c:=_) ((0,v):Nat×Nat) (fun s=>n-s.1) (fun s=>[(6,.func (.func 22) #[] #[]),(39,.slice (some ⟨ba,oa,none⟩) l.length c),(40,.int .i64 l.length),(7,.string (bs (nB s.2))),(9,.pointer (some ⟨_,0,none⟩)),(41,.int .i64 k),(51,.int .i64 n),(52,.int .i64 s.1)]) (fun s=>[.blk _ 50 [.int .i64 f,.int .i64 (f+n),.slice adr tab.length cap,.int .i64 lo,.int .i64 hi] 5]) (fun s=>s.1≤n∧s.2*g ^ (n-s.1)*R=T∧(nB s.2).length+2*(n-s.1)+2*K≤802) ?_ sbT sbL ?_
   ·exact ⟨Nat.zero_le _,by dsimp only;rw [Nat.sub_zero,Nat.mul_assoc];exact h2,by dsimp only;omega⟩
   clear h2 h3
   intro ⟨j,v⟩ ⟨j1,j2,j3⟩ ih2
   dsimp only at j1 j2 j3 ⊢
   by_cases hj:j < n
   ·have hml:=fun w'=>mul_v (x:=v) (y:=g) (by omega) (by omega) w'
    have hlen:=nB_mul (Nat.le_refl (nB v).length) hgs
    rw [show n-j=(n-(j+1))+1 by omega,pow_step] at j2
    have ih3:=ih2 (j+1,v*g) ⟨hj,j2,by dsimp only;omega⟩ (by dsimp only;omega)
    clear ih2 ihN hlen
    dsimp only at ih3
    rw [← hgg] at hnf
    generalize nB (v*g)=B2 at *
    generalize nB v=B1 at *
    generalize nB g=B3 at *
    all_goals (refine go ?_;and_intros<;>(try exact trivial)<;>repeat (first|refine fun (Bk:Nat)=>?_|intro h))
    repeat' ((first|(apply G.cF0 (g:=22);rfl;rfl;rfl;exact fun w' _=>hnf w')|(apply G.cV (g:=25);rfl;rfl;exact fun w' _=>hml w'))<;>(refine go ?_;and_intros<;>(try exact trivial)<;>repeat (first|refine fun (Bk:Nat)=>?_|intro h)))
    exact J.fin ih3
   ·obtain rfl:j=n:=by omega
    rw [Nat.sub_self,Nat.pow_zero,Nat.mul_one] at j2
    have ih3:=ihN v j2 (by omega)
    clear ih2 ihN
    all_goals (refine go ?_;and_intros<;>(try exact trivial)<;>repeat (first|refine fun (Bk:Nat)=>?_|intro h))
    refine J.loop (c:=_) (0:Nat) (fun s=>0) (fun s=>[(6,.func (.func 22) #[] #[]),(39,.slice (some ⟨ba,oa,none⟩) l.length c),(40,.int .i64 l.length),(7,.string (bs (nB v))),(10,.int .i64 0),(41,.int .i64 k),(66,.slice adr tab.length cap),(67,.int .i64 tab.length),(68,.int .i64 0)]) (fun s=>[]) (fun s=>True) ?_ sbT sbL ?_
    ·exact trivial
    intro _ _ _
    all_goals (refine go ?_;and_intros<;>(try exact trivial)<;>repeat (first|refine fun (Bk:Nat)=>?_|intro h))
    exact J.fin ih3
  ·obtain ⟨u1,_,u3,_,_⟩:=oneE_tab hok.2 hq
   rw [cntR,if_neg hq] at h2
   rw [decide_eq_false hq] at hg
   obtain ⟨f,t,tab,adr,cap,lo,hi⟩:=x
   dsimp only [rnV,rnA,TabAt] at *
   obtain ⟨n,rfl⟩:∃ n:Nat,t=f+n:=⟨(t-f).toNat,by omega⟩
   rw [show (f+(n:Int)-f).toNat=n by omega] at h3
   rw [show f+(n:Int)-f=(n:Int) by omega] at u3
   all_goals (refine go ?_;and_intros<;>(try exact trivial)<;>repeat (first|refine fun (Bk:Nat)=>?_|intro h))
   repeat' ((first|(apply G.cV (g:=24);rfl;rfl;exact fun w' _=>hg w'))<;>(refine go ?_;and_intros<;>(try exact trivial)<;>repeat (first|refine fun (Bk:Nat)=>?_|intro h)))
   clear hr hg hrg hok
   refine J.loop (c:=_) ((0,0,v):Nat×Nat×Nat) (fun s=>tab.length-s.1) (fun s=>[(6,.func (.func 22) #[] #[]),(39,.slice (some ⟨ba,oa,none⟩) l.length c),(40,.int .i64 l.length),(7,.string (bs (nB s.2.2))),(10,.int .i64 s.2.1),(41,.int .i64 k),(66,.slice adr tab.length cap),(67,.int .i64 tab.length),(68,.int .i64 s.1)]) (fun s=>[]) (fun s=>s.1≤tab.length∧s.2.2*mnl s.2.1 (tab.drop s.1)*R=T∧(s.2.1:Int)+sumT (tab.drop s.1)=n∧(nB s.2.2).length+2*(n-s.2.1)+2*K≤802∧s.2.1≤n) ?_ sbT sbL ?_
   ·exact ⟨Nat.zero_le _,by dsimp only;rw [Nat.mul_assoc];exact h2,by dsimp only;rw [Int.natCast_zero,Int.zero_add];exact u3,by dsimp only;omega,Nat.zero_le _⟩
   have hn4:n≤401:=by omega
   clear h2 h3 u3
   intro ⟨i,m,v⟩ ⟨j1,j2,j3,j4,j5⟩ ih2
   dsimp only at j1 j2 j3 j4 j5 ⊢
   by_cases hi2:i < tab.length
   ·obtain ⟨bt,ot,rfl,hrt⟩:=SlAt.all htb (by omega)
    have hri:=hrt i hi2
    have hci:=(u1 _ (List.getElem_mem hi2)).2
    rw [List.drop_eq_getElem_cons hi2] at j2 j3
    have hsn:=sumT_nn _ fun x hx=>(u1 x (List.mem_of_mem_drop (i:=i+1) hx)).2.1
    rw [sumT] at j3
    have ih3:=fun m' v' e1 e2 e3 e4=>ih2 (i+1,m',v') ⟨hi2,e1,e2,e3,e4⟩ (by dsimp only;omega)
    dsimp only at ih3
    clear hrt ih2 u1 ihN
    generalize tab.drop (i+1)=D at *
    generalize tab[i]=z at *
    obtain ⟨zs,zc⟩:=z
    dsimp only [hoV] at *
    obtain ⟨cc,rfl⟩:∃ cc:Nat,zc=cc:=⟨zc.toNat,by omega⟩
    rw [mnl,Int.toNat_natCast,← Nat.mul_assoc] at j2
    all_goals (refine go ?_;and_intros<;>(try exact trivial)<;>repeat (first|refine fun (Bk:Nat)=>?_|intro h))
    refine J.loop (c:=_) ((0,v):Nat×Nat) (fun s=>cc-s.1) (fun s=>[(6,.func (.func 22) #[] #[]),(39,.slice (some ⟨ba,oa,none⟩) l.length c),(40,.int .i64 l.length),(7,.string (bs (nB s.2))),(10,.int .i64 ((m+s.1:Nat):Int)),(12,.pointer (some ⟨_,0,none⟩)),(13,.int .i64 ((s.1:Int)+1)),(41,.int .i64 k),(66,.slice (some ⟨bt,ot,none⟩) tab.length cap),(67,.int .i64 tab.length),(68,.int .i64 i)]) (fun s=>[.blk _ 47 [.int .i64 zs,.int .i64 cc] 2]) (fun s=>s.1≤cc∧s.2=v*chs m s.1∧(nB s.2).length+2*(n-(m+s.1))+2*K≤802) ?_ sbT sbL ?_
    ·exact ⟨Nat.zero_le _,by dsimp only;rw [chs_zero,Nat.mul_one],j4⟩
    clear j4
    intro ⟨j,v2⟩ ⟨q1,q2,q3⟩ ih4
    dsimp only at q1 q2 q3 ⊢
    by_cases hj:j < cc
    ·have hsm:=nB_small (n:=m+j+1) (by omega)
     have hs2:=nB_small (n:=j+1) (by omega)
     have hlen:=nB_mul (Nat.le_refl (nB v2).length) hsm
     have hml:=fun w'=>mul_v (x:=v2) (y:=m+j+1) (by omega) (by omega) w'
     have hdv:=fun w'=>div_v (x:=v2*(m+j+1)) (y:=j+1) (by omega) (by omega) (by omega) w'
     have hn1:∀ w',Calls Tryd.prog 22 #[.int .i64 (((m+j:Nat):Int)+1)] w' fun e w2=>e=.returned (.string (bs (nB (m+j+1))))∧Below w'.heap.size w' w2:=fun w'=>by
      have h:=number_fn (m+j+1) w' (by omega)
      rwa [show ((m+j+1:Nat):Int)=((m+j:Nat):Int)+1 by omega] at h
     have hn2:∀ w',Calls Tryd.prog 22 #[.int .i64 ((j:Int)+1)] w' fun e w2=>e=.returned (.string (bs (nB (j+1))))∧Below w'.heap.size w' w2:=fun w'=>by
      have h:=number_fn (j+1) w' (by omega)
      rwa [show ((j+1:Nat):Int)=(j:Int)+1 by omega] at h
     have hlt:(nB (v2*(m+j+1) / (j+1))).length≤(nB v2).length+2:=Nat.le_trans (nB_len_le (Nat.div_le_self _ _)) hlen
     have heq:v2*(m+j+1) / (j+1)=v*chs m (j+1):=by rw [q2,chs_mul]
     have ih5:=ih4 (j+1,v2*(m+j+1) / (j+1)) ⟨hj,heq,by dsimp only;omega⟩ (by dsimp only;omega)
     dsimp only at ih5
     rw [show ((m+(j+1):Nat):Int)=((m+j:Nat):Int)+1 by omega,show ((j+1:Nat):Int)+1=(j:Int)+1+1 by omega] at ih5
     clear ih4 ih3 hlen hlt heq q2 hsm hs2 j2
     generalize nB (v2*(m+j+1) / (j+1))=B1 at *
     generalize nB (v2*(m+j+1) % (j+1))=B2 at *
     generalize nB (v2*(m+j+1))=B3 at *
     generalize nB (m+j+1)=B4 at *
     generalize nB (j+1)=B5 at *
     generalize nB v2=B6 at *
     all_goals (refine go ?_;and_intros<;>(try exact trivial)<;>repeat (first|refine fun (Bk:Nat)=>?_|intro h))
     repeat' ((first|(apply G.cF0 (g:=22) (vs:=[.int .i64 (((m+j:Nat):Int)+1)]);rfl;rfl;rfl;exact fun w' _=>hn1 w')|(apply G.cF0 (g:=22) (vs:=[.int .i64 ((j:Int)+1)]);rfl;rfl;rfl;exact fun w' _=>hn2 w')|(apply G.cV (g:=25);rfl;rfl;exact fun w' _=>hml w')|(apply G.cV (g:=26);rfl;rfl;exact fun w' _=>hdv w'))<;>(refine go ?_;and_intros<;>(try exact trivial)<;>repeat (first|refine fun (Bk:Nat)=>?_|intro h)))
     exact J.fin ih5
    ·obtain rfl:j=cc:=by omega
     subst q2
     have ih5:=ih3 (m+j) _ j2 (by omega) q3 (by omega)
     clear ih4 ih3
     all_goals (refine go ?_;and_intros<;>(try exact trivial)<;>repeat (first|refine fun (Bk:Nat)=>?_|intro h))
     exact J.fin ih5
   ·rw [List.drop_eq_nil_of_le (by omega),mnl,Nat.mul_one] at j2
    have ih3:=ihN v j2 (by omega)
    clear ih2 ihN
    all_goals (refine go ?_;and_intros<;>(try exact trivial)<;>repeat (first|refine fun (Bk:Nat)=>?_|intro h))
    exact J.fin ih3
 ·rw [List.drop_eq_nil_of_le (by omega),cntL,Nat.mul_one] at h2
  subst h2
  clear ih
  all_goals (refine go ?_;and_intros<;>(try exact trivial)<;>repeat (first|refine fun (Bk:Nat)=>?_|intro h))
  all_goals refine ret2b Tryd.func7 Tryd.results7 ?_
  all_goals rfl
end Go.Proofs.YtcdgibkbbcekhaaDoor
/-
 Stores of structs in regions that fork.
-/
namespace Go.Sl
open Go.RowKit
variable {C:Ctx}{st:List (Nat×Value)}{M:List Row}{k:List Item}{q q':Md}{all rest:List Oper}{d:Nat}{ty:TypeId}{pos:String}{after:Array Edge}{gd:Option (Nat×Bool)}
theorem G.sGS {T n:TypeId}{x y:Operand}{vs:List Value}{b j tot:Nat}{e:TypeId}{cs out:List Value}{F:Row→List Row}{M0:List Row} (hg:wnB all st gd=true) (hq:q.sto=some (M0,q'))
  (hx:evS st x=some (.pointer (some ⟨b,j,none⟩))) (hy:evS st y=some (.agg vs.toArray)) (hm:RAt (.blk b e cs tot) M F) [hT:TSize C.P T n] (hn:vs.length=n) (h1:vs.all (·.oneCell')=true) (hj:j+vs.length≤cs.length) (ho:setL cs j vs=out)
  (hsub:M0.Sublist (F (.blk b e out tot))) (h:G q' C all st (F (.blk b e out tot)) rest k) :
  G q C all st M ({ dst:=none,op:=.store T x y,type:=ty,pos,after,guard:=gd }::rest) k:=by
 obtain ⟨i,h5,h6⟩:=hm.idx
 rw [← h6] at h hsub
 exact G.storeS (vs:=vs) hg hq hx h5 hy rfl h1 ho hj hn hsub h
end Go.Sl
/-
 Ranges over functions whose captured cells change: they are lost.
-/
namespace Go.Sl
open Go.RowKit
variable {C:Ctx}{st:List (Nat×Value)}{M:List Row}{k:List Item}{q q':Md}{all rest:List Oper}{d:Nat}{ty:TypeId}{pos:String}{after:Array Edge}{gd:Option (Nat×Bool)}
def IterD (P:Program) (w0:World) (K:List Row) (f:FuncId) (cap:Array Value) {E:Type} (enc:E→List Value) (es:List E):Prop :=
 ∀ {X:Type} (Rs:X→List Row) (Inv:Nat→X→Prop) (Out:X→Prop) (fY:Fn) (cY:Array Value),
  (∀ i x e,Inv i x→es[i]?=some e→∀ M' w,Sat w0 (Rs x++M') w→CallsV P (.func fY #[] cY) (enc e) w fun v w'=>∃ x',Sat w0 (Rs x'++M') w'∧(v=.bool true∧Inv (i+1) x'∨v=.bool false∧Out x')) →
  ∀ x0,Inv 0 x0→∀ M1 w,Sat w0 (K++(Rs x0++M1)) w →
   Calls P f (#[.func fY #[] cY]++cap) w fun e w'=>e=.returned (.tuple #[])∧∃ x',Sat w0 (Rs x'++M1) w'∧(Inv es.length x'∨Out x')
theorem J.rangeD1 {f:FuncId} [hF:Fun C.P f] {cap:Array Value}{g:Operand}{p1:Tmp}{assign body:Code}{E:Type}{e1:E→Value}{es:List E}{K:List Row}{X:Type} (Rs:X→List Row) (Inv:Nat→X→Prop) (Out:Code→X→Prop) (x0:X) (M1:List Row)
  (hIt:IterD C.P C.w0 K f cap (fun e=>[e1 e]) es) (hb:C.b.roundOf=none) (hg:evS st g=some (.func (.func f) #[] cap)) (hp1:Nat.blt p1 C.N=true) (hM:M.Perm (K++(Rs x0++M1))) (hI:Inv 0 x0)
  (hround:∀ i x e,Inv i x→es[i]?=some e→∀ L (r:Loop) M',r.state=.ready→r.pending=none →
   J (rctx C.P L C.b.fn C.N (RoundR C.w0 L r Rs M' (Inv (i+1)) Out) C.w0) ((p1,e1 e)::st) (.obj L (.loop r)::Rs x++M') [.code assign,.beginRound,.code body])
  (h1:∀ Bd x,Inv es.length x→J { C with D:=mark Bd::C.D } st (.obj Bd (.deferred (some []))::(Rs x++M1)) k)
  (h2:∀ Bd x c,Out c x→J { C with D:=mark Bd::C.D } st (.obj Bd (.deferred (some []))::(Rs x++M1)) (.code c::k)) :
  J C st M (.code (.rangeFunc g #[p1] assign body)::k):=by
 refine J.perm hM (J.range (f:=f) (cap:=cap) (X:={ x:X×Option Code // match x.2 with|none=>Inv es.length x.1|some c=>Out c x.1 }) (fun x=>Rs x.1.1++M1) (fun x=>x.1.2) (fun x=>loopSt x.1.2) hb hg (fun x=>by rcases x with ⟨⟨_,_|_⟩,_⟩<;>simp [loopSt]) ?_ fun Bd x=>?_)
 ·intro tmps Bd L w r hr hfit hw
  have hrs:r.state=.ready:=by rw [hr]
  have hrp:r.pending=none:=by rw [hr]
  have hperm:∀ (o:Obj) x,(Row.obj L o::.obj Bd (.deferred (some []))::(K++(Rs x++M1))).Perm (K++((.obj L o::Rs x)++(.obj Bd (.deferred (some []))::M1))):=fun o x =>
   perm_cat [[Row.obj L o],[.obj Bd (.deferred (some []))],K,Rs x,M1] [0,1,2,3,4] [2,0,3,1,4] rfl
  have hperm2:∀ (o:Obj) x,(Row.obj L o::.obj Bd (.deferred (some []))::(Rs x++M1)).Perm ((.obj L o::Rs x)++(.obj Bd (.deferred (some []))::M1)):=fun o x =>
   perm_cat [[Row.obj L o],[.obj Bd (.deferred (some []))],Rs x,M1] [0,1,2,3] [0,2,1,3] rfl
  have hmain:=hIt (X:=X×Option Code) (fun x=>Row.obj L (.loop (loopAt r x.2))::Rs x.1) (fun i x=>x.2=none∧Inv i x.1) (fun x=>∃ c,x.2=some c∧Out c x.1) (.yield L) #[] ?_ (x0,none) ⟨rfl,hI⟩ (.obj Bd (.deferred (some []))::M1) w (hw.perm (hperm _ x0))
  ·refine hmain.mono fun e w2 ⟨q1,⟨x,o⟩,q2,q3⟩=>?_
   have key:Sat C.w0 (.obj L (.loop { r with state:=loopSt o,pending:=o })::.obj Bd (.deferred (some []))::(Rs x++M1)) w2:=by
    have h3:=q2.perm (hperm2 _ x).symm
    cases o with
    | none =>
     have hrr:({ r with state:=.ready,pending:=none }:Loop)=r:=by rw [hr]
     show Sat C.w0 (.obj L (.loop { r with state:=.ready,pending:=none })::_) w2
     rw [hrr];exact h3
    | some c=>exact h3
   rcases q3 with ⟨q4,q5⟩|⟨c,q4,q5⟩
   ·dsimp only at q4;subst q4
    exact ⟨_,⟨(x,none),q5⟩,q1,key⟩
   ·dsimp only at q4;subst q4
    exact ⟨_,⟨(x,some c),q5⟩,q1,key⟩
  ·rintro i ⟨x,o⟩ e ⟨h3,h4⟩ h5 M' w1 hw1
   dsimp only at h3 h4 hw1;subst h3
   have h6:=hround i x e h4 h5 L r M' hrs hrp
   refine .yield L r rfl (hw1.hold _ (.head _)) (by rw [hr];rfl) ?_
   have hf6:=hfit.put hp1 (e1 e)
   have e3:(r.params.zip [e1 e].toArray).foldl (fun tmps (t,a)=>tmps.setIfInBounds t a) r.tmps=(({ tmps:=tmps,defers:=[] }:Act).put (some p1) (e1 e)).tmps:=by
    have e0:((#[p1]:Array Tmp).zip [e1 e].toArray)=#[(p1,e1 e)]:=by simp
    rw [hr];dsimp only;rw [e0];simp [Act.put]
   rw [e3,show r.fn=C.b.fn by rw [hr],show r.assign=assign by rw [hr],show r.body=body by rw [hr]]
   have h7:=rounds_of hf6 hw1 h6
   intro c cs
   obtain ⟨v,w',⟨x',h8⟩,h9⟩:=h7 c cs
   refine ⟨v,w',?_,h9⟩
   rcases h8 with ⟨g1,g2,g3⟩|⟨cc,g1,g2,g3⟩
   ·exact ⟨(x',none),g3,.inl ⟨g1,rfl,g2⟩⟩
   ·exact ⟨(x',some cc),g3,.inr ⟨g1,cc,rfl,g2⟩⟩
 ·rcases x with ⟨⟨x,_|c⟩,hx⟩
  ·exact h1 Bd x hx
  ·exact h2 Bd x c hx
end Go.Sl
/-
 Stores of structs in regions that fork;a cut (as right/PD has them).
-/
namespace Go.Sl
open Go.RowKit
variable {C:Ctx}{st:List (Nat×Value)}{M:List Row}{k:List Item}{q q':Md}{all rest:List Oper}{d:Nat}{ty:TypeId}{pos:String}{after:Array Edge}{gd:Option (Nat×Bool)}
theorem J.cutC {k2:List Item}{X:Type} (stF:X→List (Nat×Value)) (MF:X→List Row) (h:(∀ x,J C (stF x) (MF x) k2)→J C st M k) (hk:∀ x,J C (stF x) (MF x) k2):J C st M k:=h hk
theorem G.sCS {T n:TypeId}{x y:Operand}{vs:List Value}{b j tot:Nat}{e:TypeId}{cs out:List Value}{F:Row→List Row}{M0:List Row} (hg:wnB all st gd=true) (hq:q.sto=some (M0,q'))
  (hx:evS st x=some (.pointer (some ⟨b,j,none⟩))) (hy:evS st y=some (.agg vs.toArray)) (hm:RAt (.blk b e cs tot) M F) [hT:TSize C.P T n] (hn:vs.length=n) (h1:vs.all (·.oneCell')=true) (hj:j+vs.length≤cs.length) (ho:setL cs j vs=out)
  (hsub:M0.Sublist (F (.blk b e out tot))) (h:G q' C all st (F (.blk b e out tot)) rest k) :
  G q C all st M ({ dst:=none,op:=.store T x y,type:=ty,pos,after,guard:=gd }::rest) k:=by
 obtain ⟨i,h5,h6⟩:=hm.idx
 rw [← h6] at h hsub
 exact G.storeS (vs:=vs) hg hq hx h5 hy rfl h1 ho hj hn hsub h
theorem G.sCO {i:Nat}{p:Pt}{T n:TypeId}{x y:Operand}{vs:List Value}{b j tot:Nat}{e:TypeId}{cs out:List Value}{F:Row→List Row}{M0:List Row} (hg:wnB all st gd=true)
  (hx:evS st x=some (.pointer (some ⟨b,j,none⟩))) (hy:evS st y=some (.agg vs.toArray)) (hm:RAt (.blk b e cs tot) M F) [hT:TSize C.P T n] (hn:vs.length=n) (h1:vs.all (·.oneCell')=true) (hj:j+vs.length≤cs.length) (ho:setL cs j vs=out)
  (hsub:M0.Sublist (F (.blk b e out tot))) (h:G (.anys M0 p) C all st (F (.blk b e out tot)) rest k) :
  G (.ones M0 i p) C all st M ({ dst:=none,op:=.store T x y,type:=ty,pos,after,guard:=gd }::rest) k:=by
 obtain ⟨i,h5,h6⟩:=hm.idx
 rw [← h6] at h hsub
 subst ho
 refine G.oneS hg (Eff.unit fun a w hf hw=>?_)
 obtain ⟨w',h2,h3⟩:=hw.setRow h5 hj (fun v hv=>List.all_eq_true.1 h1 v hv) C.P
 refine ⟨w',_,?_,h3,hsub,h⟩
 have hvs:(Value.agg vs.toArray).cells=vs.toArray:=rfl
 simp [execOp,hf.eval hx,hf.eval hy,Instr.storeAt,Instr.sureAddr,storeVar,hT.h,hvs,hn,h2]
end Go.Sl
