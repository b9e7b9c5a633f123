/-
  Plain laws: histories that agree with runs, and what an exchange of stages changes.
-/
import Derived.Test.YtcdgibkbbcekhaaDoorRD5
set_option linter.unusedVariables false
set_option linter.unusedSimpArgs false
set_option linter.unusedSectionVars false
namespace Go.Proofs.YtcdgibkbbcekhaaDoor
open Go.RowKit Go.Sl Go.Num
def segL (S:List Int) (p n:Nat):List Int:=(S.drop p).take n
theorem segL_len {S:List Int}{p n:Nat} (h:p+n≤S.length):(segL S p n).length=n:=by rw [segL,List.length_take,List.length_drop];omega
theorem segL_get {S:List Int}{p n i:Nat} (h:p+n≤S.length) (hi:i < n):(segL S p n)[i]'(by rw [segL_len h];exact hi)=S[p+i]'(by omega):=by
 simp [segL]
theorem segL_out {S:List Int}{p n x:Nat}{v:Int} (h:x < p∨p+n≤x):segL (S.set x v) p n=segL S p n:=by
 rw [segL,List.drop_set]
 split
 ·rfl
 ·rw [List.take_set,List.set_eq_of_length_le]
  ·rfl
  ·rw [List.length_take];omega
theorem segL_in {S:List Int}{p n x:Nat}{v:Int} (h:p≤x):segL (S.set x v) p n=(segL S p n).set (x-p) v:=by
 rw [segL,List.drop_set,if_neg (by omega),List.take_set];rfl
theorem nIn_perm {x:Int}{a b:List Int} (h:a.Perm b):nIn x a=nIn x b:=by
 induction h with
 | nil=>rfl
 | cons y _ ih=>rw [nIn,nIn,ih]
 | swap y z l=>rw [nIn,nIn,nIn,nIn];omega
 | trans _ _ h1 h2=>exact h1.trans h2
theorem nIn_app (x:Int):∀ a b:List Int,nIn x (a++b)=nIn x a+nIn x b
 | [],b=>by rw [List.nil_append,nIn,Int.zero_add]
 | y::a,b=>by rw [List.cons_append,nIn,nIn,nIn_app x a b,Int.add_assoc]
theorem nIn_rep (x y:Int):∀ n:Nat,nIn x (List.replicate n y)=if y=x then (n:Int) else 0
 | 0=>by simp [nIn]
 | n+1=>by
  rw [List.replicate_succ,nIn,nIn_rep x y n]
  split<;>omega
theorem nIn_pos {x:Int}:∀ {l:List Int},0 < nIn x l ↔ x∈l
 | []=>by simp [nIn]
 | y::l=>by
  have h1:=nIn_bd x l
  have h2:=nIn_pos (x:=x) (l:=l)
  rw [nIn,List.mem_cons,← h2]
  by_cases h:y=x
  ·rw [if_pos h];exact ⟨fun _=>.inl h.symm,fun _=>by omega⟩
  ·rw [if_neg h];exact ⟨fun h3=>.inr (by omega),fun h3=>h3.elim (fun h4=>absurd h4.symm h) fun h4=>by omega⟩
theorem cnt_low:∀ (t:List (Int×Int)) (q:Int×Int) {x:Int},sortedT (some q) t=true→x≤q.1→cnt x t=0
 | [],_,_,_,_=>rfl
 | p::t,q,x,h,hx=>by
  rw [sortedT,Bool.and_eq_true,decide_eq_true_eq] at h
  obtain ⟨y,n⟩:=p
  rw [cnt,if_neg (by have:=h.1;dsimp only at this;omega)]
  exact cnt_low t (y,n) h.2 (by have:=h.1;dsimp only at this ⊢;omega)
theorem cnt_fillT:∀ (t:List (Int×Int)) (q:Int×Int) (L:List (Int×Int)),sortedT (some q) t=true→(∀ x,q.1 < x→cnt x L=0)→∀ x,cnt x (fillC L t)=if x≤q.1 then cnt x L else cnt x t
 | [],q,L,_,h,x=>by
  rw [fillC]
  split
  ·rfl
  ·exact h x (by omega)
 | (y,n)::t,q,L,hs,h,x=>by
  rw [sortedT,Bool.and_eq_true,decide_eq_true_eq] at hs
  have hy:=hs.1
  dsimp only at hy
  rw [fillC,cnt_fillT t (y,n) (setC y n L) hs.2 (fun z hz=>by dsimp only at hz;rw [cnt_setC,if_neg (by omega)];exact h z (by omega)) x,cnt_setC]
  dsimp only
  by_cases h1:x≤q.1
  ·rw [if_pos (by omega),if_neg (by omega),if_pos h1]
  ·rw [if_neg h1,cnt]
   by_cases h2:x=y
   ·rw [if_pos (by omega),if_pos h2,if_pos h2]
   ·rw [if_neg h2,if_neg h2]
    split
    ·rw [h x (by omega),cnt_low t (y,n) hs.2 (by dsimp only;omega)]
    ·rfl
theorem cnt_fill0 {t:List (Int×Int)} (hs:sortedT none t=true) (x:Int):cnt x (fillC [] t)=cnt x t:=by
 cases t with
 | nil=>rfl
 | cons p t =>
  obtain ⟨y,n⟩:=p
  rw [sortedT,Bool.and_eq_true] at hs
  rw [fillC,cnt_fillT t (y,n) (setC y n []) hs.2 (fun z hz=>by dsimp only at hz;rw [cnt_setC,if_neg (by omega)];rfl) x,cnt_setC]
  rw [show cnt x ((y,n)::t)=if x=y then n else cnt x t from rfl]
  dsimp only
  by_cases h2:x=y
  ·rw [if_pos (by omega),if_pos h2,if_pos h2]
  ·rw [if_neg h2,if_neg h2]
   split
   ·rw [cnt_low t (y,n) hs.2 (by dsimp only;omega)];rfl
   ·rfl
theorem nIn_tabS:∀ (t:List (Int×Int)) (q:Option (Int×Int)),sortedT q t=true→(∀ p∈t,1≤p.2)→∀ x,nIn x (tabS t)=cnt x t
 | [],_,_,_,_=>rfl
 | (y,n)::t,q,hs,hp,x=>by
  have h2:sortedT (some (y,n)) t=true:=by unfold sortedT at hs;rw [Bool.and_eq_true] at hs;exact hs.2
  have h3:=hp _ (List.mem_cons_self ..)
  have ih:=nIn_tabS t (some (y,n)) h2 (fun p h=>hp p (List.mem_cons_of_mem _ h)) x
  dsimp only at h3
  show nIn x (List.replicate n.toNat y++tabS t)=_
  rw [nIn_app,nIn_rep,ih,cnt]
  by_cases h:x=y
  ·rw [if_pos h.symm,if_pos h,cnt_low t (y,n) h2 (by dsimp only;omega)];omega
  ·rw [if_neg (fun e=>h e.symm),if_neg h,Int.zero_add]
def AgrP (r:Rn) (seg:List Int):Prop:=if r.tab.length=0 then (seg.length=(r.to_-r.from_).toNat∧∀ x∈seg,x=r.lo∨x=r.hi) else seg.Perm (tabS r.tab)
def AgrA (f:Int) (S:List Int) (rs:List Rn):Prop:=∀ k (hk:k < rs.length),AgrP rs[k] (segL S (rs[k].from_-f).toNat (rs[k].to_-rs[k].from_).toNat)
theorem chn_lt:∀ {L:List Rn}{f:Int},Chn f L→(∀ r∈L,inT r=true)→∀ i j (hij:i < j) (hj:j < L.length),f≤(L[i]'(by omega)).from_∧(L[i]'(by omega)).to_≤L[j].from_
 | r::t,f,h,h1,i,j,hij,hj=>by
  have h2:=h1 r (List.mem_cons_self ..)
  rw [inT,decide_eq_true_eq] at h2
  have h3:=h.1
  have hlow:∀ {M:List Rn}{g:Int},Chn g M→(∀ r∈M,inT r=true)→∀ k (hk:k < M.length),g≤M[k].from_:=fun {M}=>by
   induction M with
   | nil=>intro g _ _ k hk;exact absurd hk (Nat.not_lt_zero _)
   | cons x M ih =>
    intro g hg hM k hk
    have h5:=hM x (List.mem_cons_self ..)
    rw [inT,decide_eq_true_eq] at h5
    have h6:=hg.1
    cases k with
    | zero=>show g≤x.from_;omega
    | succ k =>
     have:=ih hg.2 (fun y hy=>hM y (List.mem_cons_of_mem _ hy)) k (by simpa using hk)
     simp only [List.getElem_cons_succ]
     omega
  cases j with
  | zero=>omega
  | succ j =>
   cases i with
   | zero =>
    have:=hlow h.2 (fun y hy=>h1 y (List.mem_cons_of_mem _ hy)) j (by simpa using hj)
    exact ⟨by show f≤r.from_;omega,this⟩
   | succ i =>
    have:=chn_lt h.2 (fun y hy=>h1 y (List.mem_cons_of_mem _ hy)) i j (by omega) (by simpa using hj)
    simp only [List.getElem_cons_succ]
    exact ⟨by omega,this.2⟩
def AgrS:Int→List Int→List Rn→Prop
 | _,S,[]=>S=[]
 | f,S,r::t=>∃ n:Nat,r.from_=f∧r.to_=f+n∧n≤S.length∧AgrP r (S.take n)∧AgrS (f+n) (S.drop n) t
theorem AgrA.step {f0:Int}{S0:List Int}:∀ {rs:List Rn}{d:Nat},Chn (f0+d) rs→(∀ r∈rs,inT r=true)→(∀ r∈rs,oneE r=0)→S0.length=d+(firstS rs).length→(∀ k (hk:k < rs.length),AgrP rs[k] (segL S0 (rs[k].from_-f0).toNat (rs[k].to_-rs[k].from_).toNat))→AgrS (f0+d) (S0.drop d) rs
 | [],d,_,_,_,hl,_=>by
  rw [firstS,List.length_nil] at hl
  exact List.drop_eq_nil_of_le (by omega)
 | r::t,d,hc,hT,hO,hl,h=>by
  have h1:=hT r (List.mem_cons_self ..)
  have h2:=stagesR_len h1 (hO r (List.mem_cons_self ..))
  rw [inT,decide_eq_true_eq] at h1
  have h3:=hc.1
  rw [firstS,List.length_append] at hl
  have h4:=h 0 (Nat.zero_lt_succ _)
  simp only [List.getElem_cons_zero] at h4
  have h5:r.to_=f0+((d+(r.to_-r.from_).toNat:Nat):Int):=by omega
  have h6:=hc.2
  rw [h5] at h6
  have ih:=AgrA.step (rs:=t) (d:=d+(r.to_-r.from_).toNat) h6 (fun x hx=>hT x (List.mem_cons_of_mem _ hx)) (fun x hx=>hO x (List.mem_cons_of_mem _ hx)) (by omega) fun k hk=>h (k+1) (by simpa using hk)
  refine ⟨(r.to_-r.from_).toNat,h3,by omega,by rw [List.length_drop];omega,?_,?_⟩
  ·rw [show (r.from_-f0).toNat=d by omega] at h4;exact h4
  ·rw [List.drop_drop,show f0+d+(((r.to_-r.from_).toNat:Nat):Int)=f0+((d+(r.to_-r.from_).toNat:Nat):Int) by omega]
   exact ih
theorem AgrP.first {r:Rn}:AgrP r (stagesR r):=by
 rw [AgrP,stagesR]
 split
 ·exact ⟨List.length_replicate,fun x hx=>.inl (List.eq_of_mem_replicate hx)⟩
 ·exact List.Perm.refl _
theorem goC_gap {lo hi:Int}:∀ (seg:List Int) (C:List (Int×Int)),(∀ x∈seg,lo≤x∧x≤hi)→goC true lo hi C seg=true
 | [],_,_=>rfl
 | s::r,C,h=>by
  rw [goC,badC,if_pos rfl,decide_eq_true (h s (List.mem_cons_self ..)),Bool.not_true,Bool.not_false,Bool.true_and]
  exact goC_gap r _ fun x hx=>h x (List.mem_cons_of_mem _ hx)
theorem AgrP.agr1 {r:Rn}{seg:List Int} (h1:oneE r=0) (h:AgrP r seg):agr1 r seg=true:=by
 rw [AgrP] at h
 rw [Proofs.YtcdgibkbbcekhaaDoor.agr1]
 by_cases h0:r.tab.length=0
 ·have:=oneE_gap h1 h0
  rw [if_pos h0] at h
  rw [decide_eq_true h0]
  exact goC_gap seg _ fun x hx=>by rcases h.2 x hx with rfl|rfl<;>omega
 ·obtain ⟨t1,t2,t3,_⟩:=oneE_tab h1 h0
  rw [if_neg h0] at h
  rw [decide_eq_false h0]
  exact goC_ok seg _ fun x=>by rw [cnt_fill0 t2,nIn_perm h,nIn_tabS r.tab none t2 (fun p hp=>(t1 p hp).2.1)]
theorem AgrP.bd {r:Rn}{seg:List Int} (h1:oneE r=0) (h:AgrP r seg):∀ x∈seg,0≤x∧x≤1000:=by
 rw [AgrP] at h
 by_cases h0:r.tab.length=0
 ·have:=oneE_gap h1 h0
  rw [if_pos h0] at h
  intro x hx
  rcases h.2 x hx with rfl|rfl<;>omega
 ·rw [if_neg h0] at h
  have:=stagesR_bd h1
  rw [stagesR,if_neg h0] at this
  exact fun x hx=>this x (h.mem_iff.1 hx)
theorem AgrS.agrL {f0:Int}{S0:List Int}:∀ {rs:List Rn}{d:Nat},(∀ r∈rs,oneE r=0)→AgrS (f0+d) (S0.drop d) rs→agrL f0 S0 rs=true
 | [],_,_,_=>rfl
 | r::t,d,hO,⟨n,h1,h2,h3,h4,h5⟩=>by
  rw [Proofs.YtcdgibkbbcekhaaDoor.agrL,show (r.from_-f0).toNat=d by omega,show (r.to_-r.from_).toNat=n by omega,h4.agr1 (hO r (List.mem_cons_self ..)),Bool.true_and]
  rw [List.drop_drop,show f0+d+(n:Int)=f0+((d+n:Nat):Int) by omega] at h5
  exact AgrS.agrL (fun x hx=>hO x (List.mem_cons_of_mem _ hx)) h5
theorem AgrS.bd:∀ {rs:List Rn}{f:Int}{S:List Int},(∀ r∈rs,oneE r=0)→AgrS f S rs→∀ x∈S,0≤x∧x≤1000
 | [],_,S,_,h,x,hx=>by rw [show S=[] from h] at hx;cases hx
 | r::t,f,S,hO,⟨n,h1,h2,h3,h4,h5⟩,x,hx=>by
  rw [← List.take_append_drop n S] at hx
  rcases List.mem_append.1 hx with hx|hx
  ·exact h4.bd (hO r (List.mem_cons_self ..)) x hx
  ·exact AgrS.bd (fun x hx=>hO x (List.mem_cons_of_mem _ hx)) h5 x hx
section
variable {f:Int}{S:List Int}{rs:List Rn} (hc:Chn f rs) (hT:∀ r∈rs,inT r=true)
include hc hT
theorem AgrA.set {p:Nat}{v:Int}{k:Nat} (hk:k < rs.length) (h:AgrA f S rs) (hp1:(rs[k].from_-f).toNat≤p) (hp2:p < (rs[k].to_-f).toNat) (hn:AgrP rs[k] (segL (S.set p v) (rs[k].from_-f).toNat (rs[k].to_-rs[k].from_).toNat)):AgrA f (S.set p v) rs:=fun j hj=>by
 rcases Nat.lt_trichotomy j k with hlt|rfl|hlt
 ·have:=chn_lt hc hT j k hlt hk
  have hin:=hT _ (List.getElem_mem hj)
  rw [inT,decide_eq_true_eq] at hin
  rw [segL_out (by omega)];exact h j hj
 ·exact hn
 ·have:=chn_lt hc hT k j hlt hj
  have hin:=hT _ (List.getElem_mem hk)
  rw [inT,decide_eq_true_eq] at hin
  rw [segL_out (by omega)];exact h j hj
theorem AgrA.put {b n i:Nat}{v:Int}{k:Nat} (hk:k < rs.length) (hb:rs[k].from_=f+b) (hn:rs[k].to_=rs[k].from_+n) (hS:b+n≤S.length) (h:AgrA f S rs) (hi:i < n) (h0:rs[k].tab.length=0) (hv:v=rs[k].lo∨v=rs[k].hi):AgrA f (S.set (b+i) v) rs:=by
 refine AgrA.set hc hT hk h (by omega) (by omega) ?_
 have h1:=h k hk
 rw [AgrP,if_pos h0] at h1 ⊢
 rw [segL_in (by omega)]
 refine ⟨by rw [List.length_set];exact h1.1,fun x hx=>?_⟩
 rcases List.mem_or_eq_of_mem_set hx with hx|rfl
 ·exact h1.2 x hx
 ·exact hv
theorem AgrA.swap {b n i j:Nat}{k:Nat} (hk:k < rs.length) (hb:rs[k].from_=f+b) (hn:rs[k].to_=rs[k].from_+n) (hS:b+n≤S.length) (h:AgrA f S rs) (hi:i < n) (hj:j < n) (h0:rs[k].tab.length≠0):AgrA f ((S.set (b+i) (S[b+j]'(by omega))).set (b+j) (S[b+i]'(by omega))) rs:=fun z hz=>by
 rcases Nat.lt_trichotomy z k with hlt|rfl|hlt
 ·have:=chn_lt hc hT z k hlt hk
  have hin:=hT _ (List.getElem_mem hz)
  rw [inT,decide_eq_true_eq] at hin
  rw [segL_out (by omega),segL_out (by omega)];exact h z hz
 ·have h1:=h z hz
  rw [AgrP,if_neg h0] at h1 ⊢
  have e1:(rs[z].from_-f).toNat=b:=by omega
  have e2:(rs[z].to_-rs[z].from_).toNat=n:=by omega
  rw [e1,e2] at h1 ⊢
  rw [segL_in (by omega),segL_in (by omega),show b+i-b=i by omega,show b+j-b=j by omega,← segL_get hS hi,← segL_get hS hj]
  exact (swap_perm _ i j (by rw [segL_len hS];exact hi) (by rw [segL_len hS];exact hj)).trans h1
 ·have:=chn_lt hc hT k z hlt hz
  have hin:=hT _ (List.getElem_mem hk)
  rw [inT,decide_eq_true_eq] at hin
  rw [segL_out (by omega),segL_out (by omega)];exact h z hz
end
end Go.Proofs.YtcdgibkbbcekhaaDoor
/-
 Contracts: a value repeated,the place of a value,and the first history that agrees with runs.
-/
namespace Go.Proofs.YtcdgibkbbcekhaaDoor
open Go.RowKit Go.Sl Go.Num
theorem mul64_holds (n:Nat) (w:World) (hn:n < 4294967296) :
  Calls Tryd.prog 65 #[.int .u64 1,.int .u64 n] w fun e w'=>e=.returned (.tuple #[.int .u64 0,.int .u64 n])∧Below w.heap.size w w':=by
 refine enterA [(0,.int .u64 1),(1,.int .u64 n)] Tryd.func65 Tryd.ntmps65 ?_
 all_goals (refine go ?_;and_intros<;>(try exact trivial)<;>intros)
 repeat' ((first|(apply G.shrK (n:=32) (m:=0);rfl;rfl;rfl;exact shift32 _ (by omega) (by omega);rfl;rfl;rfl)|(apply G.andK;rfl;rfl;exact mask32 _ (by omega) (by omega);rfl;rfl;rfl))<;>(refine go ?_;and_intros<;>(try exact trivial)<;>intros))
 all_goals refine ret2b Tryd.func65 Tryd.results65 ?_
 all_goals (rw [show (1:Int)*(n:Int)=n by omega];rfl)
theorem bmul_holds (n:Nat) (w:World) (hn:n < 4294967296) :
  Calls Tryd.prog 51 #[.int .u64 1,.int .u64 n] w fun e w'=>e=.returned (.tuple #[.int .u64 0,.int .u64 n])∧Below w.heap.size w w':=by
 have hm:=fun w' (_:Below w.heap.size w w')=>mul64_holds n w' hn
 refine enterA [(0,.int .u64 1),(1,.int .u64 n)] Tryd.func51 Tryd.ntmps51 ?_
 all_goals (refine go ?_;and_intros<;>(try exact trivial)<;>intros)
 repeat' ((first|(refine G.cvb hm ?_))<;>(refine go ?_;and_intros<;>(try exact trivial)<;>intros))
 all_goals refine ret2b Tryd.func51 Tryd.results51 ?_
 all_goals rfl
theorem rep_copy (x:Value) (n N:Nat) (z:Value) (hn:n≤N):setL (List.replicate n x++List.replicate (N-n) z) n ((List.replicate n x++List.replicate (N-n) z).take n |>.take (min (N-n) n))=List.replicate (n+min (N-n) n) x++List.replicate (N-(n+min (N-n) n)) z:=by
 rw [List.take_left' List.length_replicate,List.take_replicate,setL_eq _ _ _ (by simp;omega),List.take_left' List.length_replicate,List.length_replicate,List.replicate_append_replicate]
 congr 1
 ·congr 1;omega
 ·rw [List.drop_append,List.drop_eq_nil_of_le (by simp),List.nil_append,List.length_replicate,List.drop_replicate];congr 1;omega
theorem rep_zero (N:Nat):flat (fun x:List Value=>x) (List.replicate N [Value.int .i64 0])=List.replicate N (.int .i64 0):=by
 induction N with
 | zero=>rfl
 | succ n ih=>rw [List.replicate_succ,List.replicate_succ,flat_cons,ih];rfl
theorem rep_first (x:Int) (N:Nat):setL (flat (fun x:List Value=>x) (List.replicate N [Value.int .i64 0])) 0 ((flat isV [x]).take (min N 1))=List.replicate (min N 1) (.int .i64 x)++List.replicate (N-min N 1) (.int .i64 0):=by
 rw [rep_zero]
 cases N with
 | zero=>rfl
 | succ n=>rw [show min (n+1) 1=1 by omega];rfl
set_option maxHeartbeats 4000000 in
theorem repeat_holds (q:Option Addr) (x:Int) (cq N:Nat) (w:World) (hA:SlAt w q 1 ([x].map isV)) (hN:N≤1402560) :
  Calls Tryd.prog 38 #[.slice q 1 cq,.int .i64 N] w fun e w'=>∃ a' c',e=.returned (.slice a' N c')∧SlAt w' a' 1 ((List.replicate N x).map isV)∧(∀ p,a'=some p→w.heap.size≤p.block)∧Below w.heap.size w w':=by
 have hm:=fun w' (_:Below w.heap.size w w')=>bmul_holds N w' (by omega)
 have hsrc:∀ {C:Ctx}{M:List Row},C.w0=w→SrcV C M q 1 1 (flat isV [x]):=fun e=>SrcV.old isV_len isV_one (by rw [e];exact hA)
 have hN2:∀ n:Nat,n≤N→min (N-n) n=N-n∨min (N-n) n=n:=fun n _=>by omega
 refine enterA [(0,.slice q 1 cq),(1,.int .i64 N)] Tryd.func38 Tryd.ntmps38 ?_
 all_goals (refine go ?_;and_intros<;>(try exact trivial)<;>intros)
 repeat' ((first|(refine G.cvb hm ?_)|(apply G.make (n:=N) [.int .i64 0];rfl;rfl;rfl;rfl;rfl;rfl;rfl;rfl;omega;omega;intro B)|(apply G.cpyM (r:=min N 1) (out:=List.replicate (min N 1) (.int .i64 x)++List.replicate (N-min N 1) (.int .i64 0));rfl;rfl;rfl;(repeat (first|exact RAt.head|apply RAt.tail));exact hsrc rfl;rfl;rw [rep_zero,List.length_replicate];omega;exact rep_first x N))<;>(refine go ?_;and_intros<;>(try exact trivial)<;>intros))
 refine J.loop (c:=_) (min N 1) (fun s=>N-s) (fun s=>[(7,.slice (some ⟨B,0,none⟩) N N),(8,.int .i64 s)]) (fun s=>[.blk B 3 (List.replicate s (.int .i64 x)++List.replicate (N-s) (.int .i64 0)) (N*1)]) (fun s=>s≤N∧(s=0→N=0)) ?_ sbT sbL ?_
 ·exact ⟨by omega,fun h=>by omega⟩
 intro n ⟨h1,h2⟩ ih
 by_cases hn:n < N
 ·have hrc:=rep_copy (.int .i64 x) n N (.int .i64 0) h1
  have h4:=hN2 n h1
  have hih:=fun r (hr:min (N-n) n=r) (hr2:n+r≤N∧0 < r)=>ih (n+r) ⟨hr2.1,fun h=>by omega⟩ (by omega)
  generalize hr:min (N-n) n=r at *
  have h3:n+r≤N∧0 < r:=by omega
  have hih:=hih r rfl h3
  have hall:(List.replicate n (Value.int .i64 x)++List.replicate (N-n) (Value.int .i64 0)).all (·.oneCell')=true:=by simp [Value.oneCell']
  have hlen:(List.replicate n (Value.int .i64 x)++List.replicate (N-n) (Value.int .i64 0)).length=N:=by rw [List.length_append,List.length_replicate,List.length_replicate];omega
  generalize List.replicate n (Value.int .i64 x)++List.replicate (N-n) (Value.int .i64 0)=cs at *
  clear ih hN2 hsrc
  all_goals (refine goR ?_;and_intros<;>(try exact trivial)<;>intros)
  repeat' ((first|(apply J.regA (.q 0 <| .q 1 <| .q 2 <| .q 3 <| .q 4 <| .q 5 <| .q 6 <| .r 7 <| .q 8 <| .q 9 <| .nil);exact Tryd.mixed;decide +kernel)|(apply G.slF (l:=n) (off:=n);rfl;rfl;rfl;omega;omega;(show 0+n*1=n);omega;rfl)|(apply G.slH (len:=n);rfl;rfl;rfl;omega;omega;rfl)|(apply G.cpyM (r:=r) (n:=N-n) (m:=n);rfl;rfl;rfl;(repeat (first|exact RAt.head|apply RAt.tail));exact SrcV.pre (by exact mm) (by rw [hlen];exact h1) hall;exact hr;rw [hlen];omega;exact hrc)|(apply J.regQ;exact Tryd.mixed;decide +kernel)|(apply J.regL';exact Tryd.mixed;decide +kernel))<;>(refine goR ?_;and_intros<;>(try exact trivial)<;>intros))
  exact J.fin hih
 ·obtain rfl:n=N:=by omega
  rw [Nat.sub_self,List.replicate_zero,List.append_nil,← isRep]
  clear ih
  all_goals (refine go ?_;and_intros<;>(try exact trivial)<;>intros)
  (refine ret1 Tryd.func38 Tryd.results38 ?_;intro w' hw)
  have hm:=blkSlA hw isV_len (l:=List.replicate n x)
  exact ⟨_,_,rfl,hm.1,fun p hp=>by cases hp;exact hm.2,hw.below⟩
theorem firstF_at {l:List Rn} (h:0 < l.length):firstF l=l[0].from_:=by
 cases l with
 | nil=>exact absurd h (Nat.lt_irrefl _)
 | cons r t=>rfl
theorem repeat_i (q:Option Addr) (x:Int) (cq N:Nat) (e:Int) (w:World) (he:e=(N:Int)) (hA:SlAt w q 1 ([x].map isV)) (hN:N≤1402560) :
  Calls Tryd.prog 38 #[.slice q 1 cq,.int .i64 e] w fun e w'=>∃ a' c',e=.returned (.slice a' N c')∧SlAt w' a' 1 ((List.replicate N x).map isV)∧(∀ p,a'=some p→w.heap.size≤p.block)∧Below w.heap.size w w':=by
 subst he;exact repeat_holds q x cq N w hA hN
set_option maxHeartbeats 4000000 in
theorem vFirst_holds (a:Option Addr) (rs:List Rn) (c:Nat) (w:World) (hA:RunsAt w a rs) (hfr:∀ r∈rs,r.tab.length≤64) (hE:runsErr rs=0) (hn:rs.length≤400) :
  Calls Tryd.prog 14 #[.slice a rs.length c] w (RetO Tryd.prog w 3 1 (firstS rs).length (flat isV (firstS rs)) (fun u=>.tuple #[.agg #[.int .i64 (firstF rs),u],.int .i64 0])):=by
 have hc:=fun w' (hb:Below w.heap.size w w')=>vRuns_holds a rs c w' (hA.below hb) hfr
 rw [hE] at hc
 have ⟨_,k5,_⟩:=runsErr_ok hE
 have k6:=runsErr_one hE
 have hsl:∀ {C:Ctx}{M:List Row}{a1:Option Addr}{x:Int}{N B:Nat},(0 < ((List.replicate N x).map isV).length→∃ b off,a1=some ⟨b,off,none⟩)→slRow B a1 1 ((List.replicate N x).map isV)∈M→SrcV C M a1 N 1 (flat isV (List.replicate N x)):=fun {C M a1 x N B} h1 h2=>by
  have:=SrcV.sl (C:=C) isV_len isV_one h1 h2
  rwa [List.length_replicate] at this
 rcases Nat.eq_zero_or_pos rs.length with h0|h0
 ·obtain rfl:=List.length_eq_zero_iff.1 h0
  refine enterA [(0,.slice a 0 c)] Tryd.func14 Tryd.ntmps14 ?_
  all_goals (refine go ?_;and_intros<;>(try exact trivial)<;>intros)
  repeat' ((first|(refine G.cvb hc ?_))<;>(refine go ?_;and_intros<;>(try exact trivial)<;>intros))
  apply J.nilOwn (E:=3) (size:=1)
  refine J.loop (c:=_) (0:Nat) (fun s=>0) (fun s=>[(2,.pointer (some ⟨_,0,none⟩)),(5,.pointer (some ⟨_,0,none⟩)),(24,.slice a 0 c),(25,.int .i64 0),(26,.int .i64 0)]) (fun s=>[.own 0 (.slice none 0 0) 3 1 0 [],.blk _ 24 [.int .i64 0,.slice none 0 0] 2,.blk _ 24 [.int .i64 0,.slice none 0 0] 2]) (fun s=>True) ?_ sbT sbL ?_
  ·exact trivial
  intro _ _ _
  all_goals (refine go ?_;and_intros<;>(try exact trivial)<;>intros)
  (refine ret2 Tryd.func14 Tryd.results14 ?_;intro w' hw)
  exact hw.retO (i:=0) rfl (fun u=>.tuple #[.agg #[.int .i64 0,u],.int .i64 0])
 obtain ⟨ba,oa,rfl,hra⟩:=SlAt.all hA.1 (by omega)
 have hr0:=hra 0 h0
 have hf0:=firstF_at h0
 generalize firstF rs=F0 at *
 generalize hF:firstS rs=F
 dsimp only [rnV] at hr0
 rw [← hf0] at hr0
 refine enterA [(0,.slice (some ⟨ba,oa,none⟩) rs.length c)] Tryd.func14 Tryd.ntmps14 ?_
 all_goals (refine go ?_;and_intros<;>(try exact trivial)<;>intros)
 repeat' ((first|(refine G.cvb hc ?_)|(apply G.ix (i:=0);rfl;rfl;exact rfl;omega;rfl))<;>(refine go ?_;and_intros<;>(try exact trivial)<;>intros))
 clear hc hr0 hf0
 apply J.nilOwn (E:=3) (size:=1)
 refine J.loop (c:=_) ((0,none,0,0,[]):Nat×Option Addr×Nat×Nat×List Int) (fun s=>rs.length-s.1) (fun s=>[(2,.pointer (some ⟨_,0,none⟩)),(5,.pointer (some ⟨_,0,none⟩)),(24,.slice (some ⟨ba,oa,none⟩) rs.length c),(25,.int .i64 rs.length),(26,.int .i64 s.1)]) (fun s=>[.own 0 (.slice s.2.1 s.2.2.2.1 s.2.2.1) 3 1 s.2.2.2.1 (flat isV s.2.2.2.2),.blk _ 24 [.int .i64 F0,.slice s.2.1 s.2.2.2.1 s.2.2.1] 2,.blk _ 24 [.int .i64 0,.slice none 0 0] 2]) (fun s=>s.1≤rs.length∧s.2.2.2.2.length=s.2.2.2.1∧s.2.2.2.2++firstS (rs.drop s.1)=F∧s.2.2.2.1≤100000000*s.1) ?_ sbT sbL ?_
 ·exact ⟨Nat.zero_le _,rfl,hF,Nat.zero_le _⟩
 clear hF
 intro ⟨k,au,cu,j,o⟩ ⟨h3,h4,h5,h6⟩ ih
 dsimp only at h3 h4 h5 h6 ⊢
 by_cases hk:k < rs.length
 ·have hrk:=hra k hk
  have hmem:=List.getElem_mem hk
  have hin:=k5 _ hmem
  have hone:=k6 _ hmem
  have htab:=hA.2 _ hmem
  have hlen:=hfr _ hmem
  rw [List.drop_eq_getElem_cons hk,firstS] at h5
  rw [inT,decide_eq_true_eq] at hin
  have hg:=fun w' (_:Below w.heap.size w w')=>gap_holds rs[k] w'
  clear hra hmem k5 k6 hfr hA
  generalize rs[k]=r at *
  by_cases h0:r.tab.length=0
  ·rw [stagesR,if_pos h0] at h5
   rw [decide_eq_true h0] at hg
   clear hone htab
   obtain ⟨rf,rt,tab,adr,cap,lo,hi⟩:=r
   dsimp only [rnV,rnA] at *
   obtain ⟨n,rfl⟩:∃ n:Nat,rt=rf+n:=⟨(rt-rf).toNat,by omega⟩
   rw [show (rf+n-rf:Int).toNat=n by omega,← List.append_assoc] at h5
   obtain rfl:=List.length_eq_zero_iff.1 h0
   all_goals (refine goR ?_;and_intros<;>(try exact trivial)<;>intros)
   repeat' ((first|(refine G.cvb hg ?_)|(apply J.regA (.q 0 <| .q 1 <| .q 2 <| .q 3 <| .q 5 <| .q 6 <| .q 7 <| .q 8 <| .q 9 <| .e 4 <| .e 10 <| .r 11 <| .q 12 <| .r 13 <| .nil);exact Tryd.mixed;decide +kernel)|(apply G.sliceL;rfl;rfl;rfl;rfl;rfl;rfl;rfl;rfl;intro Bs)|(apply G.cN (g:=38) (fun a' c'=>.slice a' n c') ((List.replicate n lo).map isV);rfl;rfl;exact fun w' hw'=>repeat_i _ lo 1 n _ w' (by omega) (SlAt.ofBlk (f:=isV) (sz:=1) (l:=[lo]) (fun _=>rfl) hw' (by exact mm)) (by omega);intro a1 c1 hp1 hq1)|(apply G.apV;rfl;rfl;rfl;(repeat (first|exact RAt.head|apply RAt.tail));exact hsl hp1 (by exact mm);exact (flat_append isV _ _).symm;omega;omega;intro a2 c2)|(apply G.s1 (v:=.slice a2 (j+n) c2);rfl;rfl;rfl;(repeat (first|exact RAt.head|apply RAt.tail));exact ⟨rfl,rfl⟩;exact Nat.le_of_ble_eq_true rfl;rfl)|(apply J.regQ;exact Tryd.mixed;decide +kernel)|(apply J.regL';exact Tryd.mixed;decide +kernel))<;>(refine goR ?_;and_intros<;>(try exact trivial)<;>intros))
   refine J.loop (c:=_) (0:Nat) (fun s=>0) (fun s=>[(2,.pointer (some ⟨_,0,none⟩)),(5,.pointer (some ⟨_,0,none⟩)),(24,.slice (some ⟨ba,oa,none⟩) rs.length c),(25,.int .i64 rs.length),(26,.int .i64 k),(46,.slice adr 0 cap),(47,.int .i64 0),(48,.int .i64 0)]) (fun s=>[.own 0 (.slice a2 (j+n) c2) 3 1 (j+n) (flat isV (o++List.replicate n lo)),.blk _ 24 [.int .i64 F0,.slice a2 (j+n) c2] 2,.blk _ 24 [.int .i64 0,.slice none 0 0] 2]) (fun s=>True) ?_ sbT sbL ?_
   ·exact trivial
   intro _ _ _
   all_goals (refine go ?_;and_intros<;>(try exact trivial)<;>intros)
   exact J.fin (ih (k+1,a2,c2,j+n,o++List.replicate n lo) ⟨hk,by simp [h4],h5,by dsimp only;omega⟩ (by dsimp only;omega))
  ·rw [stagesR,if_neg h0] at h5
   rw [decide_eq_false h0] at hg
   obtain ⟨htt,_,hsum,_,_⟩:=oneE_tab hone h0
   clear hone
   obtain ⟨rf,rt,tab,adr,cap,lo,hi⟩:=r
   have htab:SlAt w adr 2 (tab.map hoV):=htab
   dsimp only [rnV,rnA] at *
   all_goals (refine go ?_;and_intros<;>(try exact trivial)<;>intros)
   repeat' ((first|(refine G.cvb hg ?_))<;>(refine go ?_;and_intros<;>(try exact trivial)<;>intros))
   clear hrk hg
   generalize hY:firstS (rs.drop (k+1))=Y at *
   refine J.loop (c:=_) ((0,au,cu,j,o):Nat×Option Addr×Nat×Nat×List Int) (fun s=>tab.length-s.1) (fun s=>[(2,.pointer (some ⟨_,0,none⟩)),(5,.pointer (some ⟨_,0,none⟩)),(24,.slice (some ⟨ba,oa,none⟩) rs.length c),(25,.int .i64 rs.length),(26,.int .i64 k),(46,.slice adr tab.length cap),(47,.int .i64 tab.length),(48,.int .i64 s.1)]) (fun s=>[.own 0 (.slice s.2.1 s.2.2.2.1 s.2.2.1) 3 1 s.2.2.2.1 (flat isV s.2.2.2.2),.blk _ 24 [.int .i64 F0,.slice s.2.1 s.2.2.2.1 s.2.2.1] 2,.blk _ 24 [.int .i64 0,.slice none 0 0] 2]) (fun s=>s.1≤tab.length∧s.2.2.2.2.length=s.2.2.2.1∧s.2.2.2.2++(tabS (tab.drop s.1)++Y)=F∧s.2.2.2.1≤100000000*k+1402560*s.1) ?_ sbT sbL ?_
   ·exact ⟨Nat.zero_le _,h4,h5,by dsimp only;omega⟩
   clear h4 h5 h6
   intro ⟨i,au,cu,j,o⟩ ⟨h3,h4,h5,h6⟩ ih2
   dsimp only at h3 h4 h5 h6 ⊢
   by_cases hi2:i < tab.length
   ·obtain ⟨b2,o2,rfl,hra2⟩:=SlAt.all htab (by omega)
    have hri:=hra2 i hi2
    have hti:=htt _ (List.getElem_mem hi2)
    rw [List.drop_eq_getElem_cons hi2,tabS_cons] at h5
    clear hra2 htt ih
    generalize tab[i]=z at *
    obtain ⟨x,m⟩:=z
    dsimp only [hoV] at *
    obtain ⟨n,rfl⟩:∃ n:Nat,m=n:=⟨m.toNat,by omega⟩
    rw [Int.toNat_natCast,List.append_assoc,← List.append_assoc] at h5
    all_goals (refine goR ?_;and_intros<;>(try exact trivial)<;>intros)
    repeat' ((first|(apply J.regA (.q 0 <| .q 1 <| .q 2 <| .q 3 <| .q 5 <| .q 6 <| .e 4 <| .e 7 <| .r 8 <| .q 9 <| .r 10 <| .nil);exact Tryd.mixed;decide +kernel)|(apply G.sliceL;rfl;rfl;rfl;rfl;rfl;rfl;rfl;rfl;intro Bs)|(apply G.cN (g:=38) (fun a' c'=>.slice a' n c') ((List.replicate n x).map isV);rfl;rfl;exact fun w' hw'=>repeat_i _ x 1 n _ w' rfl (SlAt.ofBlk (f:=isV) (sz:=1) (l:=[x]) (fun _=>rfl) hw' (by exact mm)) (by omega);intro a1 c1 hp1 hq1)|(apply G.apV;rfl;rfl;rfl;(repeat (first|exact RAt.head|apply RAt.tail));exact hsl hp1 (by exact mm);exact (flat_append isV _ _).symm;omega;omega;intro a2 c2)|(apply G.s1 (v:=.slice a2 (j+n) c2);rfl;rfl;rfl;(repeat (first|exact RAt.head|apply RAt.tail));exact ⟨rfl,rfl⟩;exact Nat.le_of_ble_eq_true rfl;rfl)|(apply J.regQ;exact Tryd.mixed;decide +kernel)|(apply J.regL';exact Tryd.mixed;decide +kernel))<;>(refine goR ?_;and_intros<;>(try exact trivial)<;>intros))
    exact J.fin (ih2 (i+1,a2,c2,j+n,o++List.replicate n x) ⟨hi2,by simp [h4],h5,by dsimp only;omega⟩ (by dsimp only;omega))
   ·rw [List.drop_eq_nil_of_le (by omega)] at h5
    clear ih2
    all_goals (refine go ?_;and_intros<;>(try exact trivial)<;>intros)
    exact J.fin (ih (k+1,au,cu,j,o) ⟨hk,h4,by dsimp only;rw [hY];exact h5,by dsimp only;omega⟩ (by dsimp only;omega))
 ·obtain rfl:k=rs.length:=by omega
  rw [List.drop_length,firstS,List.append_nil] at h5
  subst h5 h4
  clear ih
  all_goals (refine go ?_;and_intros<;>(try exact trivial)<;>intros)
  (refine ret2 Tryd.func14 Tryd.results14 ?_;intro w' hw)
  exact hw.retO (i:=0) rfl (fun u=>.tuple #[.agg #[.int .i64 F0,u],.int .i64 0])
end Go.Proofs.YtcdgibkbbcekhaaDoor
/-
 Windows of a list that are brought into another order;insertion.
-/
namespace Go.Proofs.YtcdgibkbbcekhaaDoor
open Go.RowKit Go.Sl Go.Num
def Srt (S:List Int) (a b:Nat):Prop:=∀ x y,a≤x→x < y→y < b→S.getD x 0≤S.getD y 0
structure WP (S:List Int) (a b:Nat) (S':List Int):Prop where
 len:S'.length=S.length
 out:∀ z,z < a∨b≤z→S'.getD z 0=S.getD z 0
 per:S'.Perm S
theorem WP.refl (S:List Int) (a b:Nat):WP S a b S:=⟨rfl,fun _ _=>rfl,.refl _⟩
theorem WP.trans {S T U:List Int}{a b:Nat} (h:WP S a b T) (h2:WP T a b U):WP S a b U:=⟨h2.len.trans h.len,fun z hz=>(h2.out z hz).trans (h.out z hz),h2.per.trans h.per⟩
theorem WP.mono {S T:List Int}{a b c d:Nat} (h:WP S a b T) (h1:c≤a) (h2:b≤d):WP S c d T:=⟨h.len,fun z hz=>h.out z (by omega),h.per⟩
theorem WP.swp {S:List Int}{a b x y:Nat} (hx:a≤x∧x < b) (hy:a≤y∧y < b) (hb:b≤S.length):WP S a b (swp S x y) :=
 ⟨swp_len S x y,fun z hz=>swp_oth (by omega) (by omega) (by omega) (by omega),swp_perm (by omega) (by omega)⟩
theorem getD_ext {S T:List Int} (hl:S.length=T.length) (h:∀ z,z < S.length→S.getD z 0=T.getD z 0):S=T:=List.ext_getElem hl fun i h1 h2=>by
 have:=h i h1
 rwa [getD_eq h1,getD_eq h2] at this
theorem WP.win {S T:List Int}{a b:Nat} (h:WP S a b T) (hab:a≤b) (hb:b≤S.length):((T.drop a).take (b-a)).Perm ((S.drop a).take (b-a)):=by
 have e1:T.take a=S.take a:=by
  refine getD_ext (by rw [List.length_take,List.length_take,h.len]) fun z hz=>?_
  rw [List.length_take] at hz
  have:=h.out z (.inl (by omega))
  rw [List.getD_eq_getElem?_getD,List.getD_eq_getElem?_getD,List.getElem?_take_of_lt (by omega),List.getElem?_take_of_lt (by omega),← List.getD_eq_getElem?_getD,← List.getD_eq_getElem?_getD,this]
 have e2:T.drop b=S.drop b:=by
  refine getD_ext (by rw [List.length_drop,List.length_drop,h.len]) fun z hz=>?_
  have:=h.out (b+z) (.inr (by omega))
  rw [List.getD_eq_getElem?_getD,List.getD_eq_getElem?_getD,List.getElem?_drop,List.getElem?_drop,← List.getD_eq_getElem?_getD,← List.getD_eq_getElem?_getD,this]
 have hS:S=S.take a++((S.drop a).take (b-a)++S.drop b):=by
  have:=(List.take_append_drop a S).symm
  have h2:=(List.take_append_drop (b-a) (S.drop a)).symm
  rw [List.drop_drop,show a+(b-a)=b by omega] at h2
  rw [h2] at this
  exact this
 have hT:T=T.take a++((T.drop a).take (b-a)++T.drop b):=by
  have:=(List.take_append_drop a T).symm
  have h2:=(List.take_append_drop (b-a) (T.drop a)).symm
  rw [List.drop_drop,show a+(b-a)=b by omega] at h2
  rw [h2] at this
  exact this
 have hp:=h.per
 rw [hS,hT,e1,e2] at hp
 exact (List.perm_append_right_iff _).1 ((List.perm_append_left_iff _).1 hp)
theorem WP.all {S T:List Int}{a b:Nat} (h:WP S a b T) (hb:b≤S.length) {P:Int→Prop} (hP:∀ z,a≤z→z < b→P (S.getD z 0)):∀ z,a≤z→z < b→P (T.getD z 0):=fun z h1 h2=>by
 have hw:=h.win (by omega) hb
 have hm:T.getD z 0∈(T.drop a).take (b-a):=by
  refine List.mem_iff_getElem?.2 ⟨z-a,?_⟩
  rw [List.getElem?_take_of_lt (by omega),List.getElem?_drop,show a+(z-a)=z by omega,List.getD_eq_getElem?_getD,List.getElem?_eq_getElem (by rw [h.len];omega)];rfl
 obtain ⟨i,hi⟩:=List.mem_iff_getElem?.1 (hw.mem_iff.1 hm)
 have hil:i < b-a:=by
  have:=(List.getElem?_eq_some_iff.1 hi).1
  rw [List.length_take] at this;omega
 rw [List.getElem?_take_of_lt hil,List.getElem?_drop] at hi
 have:=hP (a+i) (by omega) (by omega)
 rw [List.getD_eq_getElem?_getD,hi] at this
 exact this
def InsW (S:List Int) (a i j:Nat):Prop:=(∀ x y,a≤x→x < y→y≤i→x≠j→y≠j→S.getD x 0≤S.getD y 0)∧∀ y,j < y→y≤i→S.getD j 0≤S.getD y 0
theorem InsW.start {S:List Int}{a i:Nat} (h:Srt S a i):InsW S a i i:=⟨fun x y h1 h2 h3 _ h5=>h x y h1 h2 (by omega),fun y h1 h2=>by omega⟩
theorem InsW.step {S:List Int}{a i j:Nat} (h:InsW S a i (j+1)) (ha:a≤j) (hi:i < S.length) (hj:j+1≤i) (hlt:S.getD (j+1) 0 < S.getD j 0):InsW (Proofs.YtcdgibkbbcekhaaDoor.swp S (j+1) j) a i j:=by
 have e1:=swp_fst (S:=S) (x:=j+1) (y:=j) (by omega) (by omega)
 have e2:=swp_snd (S:=S) (x:=j+1) (y:=j) (by omega) (by omega)
 have e3:∀ z,z≠j+1→z≠j→(Proofs.YtcdgibkbbcekhaaDoor.swp S (j+1) j).getD z 0=S.getD z 0:=fun z h1 h2=>swp_oth (by omega) (by omega) h1 h2
 refine ⟨fun x y h1 h2 h3 h4 h5=>?_,fun y h1 h2=>?_⟩
 ·by_cases hx:x=j+1
  ·subst hx
   rw [e1,e3 y (by omega) h5]
   exact h.1 j y ha (by omega) h3 (by omega) (by omega)
  ·by_cases hy:y=j+1
   ·subst hy
    rw [e1,e3 x hx h4]
    exact h.1 x j h1 (by omega) (by omega) hx (by omega)
   ·rw [e3 x hx h4,e3 y hy h5]
    exact h.1 x y h1 h2 h3 hx hy
 ·rw [e2]
  by_cases hy:y=j+1
  ·subst hy;rw [e1];omega
  ·rw [e3 y hy (by omega)]
   exact h.2 y (by omega) h2
theorem InsW.end_ {S:List Int}{a i j:Nat} (h:InsW S a i j) (hj:j=a∨a < j∧¬ S.getD j 0 < S.getD (j-1) 0):Srt S a (i+1):=fun x y h1 h2 h3=>by
 by_cases hx:x=j
 ·subst hx;exact h.2 y h2 (by omega)
 ·by_cases hy:y=j
  ·subst hy
   rcases hj with rfl|⟨h4,h5⟩
   ·omega
   ·by_cases h6:x=y-1
    ·subst h6;omega
    ·have:=h.1 x (y-1) h1 (by omega) (by omega) hx (by omega)
     omega
  ·exact h.1 x y h1 h2 (by omega) hx hy
theorem Srt.short {S:List Int}{a b:Nat} (h:b≤a+1):Srt S a b:=fun x y h1 h2 h3=>by omega
theorem srt_pair {S:List Int} (h:Srt S 0 S.length):S.Pairwise (·≤·):=by
 rw [List.pairwise_iff_getElem]
 intro i j hi hj hij
 have:=h i j (Nat.zero_le _) hij hj
 rwa [getD_eq hi,getD_eq hj] at this
end Go.Proofs.YtcdgibkbbcekhaaDoor
/-
 Contracts: the insertion sort of the library.
-/
namespace Go.Proofs.YtcdgibkbbcekhaaDoor
open Go.RowKit Go.Sl Go.Num
theorem lessI_holds (x y:Int) (w:World):Calls Tryd.prog 75 #[.int .i64 x,.int .i64 y] w fun e w'=>e=.returned (.bool (decide (x < y)))∧Below w.heap.size w w':=by
 have hn:=fun v w'=>isNaNi_holds v w'
 refine enterA [(0,.int .i64 x),(1,.int .i64 y)] Tryd.func75 Tryd.ntmps75 ?_
 by_cases h0:x < y
 ·rw [decide_eq_true h0]
  all_goals (refine go ?_;and_intros<;>(try exact trivial)<;>repeat (first|refine fun (Bk:Nat)=>?_|intro h))
  repeat' ((first|(apply G.cV (g:=84);rfl;rfl;exact fun w' _=>hn _ w'))<;>(refine go ?_;and_intros<;>(try exact trivial)<;>repeat (first|refine fun (Bk:Nat)=>?_|intro h)))
  all_goals refine ret1b Tryd.func75 Tryd.results75 ?_
  all_goals rfl
 ·rw [decide_eq_false h0]
  all_goals (refine go ?_;and_intros<;>(try exact trivial)<;>repeat (first|refine fun (Bk:Nat)=>?_|intro h))
  repeat' ((first|(apply G.cV (g:=84);rfl;rfl;exact fun w' _=>hn _ w'))<;>(refine go ?_;and_intros<;>(try exact trivial)<;>repeat (first|refine fun (Bk:Nat)=>?_|intro h)))
  all_goals refine ret1b Tryd.func75 Tryd.results75 ?_
  all_goals rfl
theorem gI {S:List Int}{j:Nat} (h:j < S.length):(flat isV S)[0+j*1]?=some (.int .i64 (S.getD j 0)):=by rw [is_get h,getD_eq h]
theorem sI {S:List Int}{j:Nat}{v:Int} (h:j < S.length):setL (flat isV S) (0+j*1) [.int .i64 v]=flat isV (S.set j v):=is_set h
theorem insSort_holds (w0:World) (M:List Row) (w:World) (g tot n cp:Nat) (S:List Int) (a b:Nat) (hw:Sat w0 (.blk g 3 (flat isV S) tot::M) w) (hb:b≤n) (hn:n=S.length) (hl:n≤1000000000) (ha:a≤n) :
  Calls Tryd.prog 69 #[.slice (some ⟨g,0,none⟩) n cp,.int .i64 a,.int .i64 b] w fun e w'=>∃ S',e=.returned (.tuple #[])∧(WP S a b S'∧Srt S' a b)∧Sat w0 (.blk g 3 (flat isV S') tot::M) w':=by
 refine enterR [(0,.slice (some ⟨g,0,none⟩) n cp),(1,.int .i64 a),(2,.int .i64 b)] hw Tryd.func69 Tryd.ntmps69 ?_
 all_goals (refine go ?_;and_intros<;>(try exact trivial)<;>repeat (first|refine fun (Bk:Nat)=>?_|intro h))
 refine J.loop (c:=_) ((a+1,S):Nat×List Int) (fun s=>b+1-s.1) (fun s=>[(0,.slice (some ⟨g,0,none⟩) n cp),(1,.int .i64 a),(2,.int .i64 b),(6,.int .i64 s.1)]) (fun s=>.blk g 3 (flat isV s.2) tot::M) (fun s=>a+1≤s.1∧(s.1≤b∨s.1=a+1)∧WP S a b s.2∧Srt s.2 a s.1) ?_ sbT sbL ?_
 ·exact ⟨Nat.le_refl _,.inr rfl,WP.refl _ _ _,Srt.short (Nat.le_refl _)⟩
 intro ⟨i,S1⟩ ⟨h1,h2,h3,h4⟩ ih
 dsimp only at h1 h2 h3 h4 ⊢
 have hl1:=h3.len
 by_cases hi:i < b
 ·have ih:=fun S2 h5 h6=>ih (i+1,S2) ⟨by dsimp only;omega,.inl hi,h5,h6⟩ (by dsimp only;omega)
  all_goals (refine go ?_;and_intros<;>(try exact trivial)<;>repeat (first|refine fun (Bk:Nat)=>?_|intro h))
  refine J.loop (c:=_) ((i,S1):Nat×List Int) (fun s=>s.1) (fun s=>[(0,.slice (some ⟨g,0,none⟩) n cp),(1,.int .i64 a),(2,.int .i64 b),(6,.int .i64 i),(7,.int .i64 s.1)]) (fun s=>.blk g 3 (flat isV s.2) tot::M) (fun s=>a≤s.1∧s.1≤i∧WP S a b s.2∧InsW s.2 a i s.1) ?_ sbT sbL ?_
  ·exact ⟨by dsimp only;omega,Nat.le_refl _,h3,InsW.start h4⟩
  clear h3 h4 hl1
  intro ⟨j,S2⟩ ⟨j1,j2,j3,j4⟩ ih2
  dsimp only at j1 j2 j3 j4 ⊢
  have hl2:=j3.len
  by_cases hj:a < j
  ·obtain ⟨k,rfl⟩:∃ k,j=k+1:=⟨j-1,by omega⟩
   have q1:=gI (S:=S2) (j:=k+1) (by omega)
   have q2:=gI (S:=S2) (j:=k) (by omega)
   have hle:=fun w'=>lessI_holds (S2.getD (k+1) 0) (S2.getD k 0) w'
   by_cases hc:S2.getD (k+1) 0 < S2.getD k 0
   ·rw [decide_eq_true hc] at hle
    have ih2:=ih2 (k,swp S2 (k+1) k) ⟨by dsimp only;omega,by dsimp only;omega,j3.trans (WP.swp ⟨by omega,by omega⟩ ⟨by omega,by omega⟩ (by omega)),j4.step (by omega) (by omega) (by omega) hc⟩ (by dsimp only;omega)
    have r1:=sI (S:=S2) (j:=k+1) (v:=S2.getD k 0) (by omega)
    have r2:=sI (S:=S2.set (k+1) (S2.getD k 0)) (j:=k) (v:=S2.getD (k+1) 0) (by rw [List.length_set];omega)
    have l1:0+(k+1)*1 < (flat isV S2).length:=by rw [isLen];omega
    have l2:0+k*1 < (flat isV (S2.set (k+1) (S2.getD k 0))).length:=by rw [isLen,List.length_set];omega
    dsimp only [swp] at ih2
    clear j3 j4 ih
    generalize S2.getD (k+1) 0=x at *
    generalize S2.getD k 0=y at *
    generalize S2.set (k+1) y=S3 at *
    generalize S3.set k x=S4 at *
    all_goals (refine goR ?_;and_intros<;>(try exact trivial)<;>repeat (first|refine fun (Bk:Nat)=>?_|intro h))
    repeat' ((first|(apply G.ld;rfl;(apply LdV.one;exact CellV.blk (by exact mm) q1);rfl)|(apply G.ld;rfl;(apply LdV.one;exact CellV.blk (by exact mm) q2);rfl)|(apply G.cV (g:=75);rfl;rfl;exact fun w' _=>hle w')|(apply J.regA (.q 0 <| .q 1 <| .q 2 <| .q 3 <| .q 4 <| .q 5 <| .q 6 <| .q 7 <| .q 8 <| .q 9 <| .q 10 <| .q 11 <| .q 12 <| .q 13 <| .q 14 <| .nil);exact Tryd.mixed;decide +kernel)|(apply J.regX 0 [2,3,4] (.q 0 <| .q 1 <| .q 2 <| .q 3 <| .q 4 <| .q 5 <| .q 6 <| .q 7 <| .q 8 <| .q 9 <| .q 10 <| .q 11 <| .q 12 <| .q 13 <| .q 14 <| .e 15 <| .q 16 <| .e 17 <| .nil);exact Tryd.mixed;decide +kernel)|(apply G.s1n (n:=0);rfl;rfl;rfl;exact rfl;exact ⟨rfl,rfl⟩;exact l1;exact r1)|(apply G.s1n (n:=0);rfl;rfl;rfl;exact rfl;exact ⟨rfl,rfl⟩;exact l2;exact r2)|(apply J.regQ;exact Tryd.mixed;decide +kernel)|(apply J.regL';exact Tryd.mixed;decide +kernel))<;>(refine goR ?_;and_intros<;>(try exact trivial)<;>repeat (first|refine fun (Bk:Nat)=>?_|intro h)))
    rw [show ((k+1:Nat):Int)-1=(k:Int) by omega]
    exact J.fin ih2
   ·rw [decide_eq_false hc] at hle
    have ih:=ih S2 j3 (j4.end_ (.inr ⟨by omega,hc⟩))
    clear j3 j4 ih2
    generalize S2.getD (k+1) 0=x at *
    generalize S2.getD k 0=y at *
    all_goals (refine goR ?_;and_intros<;>(try exact trivial)<;>repeat (first|refine fun (Bk:Nat)=>?_|intro h))
    repeat' ((first|(apply G.ld;rfl;(apply LdV.one;exact CellV.blk (by exact mm) q1);rfl)|(apply G.ld;rfl;(apply LdV.one;exact CellV.blk (by exact mm) q2);rfl)|(apply G.cV (g:=75);rfl;rfl;exact fun w' _=>hle w')|(apply J.regA (.q 0 <| .q 1 <| .q 2 <| .q 3 <| .q 4 <| .q 5 <| .q 6 <| .q 7 <| .q 8 <| .q 9 <| .q 10 <| .q 11 <| .q 12 <| .q 13 <| .q 14 <| .nil);exact Tryd.mixed;decide +kernel)|(apply J.regQ;exact Tryd.mixed;decide +kernel)|(apply J.regL';exact Tryd.mixed;decide +kernel))<;>(refine goR ?_;and_intros<;>(try exact trivial)<;>repeat (first|refine fun (Bk:Nat)=>?_|intro h)))
    exact J.fin ih
  ·obtain rfl:j=a:=by omega
   have ih:=ih S2 j3 (j4.end_ (.inl rfl))
   clear j3 j4 ih2
   all_goals (refine goR ?_;and_intros<;>(try exact trivial)<;>repeat (first|refine fun (Bk:Nat)=>?_|intro h))
   repeat' ((first|(apply J.regA (.q 0 <| .q 1 <| .q 2 <| .q 3 <| .q 4 <| .q 5 <| .q 6 <| .q 7 <| .q 8 <| .q 9 <| .q 10 <| .q 11 <| .q 12 <| .q 13 <| .q 14 <| .nil);exact Tryd.mixed;decide +kernel)|(apply J.regQ;exact Tryd.mixed;decide +kernel)|(apply J.regL';exact Tryd.mixed;decide +kernel))<;>(refine goR ?_;and_intros<;>(try exact trivial)<;>repeat (first|refine fun (Bk:Nat)=>?_|intro h)))
   exact J.fin ih
 ·have h5:Srt S1 a b:=fun x y q1 q2 q3=>h4 x y q1 q2 (by omega)
  clear ih
  all_goals (refine go ?_;and_intros<;>(try exact trivial)<;>repeat (first|refine fun (Bk:Nat)=>?_|intro h))
  refine end0 Tryd.func69 Tryd.results69 ?_
  exact fun w' hw'=>⟨S1,rfl,⟨h3,h5⟩,hw'⟩
end Go.Proofs.YtcdgibkbbcekhaaDoor
/-
 Contracts: how many bits a number has;the sort of short lists.
-/
namespace Go.Sl
open Go.RowKit
variable {C:Ctx}{st:List (Nat×Value)}{M:List Row}{k:List Item}{q q':Md}{all rest:List Oper}{d:Nat}{ty:TypeId}{pos:String}{after:Array Edge}{gd:Option (Nat×Bool)}
theorem G.sxa {T:TypeId}{x y:Operand}{l:List UInt8}{ki:IntKind}{e:Int}{i:Nat} (hx:evS st x=some (.string (bs l))) (hy:evS st y=some (.int ki e)) (he:e=(i:Int)) (hi:i < l.length) [hT:TString C.P T] (hs:sideB all st gd d C.N q.calm=some q') (h:∀ t:Nat,t < 256→G q' C all ((d,.int .u8 (t:Int))::st) M rest k) :
  G q C all st M ({ dst:=some d,op:=.index T x y,type:=ty,pos,after,guard:=gd }::rest) k:=G.sx hx hy he (List.getElem?_eq_getElem hi) hs (h _ (UInt8.toNat_lt _))
end Go.Sl
namespace Go.Proofs.YtcdgibkbbcekhaaDoor
open Go.RowKit Go.Sl Go.Num
theorem len64_holds (x:Nat) (w:World) (hx:x < 18446744073709551616):Calls Tryd.prog 79 #[.int .u64 x] w fun e w'=>∃ z:Int,(0≤z∧z≤1000)∧e=.returned (.int .i64 z)∧Below w.heap.size w w':=by
 refine enterA [(0,.int .u64 x)] Tryd.func79 Tryd.ntmps79 ?_
 all_goals (refine go ?_;and_intros<;>(try exact trivial)<;>repeat (first|refine fun (Bk:Nat)=>?_|intro h))
 repeat' ((first|(apply G.shrK (n:=32) (k1:=.u64);rfl;rfl;rfl;exact shr_n (k:=4294967296) rfl rfl;rfl;rfl;rfl)|(apply G.shrK (n:=16) (k1:=.u64);rfl;rfl;rfl;exact shr_n (k:=65536) rfl rfl;rfl;rfl;rfl)|(apply G.shrK (n:=8) (k1:=.u64);rfl;rfl;rfl;exact shr_n (k:=256) rfl rfl;rfl;rfl;rfl)|(apply G.sxa;rfl;rfl;rfl;exact Nat.lt_of_lt_of_eq (m:=256) (by omega) (by decide +kernel);rfl;intro tt ht))<;>(refine go ?_;and_intros<;>(try exact trivial)<;>repeat (first|refine fun (Bk:Nat)=>?_|intro h)))
 all_goals refine ret1 Tryd.func79 Tryd.results79 fun w' hw=>⟨_,?_,rfl,hw.below⟩
 all_goals omega
theorem len_holds (x:Nat) (w:World) (hx:x < 18446744073709551616):Calls Tryd.prog 63 #[.int .u64 x] w fun e w'=>∃ z:Int,(0≤z∧z≤1000)∧e=.returned (.int .i64 z)∧Below w.heap.size w w':=by
 have hl:=fun w' (_:Below w.heap.size w w')=>len64_holds x w' hx
 refine enterA [(0,.int .u64 x)] Tryd.func63 Tryd.ntmps63 ?_
 all_goals (refine go ?_;and_intros<;>(try exact trivial)<;>repeat (first|refine fun (Bk:Nat)=>?_|intro h))
 repeat' ((first|(refine G.cX (X:={ z:Int // 0≤z∧z≤1000 }) (v:=fun z=>.int .i64 z.1) (fun w' hb=>(hl w' hb).mono fun e w2 ⟨z,h1,h2,h3⟩=>⟨⟨z,h1⟩,h2,h3⟩) ?_;intro z))<;>(refine go ?_;and_intros<;>(try exact trivial)<;>repeat (first|refine fun (Bk:Nat)=>?_|intro h)))
 refine ret1 Tryd.func63 Tryd.results63 fun w' hw=>⟨_,z.2,rfl,hw.below⟩
theorem pdq12_holds (w0:World) (M:List Row) (w:World) (g tot n cp:Nat) (S:List Int) (a b:Nat) (L:Int) (hw:Sat w0 (.blk g 3 (flat isV S) tot::M) w) (hb:b≤n) (hn:n=S.length) (hl:n≤1000000000) (ha:a≤n) (h12:b≤a+12) :
  Calls Tryd.prog 62 #[.slice (some ⟨g,0,none⟩) n cp,.int .i64 a,.int .i64 b,.int .i64 L] w fun e w'=>∃ S',e=.returned (.tuple #[])∧(WP S a b S'∧Srt S' a b)∧Sat w0 (.blk g 3 (flat isV S') tot::M) w':=by
 refine enterR [(0,.slice (some ⟨g,0,none⟩) n cp),(1,.int .i64 a),(2,.int .i64 b),(3,.int .i64 L)] hw Tryd.func62 Tryd.ntmps62 ?_
 all_goals (refine go ?_;and_intros<;>(try exact trivial)<;>repeat (first|refine fun (Bk:Nat)=>?_|intro h))
 refine J.loop (c:=_) () (fun _=>0) (fun _=>[(0,.slice (some ⟨g,0,none⟩) n cp),(1,.int .i64 a),(2,.int .i64 b),(3,.int .i64 L),(8,.bool true),(9,.bool true)]) (fun _=>.blk g 3 (flat isV S) tot::M) (fun _=>True) trivial sbT sbL ?_
 intro _ _ ih
 clear ih
 all_goals (refine go ?_;and_intros<;>(try exact trivial)<;>repeat (first|refine fun (Bk:Nat)=>?_|intro h))
 repeat' ((first|(refine G.cP (X:={ S' // WP S a b S'∧Srt S' a b }) (fun _=>.tuple #[]) [.blk g 3 (flat isV S) tot] (fun x=>[.blk g 3 (flat isV x.1) tot]) rfl rfl (List.Perm.refl _) (fun w' hw'=>(insSort_holds _ _ w' g tot n cp S a b hw' hb hn hl ha).mono fun e w2 ⟨S',h1,h2,h3⟩=>⟨⟨S',h2⟩,h1,h3⟩) ?_;rintro ⟨S',hS'⟩))<;>(refine go ?_;and_intros<;>(try exact trivial)<;>repeat (first|refine fun (Bk:Nat)=>?_|intro h)))
 refine ret0 Tryd.func62 Tryd.results62 ?_
 exact fun w' hw'=>⟨S',rfl,hS',hw'⟩
end Go.Proofs.YtcdgibkbbcekhaaDoor
/-
 Contract: the sort of a short slice of the caller's own.
-/
namespace Go.Proofs.YtcdgibkbbcekhaaDoor
open Go.RowKit Go.Sl Go.Num
theorem pdq0_holds (w0:World) (M:List Row) (w:World) (v:Value) (L:Int) (hw:Sat w0 M w) :
  Calls Tryd.prog 62 #[v,.int .i64 0,.int .i64 0,.int .i64 L] w fun e w'=>e=.returned (.tuple #[])∧Sat w0 M w':=by
 refine enterR [(0,v),(1,.int .i64 0),(2,.int .i64 0),(3,.int .i64 L)] hw Tryd.func62 Tryd.ntmps62 ?_
 all_goals (refine go ?_;and_intros<;>(try exact trivial)<;>repeat (first|refine fun (Bk:Nat)=>?_|intro h))
 refine J.loop (c:=_) () (fun _=>0) (fun _=>[(0,v),(1,.int .i64 0),(2,.int .i64 0),(3,.int .i64 L),(8,.bool true),(9,.bool true)]) (fun _=>M) (fun _=>True) trivial sbT sbL ?_
 intro _ _ ih
 clear ih
 have hI:∀ (M:List Row) (w:World),Sat w0 M w→Calls Tryd.prog 69 #[v,.int .i64 0,.int .i64 0] w fun e w'=>e=.returned (.tuple #[])∧Sat w0 M w':=fun M w hw=>by
  refine enterR [(0,v),(1,.int .i64 0),(2,.int .i64 0)] hw Tryd.func69 Tryd.ntmps69 ?_
  all_goals (refine go ?_;and_intros<;>(try exact trivial)<;>repeat (first|refine fun (Bk:Nat)=>?_|intro h))
  refine J.loop (c:=_) () (fun _=>0) (fun _=>[(0,v),(1,.int .i64 0),(2,.int .i64 0),(6,.int .i64 1)]) (fun _=>M) (fun _=>True) trivial sbT sbL ?_
  intro _ _ ih
  clear ih
  all_goals (refine go ?_;and_intros<;>(try exact trivial)<;>repeat (first|refine fun (Bk:Nat)=>?_|intro h))
  refine end0 Tryd.func69 Tryd.results69 ?_
  exact fun w' hw'=>⟨rfl,hw'⟩
 all_goals (refine go ?_;and_intros<;>(try exact trivial)<;>repeat (first|refine fun (Bk:Nat)=>?_|intro h))
 repeat' ((first|(refine G.cI (v:=.tuple #[]) rfl rfl (List.Perm.refl _) (fun w' hw'=>hI _ w' hw') ?_))<;>(refine go ?_;and_intros<;>(try exact trivial)<;>repeat (first|refine fun (Bk:Nat)=>?_|intro h)))
 refine ret0 Tryd.func62 Tryd.results62 ?_
 exact fun w' hw'=>⟨rfl,hw'⟩
theorem sort12_holds (w0:World) (M:List Row) (w:World) (au:Option Addr) (n cu:Nat) (S:List Int) (hw:Sat w0 (.own 0 (.slice au n cu) 3 1 n (flat isV S)::M) w) (hn:n=S.length) (h12:n≤12) :
  Calls Tryd.prog 49 #[.slice au n cu] w fun e w'=>∃ S',e=.returned (.tuple #[])∧(S'.Perm S∧S'.Pairwise (·≤·))∧Sat w0 (.own 0 (.slice au n cu) 3 1 n (flat isV S')::M) w':=by
 have hlen:=fun w' (_:Below w0.heap.size w0 w')=>len_holds n w' (by omega)
 refine enterR [(0,.slice au n cu)] hw Tryd.func49 Tryd.ntmps49 ?_
 rcases Nat.eq_zero_or_pos n with rfl|h0
 ·obtain rfl:S=[]:=List.length_eq_zero_iff.1 hn.symm
  all_goals (refine go ?_;and_intros<;>(try exact trivial)<;>repeat (first|refine fun (Bk:Nat)=>?_|intro h))
  repeat' ((first|(refine G.cX (X:={ z:Int // 0≤z∧z≤1000 }) (v:=fun z=>.int .i64 z.1) (fun w' hb=>(hlen w' hb).mono fun e w2 ⟨z,h1,h2,h3⟩=>⟨⟨z,h1⟩,h2,h3⟩) ?_;intro z)|(refine G.cI (v:=.tuple #[]) rfl rfl (List.Perm.refl _) (fun w' hw'=>pdq0_holds _ _ w' _ _ hw') ?_))<;>(refine go ?_;and_intros<;>(try exact trivial)<;>repeat (first|refine fun (Bk:Nat)=>?_|intro h)))
  refine end0 Tryd.func49 Tryd.results49 ?_
  exact fun w' hw'=>⟨[],rfl,⟨.refl _,.nil⟩,hw'⟩
 ·refine J.ownOpen RAt.head h0 fun g cap h1 h2 h3=>?_
  cases h3
  all_goals (refine go ?_;and_intros<;>(try exact trivial)<;>repeat (first|refine fun (Bk:Nat)=>?_|intro h))
  repeat' ((first|(refine G.cX (X:={ z:Int // 0≤z∧z≤1000 }) (v:=fun z=>.int .i64 z.1) (fun w' hb=>(hlen w' hb).mono fun e w2 ⟨z,h1,h2,h3⟩=>⟨⟨z,h1⟩,h2,h3⟩) ?_;intro z)|(refine G.cP (X:={ S' // WP S 0 n S'∧Srt S' 0 n }) (fun _=>.tuple #[]) [.blk g 3 (flat isV S) (cu*1)] (fun x=>[.blk g 3 (flat isV x.1) (cu*1)]) rfl rfl (List.Perm.refl _) (fun w' hw'=>(pdq12_holds _ _ w' g (cu*1) n cu S 0 n z.1 hw' (Nat.le_refl _) hn (by omega) (by omega) (by omega)).mono fun e w2 ⟨S',h1,h2,h3⟩=>⟨⟨S',h2⟩,h1,h3⟩) ?_;rintro ⟨S',hS',hs⟩))<;>(refine go ?_;and_intros<;>(try exact trivial)<;>repeat (first|refine fun (Bk:Nat)=>?_|intro h)))
  have hl:=hS'.len
  dsimp only
  refine J.blkCut (g:=g) (l':=S') n isV_len RAt.head h1 h2 (by omega) (List.take_of_length_le (by omega)) ?_
  refine end0 Tryd.func49 Tryd.results49 ?_
  exact fun w' hw'=>⟨S',rfl,⟨hS'.per,srt_pair (by rw [show S'.length=n by omega];exact hs)⟩,hw'⟩
end Go.Proofs.YtcdgibkbbcekhaaDoor
/-
 Contracts: a range that is turned,and the choice of a pivot.
-/
namespace Go.Proofs.YtcdgibkbbcekhaaDoor
open Go.RowKit Go.Sl Go.Num
theorem reverse_holds (w0:World) (M:List Row) (w:World) (g tot n cp:Nat) (S:List Int) (a b:Nat) (hw:Sat w0 (.blk g 3 (flat isV S) tot::M) w) (hb:b≤n) (hn:n=S.length) (hl:n≤1000000000) (ha:a≤n) :
  Calls Tryd.prog 73 #[.slice (some ⟨g,0,none⟩) n cp,.int .i64 a,.int .i64 b] w fun e w'=>∃ S',e=.returned (.tuple #[])∧WP S a b S'∧Sat w0 (.blk g 3 (flat isV S') tot::M) w':=by
 refine enterR [(0,.slice (some ⟨g,0,none⟩) n cp),(1,.int .i64 a),(2,.int .i64 b)] hw Tryd.func73 Tryd.ntmps73 ?_
 all_goals (refine go ?_;and_intros<;>(try exact trivial)<;>repeat (first|refine fun (Bk:Nat)=>?_|intro h))
 refine J.loop (c:=_) ((0,b,S):Nat×Nat×List Int) (fun s=>s.2.1) (fun s=>[(0,.slice (some ⟨g,0,none⟩) n cp),(6,.int .i64 ((a+s.1:Nat):Int)),(7,.int .i64 ((s.2.1:Int)-1))]) (fun s=>.blk g 3 (flat isV s.2.2) tot::M) (fun s=>s.2.1≤b∧s.1≤n∧WP S a b s.2.2) ?_ sbT sbL ?_
 ·exact ⟨Nat.le_refl _,Nat.zero_le _,WP.refl _ _ _⟩
 intro ⟨i,k,S1⟩ ⟨h1,h2,h3⟩ ih
 dsimp only at h1 h2 h3 ⊢
 have hl1:=h3.len
 by_cases hi:a+i+1 < k
 ·obtain ⟨j,rfl⟩:∃ j,k=j+1:=⟨k-1,by omega⟩
  have ih:=ih (i+1,j,swp S1 (a+i) j) ⟨by dsimp only;omega,by dsimp only;omega,h3.trans (WP.swp ⟨by omega,by omega⟩ ⟨by omega,by omega⟩ (by omega))⟩ (by dsimp only;omega)
  have q1:=gI (S:=S1) (j:=(a+i)) (by omega)
  have q2:=gI (S:=S1) (j:=j) (by omega)
  have r1:=sI (S:=S1) (j:=(a+i)) (v:=(S1).getD j 0) (by omega)
  have r2:=sI (S:=(S1).set (a+i) ((S1).getD j 0)) (j:=j) (v:=(S1).getD (a+i) 0) (by rw [List.length_set];omega)
  have l1:0+(a+i)*1 < (flat isV (S1)).length:=by rw [isLen];omega
  have l2:0+j*1 < (flat isV ((S1).set (a+i) ((S1).getD j 0))).length:=by rw [isLen,List.length_set];omega
  dsimp only [swp] at ih
  generalize hx:a+i=x at *
  clear h3
  generalize S1.getD x 0=y at *
  generalize S1.getD j 0=z at *
  generalize S1.set x z=S3 at *
  generalize S3.set j y=S4 at *
  rw [show ((j+1:Nat):Int)-1=(j:Int) by omega]
  all_goals (refine goR ?_;and_intros<;>(try exact trivial)<;>repeat (first|refine fun (Bk:Nat)=>?_|intro h))
  repeat' ((first|(apply G.ld;rfl;(apply LdV.one;exact CellV.blk (by exact mm) q1);rfl)|(apply G.ld;rfl;(apply LdV.one;exact CellV.blk (by exact mm) q2);rfl)|(apply J.regX 0 [2,3] (.q 0 <| .q 1 <| .q 2 <| .q 3 <| .q 4 <| .q 5 <| .q 6 <| .q 7 <| .q 8 <| .q 9 <| .q 10 <| .q 11 <| .q 12 <| .e 13 <| .q 14 <| .e 15 <| .nil);exact Tryd.mixed;decide +kernel)|(apply G.s1n (n:=0);rfl;rfl;rfl;exact rfl;exact ⟨rfl,rfl⟩;exact l1;exact r1)|(apply G.s1n (n:=0);rfl;rfl;rfl;exact rfl;exact ⟨rfl,rfl⟩;exact l2;exact r2)|(apply J.regQ;exact Tryd.mixed;decide +kernel)|(apply J.regL';exact Tryd.mixed;decide +kernel))<;>(refine goR ?_;and_intros<;>(try exact trivial)<;>repeat (first|refine fun (Bk:Nat)=>?_|intro h)))
  rw [show (x:Int)+1=((a+(i+1):Nat):Int) by omega]
  exact J.fin ih
 ·clear ih
  all_goals (refine go ?_;and_intros<;>(try exact trivial)<;>repeat (first|refine fun (Bk:Nat)=>?_|intro h))
  refine end0 Tryd.func73 Tryd.results73 ?_
  exact fun w' hw'=>⟨S1,rfl,h3,hw'⟩
theorem order2_holds (w0:World) (M:List Row) (w:World) (bs g tot n cp:Nat) (S:List Int) (a b:Nat) (v:Int) (hw:Sat w0 (.blk bs 3 [.int .i64 v] 1::.blk g 3 (flat isV S) tot::M) w) (hn:n=S.length) (ha:a < n) (hb:b < n) (hv:0≤v∧v≤1000) :
  Calls Tryd.prog 94 #[.slice (some ⟨g,0,none⟩) n cp,.int .i64 a,.int .i64 b,.pointer (some ⟨bs,0,none⟩)] w fun e w'=>∃ (x y:Nat) (u:Int),((x=a∧y=b∨x=b∧y=a)∧v≤u∧u≤v+1)∧e=.returned (.tuple #[.int .i64 x,.int .i64 y])∧Sat w0 (.blk bs 3 [.int .i64 u] 1::.blk g 3 (flat isV S) tot::M) w':=by
 have q1:=gI (S:=S) (j:=a) (by omega)
 have q2:=gI (S:=S) (j:=b) (by omega)
 have hle:=fun w'=>lessI_holds (S.getD b 0) (S.getD a 0) w'
 refine enterR [(0,.slice (some ⟨g,0,none⟩) n cp),(1,.int .i64 a),(2,.int .i64 b),(3,.pointer (some ⟨bs,0,none⟩))] hw Tryd.func94 Tryd.ntmps94 ?_
 by_cases hc:S.getD b 0 < S.getD a 0
 ·rw [decide_eq_true hc] at hle
  generalize S.getD a 0=x at *
  generalize S.getD b 0=y at *
  all_goals (refine goR ?_;and_intros<;>(try exact trivial)<;>repeat (first|refine fun (Bk:Nat)=>?_|intro h))
  repeat' ((first|(apply G.ld;rfl;(apply LdV.one;exact CellV.blk (by exact mm) q1);rfl)|(apply G.ld;rfl;(apply LdV.one;exact CellV.blk (by exact mm) q2);rfl)|(apply G.cV (g:=75);rfl;rfl;exact fun w' _=>hle w')|(apply J.regA (.q 0 <| .q 1 <| .q 2 <| .q 3 <| .q 4 <| .q 5 <| .q 6 <| .q 7 <| .q 8 <| .nil);exact Tryd.mixed;decide +kernel)|(apply J.regQ;exact Tryd.mixed;decide +kernel)|(apply J.regL';exact Tryd.mixed;decide +kernel))<;>(refine goR ?_;and_intros<;>(try exact trivial)<;>repeat (first|refine fun (Bk:Nat)=>?_|intro h)))
  exact ret2 Tryd.func94 Tryd.results94 fun w' hw'=>⟨b,a,v+1,⟨.inr ⟨rfl,rfl⟩,by omega,by omega⟩,rfl,hw'⟩
 ·rw [decide_eq_false hc] at hle
  generalize S.getD a 0=x at *
  generalize S.getD b 0=y at *
  all_goals (refine goR ?_;and_intros<;>(try exact trivial)<;>repeat (first|refine fun (Bk:Nat)=>?_|intro h))
  repeat' ((first|(apply G.ld;rfl;(apply LdV.one;exact CellV.blk (by exact mm) q1);rfl)|(apply G.ld;rfl;(apply LdV.one;exact CellV.blk (by exact mm) q2);rfl)|(apply G.cV (g:=75);rfl;rfl;exact fun w' _=>hle w')|(apply J.regA (.q 0 <| .q 1 <| .q 2 <| .q 3 <| .q 4 <| .q 5 <| .q 6 <| .q 7 <| .q 8 <| .nil);exact Tryd.mixed;decide +kernel)|(apply J.regQ;exact Tryd.mixed;decide +kernel)|(apply J.regL';exact Tryd.mixed;decide +kernel))<;>(refine goR ?_;and_intros<;>(try exact trivial)<;>repeat (first|refine fun (Bk:Nat)=>?_|intro h)))
  exact ret2 Tryd.func94 Tryd.results94 fun w' hw'=>⟨a,b,v,⟨.inl ⟨rfl,rfl⟩,by omega,by omega⟩,rfl,hw'⟩
theorem median_holds (w0:World) (M:List Row) (w:World) (bs g tot n cp:Nat) (S:List Int) (a b c:Nat) (v:Int) (hw:Sat w0 (.blk bs 3 [.int .i64 v] 1::.blk g 3 (flat isV S) tot::M) w) (hn:n=S.length) (ha:a < n) (hb:b < n) (hc:c < n) (hv:0≤v∧v≤900) :
  Calls Tryd.prog 90 #[.slice (some ⟨g,0,none⟩) n cp,.int .i64 a,.int .i64 b,.int .i64 c,.pointer (some ⟨bs,0,none⟩)] w fun e w'=>∃ (x:Nat) (u:Int),((x=a∨x=b∨x=c)∧v≤u∧u≤v+3)∧e=.returned (.int .i64 x)∧Sat w0 (.blk bs 3 [.int .i64 u] 1::.blk g 3 (flat isV S) tot::M) w':=by
 refine enterR [(0,.slice (some ⟨g,0,none⟩) n cp),(1,.int .i64 a),(2,.int .i64 b),(3,.int .i64 c),(4,.pointer (some ⟨bs,0,none⟩))] hw Tryd.func90 Tryd.ntmps90 ?_
 all_goals (refine go ?_;and_intros<;>(try exact trivial)<;>repeat (first|refine fun (Bk:Nat)=>?_|intro h))
 repeat' ((first|(refine G.cP (d:=16) (g:=94) (X:={ t:Nat×Nat×Int // (t.1=a∧t.2.1=b∨t.1=b∧t.2.1=a)∧v≤t.2.2∧t.2.2≤v+1 }) (fun t=>.tuple #[.int .i64 t.1.1,.int .i64 t.1.2.1]) [.blk bs 3 [.int .i64 v] 1,.blk g 3 (flat isV S) tot] (fun t=>[.blk bs 3 [.int .i64 t.1.2.2] 1,.blk g 3 (flat isV S) tot]) rfl rfl (by (repeat (first|exact List.Perm.refl _|(refine pickT (by (repeat (first|exact Pick.head|apply Pick.tail))) ?_)))) ?_ ?_;exact fun w' hw'=>(order2_holds _ _ w' bs g tot n cp S a b v hw' hn (by omega) (by omega) (by omega)).mono fun e w2 ⟨x,y,u,h1,h2,h3⟩=>⟨⟨(x,y,u),h1⟩,h2,h3⟩;rintro ⟨⟨x1,y1,u1⟩,k1⟩;dsimp only at k1 ⊢))<;>(refine go ?_;and_intros<;>(try exact trivial)<;>repeat (first|refine fun (Bk:Nat)=>?_|intro h)))
 all_goals (refine go ?_;and_intros<;>(try exact trivial)<;>repeat (first|refine fun (Bk:Nat)=>?_|intro h))
 repeat' ((first|(refine G.cP (d:=24) (g:=94) (X:={ t:Nat×Nat×Int // (t.1=y1∧t.2.1=c∨t.1=c∧t.2.1=y1)∧u1≤t.2.2∧t.2.2≤u1+1 }) (fun t=>.tuple #[.int .i64 t.1.1,.int .i64 t.1.2.1]) [.blk bs 3 [.int .i64 u1] 1,.blk g 3 (flat isV S) tot] (fun t=>[.blk bs 3 [.int .i64 t.1.2.2] 1,.blk g 3 (flat isV S) tot]) rfl rfl (by (repeat (first|exact List.Perm.refl _|(refine pickT (by (repeat (first|exact Pick.head|apply Pick.tail))) ?_)))) ?_ ?_;exact fun w' hw'=>(order2_holds _ _ w' bs g tot n cp S y1 c u1 hw' hn (by omega) (by omega) (by omega)).mono fun e w2 ⟨x,y,u,h1,h2,h3⟩=>⟨⟨(x,y,u),h1⟩,h2,h3⟩;rintro ⟨⟨x2,y2,u2⟩,k2⟩;dsimp only at k2 ⊢))<;>(refine go ?_;and_intros<;>(try exact trivial)<;>repeat (first|refine fun (Bk:Nat)=>?_|intro h)))
 all_goals (refine go ?_;and_intros<;>(try exact trivial)<;>repeat (first|refine fun (Bk:Nat)=>?_|intro h))
 repeat' ((first|(refine G.cP (d:=32) (g:=94) (X:={ t:Nat×Nat×Int // (t.1=x1∧t.2.1=x2∨t.1=x2∧t.2.1=x1)∧u2≤t.2.2∧t.2.2≤u2+1 }) (fun t=>.tuple #[.int .i64 t.1.1,.int .i64 t.1.2.1]) [.blk bs 3 [.int .i64 u2] 1,.blk g 3 (flat isV S) tot] (fun t=>[.blk bs 3 [.int .i64 t.1.2.2] 1,.blk g 3 (flat isV S) tot]) rfl rfl (by (repeat (first|exact List.Perm.refl _|(refine pickT (by (repeat (first|exact Pick.head|apply Pick.tail))) ?_)))) ?_ ?_;exact fun w' hw'=>(order2_holds _ _ w' bs g tot n cp S x1 x2 u2 hw' hn (by omega) (by omega) (by omega)).mono fun e w2 ⟨x,y,u,h1,h2,h3⟩=>⟨⟨(x,y,u),h1⟩,h2,h3⟩;rintro ⟨⟨x3,y3,u3⟩,k3⟩;dsimp only at k3 ⊢))<;>(refine go ?_;and_intros<;>(try exact trivial)<;>repeat (first|refine fun (Bk:Nat)=>?_|intro h)))
 exact ret1 Tryd.func90 Tryd.results90 fun w' hw'=>⟨y3,u3,⟨by omega,by omega,by omega⟩,rfl,hw'⟩
theorem medianAdj_holds (w0:World) (M:List Row) (w:World) (bs g tot n cp:Nat) (S:List Int) (a:Nat) (v:Int) (hw:Sat w0 (.blk bs 3 [.int .i64 v] 1::.blk g 3 (flat isV S) tot::M) w) (hn:n=S.length) (hl:n≤1000000000) (ha:a+2 < n) (hv:0≤v∧v≤900) :
  Calls Tryd.prog 89 #[.slice (some ⟨g,0,none⟩) n cp,.int .i64 ((a+1:Nat):Int),.pointer (some ⟨bs,0,none⟩)] w fun e w'=>∃ (x:Nat) (u:Int),((a≤x∧x≤a+2)∧v≤u∧u≤v+3)∧e=.returned (.int .i64 x)∧Sat w0 (.blk bs 3 [.int .i64 u] 1::.blk g 3 (flat isV S) tot::M) w':=by
 refine enterR [(0,.slice (some ⟨g,0,none⟩) n cp),(1,.int .i64 ((a+1:Nat):Int)),(2,.pointer (some ⟨bs,0,none⟩))] hw Tryd.func89 Tryd.ntmps89 ?_
 all_goals (refine go ?_;and_intros<;>(try exact trivial)<;>repeat (first|refine fun (Bk:Nat)=>?_|intro h))
 rw [show ((a+1:Nat):Int)-1=(a:Int) by omega,show ((a+1:Nat):Int)+1=((a+2:Nat):Int) by omega]
 all_goals (refine go ?_;and_intros<;>(try exact trivial)<;>repeat (first|refine fun (Bk:Nat)=>?_|intro h))
 repeat' ((first|(refine G.cP (g:=90) (X:={ t:Nat×Int // (t.1=a∨t.1=a+1∨t.1=a+2)∧v≤t.2∧t.2≤v+3 }) (fun t=>.int .i64 t.1.1) [.blk bs 3 [.int .i64 v] 1,.blk g 3 (flat isV S) tot] (fun t=>[.blk bs 3 [.int .i64 t.1.2] 1,.blk g 3 (flat isV S) tot]) rfl rfl (by (repeat (first|exact List.Perm.refl _|(refine pickT (by (repeat (first|exact Pick.head|apply Pick.tail))) ?_)))) ?_ ?_;exact fun w' hw'=>(median_holds _ _ w' bs g tot n cp S a (a+1) (a+2) v hw' hn (by omega) (by omega) (by omega) hv).mono fun e w2 ⟨x,u,h1,h2,h3⟩=>⟨⟨(x,u),h1⟩,h2,h3⟩;rintro ⟨⟨x1,u1⟩,k1⟩;dsimp only at k1 ⊢))<;>(refine go ?_;and_intros<;>(try exact trivial)<;>repeat (first|refine fun (Bk:Nat)=>?_|intro h)))
 exact ret1 Tryd.func89 Tryd.results89 fun w' hw'=>⟨x1,u1,⟨⟨by omega,by omega⟩,by omega,by omega⟩,rfl,hw'⟩
theorem pivot_holds (w0:World) (M:List Row) (w:World) (g tot n cp:Nat) (S:List Int) (a b:Nat) (hw:Sat w0 (.blk g 3 (flat isV S) tot::M) w) (hn:n=S.length) (hl:n≤1000000000) (hab:a+12 < b) (hb:b≤n) :
  Calls Tryd.prog 72 #[.slice (some ⟨g,0,none⟩) n cp,.int .i64 a,.int .i64 b] w fun e w'=>∃ (x:Nat) (h:Int),((a≤x∧x < b)∧0≤h∧h≤2)∧e=.returned (.tuple #[.int .i64 x,.int .i64 h])∧Sat w0 (.blk g 3 (flat isV S) tot::M) w':=by
 refine enterR [(0,.slice (some ⟨g,0,none⟩) n cp),(1,.int .i64 a),(2,.int .i64 b)] hw Tryd.func72 Tryd.ntmps72 ?_
 obtain ⟨l,rfl⟩:∃ l,b=a+l:=⟨b-a,by omega⟩
 obtain ⟨p1,hp1⟩:∃ p,a+l / 4=p+1:=⟨a+l / 4-1,by omega⟩
 obtain ⟨p2,hp2⟩:∃ p,a+l / 4*2=p+1:=⟨a+l / 4*2-1,by omega⟩
 obtain ⟨p3,hp3⟩:∃ p,a+l / 4*3=p+1:=⟨a+l / 4*3-1,by omega⟩
 have e1:((a:Int)+(((a+l:Nat):Int)-a) / 4*1)=((p1+1:Nat):Int):=by omega
 have e2:((a:Int)+(((a+l:Nat):Int)-a) / 4*2)=((p2+1:Nat):Int):=by omega
 have e3:((a:Int)+(((a+l:Nat):Int)-a) / 4*3)=((p3+1:Nat):Int):=by omega
 have k0:(0:Int)≤0∧(0:Int)≤0:=by omega
 by_cases h50:50≤l
 ·skip
  all_goals (refine go ?_;and_intros<;>(try exact trivial)<;>repeat (first|refine fun (Bk:Nat)=>?_|intro h))
  revert Bk;intro Bs
  simp only [e1,e2,e3]
  all_goals (refine go ?_;and_intros<;>(try exact trivial)<;>repeat (first|refine fun (Bk:Nat)=>?_|intro h))
  repeat' ((first|(refine G.cP (d:=37) (g:=89) (X:={ t:Nat×Int // (p1≤t.1∧t.1≤p1+2)∧0≤t.2∧t.2≤0+3 }) (fun t=>.int .i64 t.1.1) [.blk Bs 3 [.int .i64 0] 1,.blk g 3 (flat isV S) tot] (fun t=>[.blk Bs 3 [.int .i64 t.1.2] 1,.blk g 3 (flat isV S) tot]) rfl rfl (by (repeat (first|exact List.Perm.refl _|(refine pickT (by (repeat (first|exact Pick.head|apply Pick.tail))) ?_)))) ?_ ?_;exact fun w' hw'=>(medianAdj_holds _ _ w' Bs g tot n cp S p1 0 hw' hn hl (by omega) (by omega)).mono fun e w2 ⟨x,u,h1,h2,h3⟩=>⟨⟨(x,u),h1⟩,h2,h3⟩;rintro ⟨⟨x1,u1⟩,k1⟩;dsimp only at k1 ⊢))<;>(refine go ?_;and_intros<;>(try exact trivial)<;>repeat (first|refine fun (Bk:Nat)=>?_|intro h)))
  all_goals (refine go ?_;and_intros<;>(try exact trivial)<;>repeat (first|refine fun (Bk:Nat)=>?_|intro h))
  repeat' ((first|(refine G.cP (d:=40) (g:=89) (X:={ t:Nat×Int // (p2≤t.1∧t.1≤p2+2)∧u1≤t.2∧t.2≤u1+3 }) (fun t=>.int .i64 t.1.1) [.blk Bs 3 [.int .i64 u1] 1,.blk g 3 (flat isV S) tot] (fun t=>[.blk Bs 3 [.int .i64 t.1.2] 1,.blk g 3 (flat isV S) tot]) rfl rfl (by (repeat (first|exact List.Perm.refl _|(refine pickT (by (repeat (first|exact Pick.head|apply Pick.tail))) ?_)))) ?_ ?_;exact fun w' hw'=>(medianAdj_holds _ _ w' Bs g tot n cp S p2 u1 hw' hn hl (by omega) (by omega)).mono fun e w2 ⟨x,u,h1,h2,h3⟩=>⟨⟨(x,u),h1⟩,h2,h3⟩;rintro ⟨⟨x2,u2⟩,k2⟩;dsimp only at k2 ⊢))<;>(refine go ?_;and_intros<;>(try exact trivial)<;>repeat (first|refine fun (Bk:Nat)=>?_|intro h)))
  all_goals (refine go ?_;and_intros<;>(try exact trivial)<;>repeat (first|refine fun (Bk:Nat)=>?_|intro h))
  repeat' ((first|(refine G.cP (d:=43) (g:=89) (X:={ t:Nat×Int // (p3≤t.1∧t.1≤p3+2)∧u2≤t.2∧t.2≤u2+3 }) (fun t=>.int .i64 t.1.1) [.blk Bs 3 [.int .i64 u2] 1,.blk g 3 (flat isV S) tot] (fun t=>[.blk Bs 3 [.int .i64 t.1.2] 1,.blk g 3 (flat isV S) tot]) rfl rfl (by (repeat (first|exact List.Perm.refl _|(refine pickT (by (repeat (first|exact Pick.head|apply Pick.tail))) ?_)))) ?_ ?_;exact fun w' hw'=>(medianAdj_holds _ _ w' Bs g tot n cp S p3 u2 hw' hn hl (by omega) (by omega)).mono fun e w2 ⟨x,u,h1,h2,h3⟩=>⟨⟨(x,u),h1⟩,h2,h3⟩;rintro ⟨⟨x3,u3⟩,k3⟩;dsimp only at k3 ⊢))<;>(refine go ?_;and_intros<;>(try exact trivial)<;>repeat (first|refine fun (Bk:Nat)=>?_|intro h)))
  all_goals (refine go ?_;and_intros<;>(try exact trivial)<;>repeat (first|refine fun (Bk:Nat)=>?_|intro h))
  repeat' ((first|(refine G.cP (d:=48) (g:=90) (X:={ t:Nat×Int // (t.1=x1∨t.1=x2∨t.1=x3)∧u3≤t.2∧t.2≤u3+3 }) (fun t=>.int .i64 t.1.1) [.blk Bs 3 [.int .i64 u3] 1,.blk g 3 (flat isV S) tot] (fun t=>[.blk Bs 3 [.int .i64 t.1.2] 1,.blk g 3 (flat isV S) tot]) rfl rfl (by (repeat (first|exact List.Perm.refl _|(refine pickT (by (repeat (first|exact Pick.head|apply Pick.tail))) ?_)))) ?_ ?_;exact fun w' hw'=>(median_holds _ _ w' Bs g tot n cp S x1 x2 x3 u3 hw' hn (by omega) (by omega) (by omega) (by omega)).mono fun e w2 ⟨x,u,h1,h2,h3⟩=>⟨⟨(x,u),h1⟩,h2,h3⟩;rintro ⟨⟨x4,u4⟩,k4⟩;dsimp only at k4 ⊢))<;>(refine go ?_;and_intros<;>(try exact trivial)<;>repeat (first|refine fun (Bk:Nat)=>?_|intro h)))
  all_goals
   refine ret2 Tryd.func72 Tryd.results72 ?_
   intro w' hw'
   exact ⟨x4,_,⟨⟨by omega,by omega⟩,by decide,by decide⟩,rfl,hw'.forget (List.sublist_cons_self _ _)⟩
 ·skip
  all_goals (refine go ?_;and_intros<;>(try exact trivial)<;>repeat (first|refine fun (Bk:Nat)=>?_|intro h))
  revert Bk;intro Bs
  simp only [e1,e2,e3]
  all_goals (refine go ?_;and_intros<;>(try exact trivial)<;>repeat (first|refine fun (Bk:Nat)=>?_|intro h))
  repeat' ((first|(refine G.cP (d:=48) (g:=90) (X:={ t:Nat×Int // (t.1=(p1+1)∨t.1=(p2+1)∨t.1=(p3+1))∧0≤t.2∧t.2≤0+3 }) (fun t=>.int .i64 t.1.1) [.blk Bs 3 [.int .i64 0] 1,.blk g 3 (flat isV S) tot] (fun t=>[.blk Bs 3 [.int .i64 t.1.2] 1,.blk g 3 (flat isV S) tot]) rfl rfl (by (repeat (first|exact List.Perm.refl _|(refine pickT (by (repeat (first|exact Pick.head|apply Pick.tail))) ?_)))) ?_ ?_;exact fun w' hw'=>(median_holds _ _ w' Bs g tot n cp S (p1+1) (p2+1) (p3+1) 0 hw' hn (by omega) (by omega) (by omega) (by omega)).mono fun e w2 ⟨x,u,h1,h2,h3⟩=>⟨⟨(x,u),h1⟩,h2,h3⟩;rintro ⟨⟨x4,u4⟩,k4⟩;dsimp only at k4 ⊢))<;>(refine go ?_;and_intros<;>(try exact trivial)<;>repeat (first|refine fun (Bk:Nat)=>?_|intro h)))
  all_goals
   refine ret2 Tryd.func72 Tryd.results72 ?_
   intro w' hw'
   exact ⟨x4,_,⟨⟨by omega,by omega⟩,by decide,by decide⟩,rfl,hw'.forget (List.sublist_cons_self _ _)⟩
end Go.Proofs.YtcdgibkbbcekhaaDoor
/-
 Contracts: the partitions of the library's quicksort.
-/
namespace Go.Proofs.YtcdgibkbbcekhaaDoor
open Go.RowKit Go.Sl Go.Num
theorem swp_at {S:List Int}{x y z:Nat} (hx:x < S.length) (hy:y < S.length):(swp S x y).getD z 0=if z=x then S.getD y 0 else if z=y then S.getD x 0 else S.getD z 0:=by
 by_cases h1:z=x
 ·subst h1;rw [if_pos rfl,swp_fst hx hy]
 ·rw [if_neg h1]
  by_cases h2:z=y
  ·subst h2;rw [if_pos rfl,swp_snd hx hy]
  ·rw [if_neg h2,swp_oth hx hy h1 h2]
structure PIn (S:List Int) (a i k b:Nat):Prop where
 h1:a+1≤i
 h2:i≤k
 h3:k≤b
 lo:∀ x,a < x→x < i→S.getD x 0 < S.getD a 0
 hi:∀ y,k≤y→y < b→S.getD a 0≤S.getD y 0
theorem PIn.inc {S:List Int}{a i k b:Nat} (h:PIn S a i k b) (hk:i < k) (hs:S.getD i 0 < S.getD a 0):PIn S a (i+1) k b :=
 ⟨by have:=h.h1;omega,by omega,h.h3,fun x h1 h2=>by
  by_cases hx:x=i
  ·subst hx;exact hs
  ·exact h.lo x h1 (by omega),h.hi⟩
theorem PIn.dec {S:List Int}{a i k b:Nat} (h:PIn S a i (k+1) b) (hk:i < k+1) (hs:S.getD a 0≤S.getD k 0):PIn S a i k b :=
 ⟨h.h1,by omega,by have:=h.h3;omega,h.lo,fun y h1 h2=>by
  by_cases hy:y=k
  ·subst hy;exact hs
  ·exact h.hi y (by omega) h2⟩
theorem PIn.swap {S:List Int}{a i k b:Nat} (h:PIn S a i (k+1) b) (hb:b≤S.length) (hk:i < k) (h1:S.getD a 0≤S.getD i 0) (h2:S.getD k 0 < S.getD a 0):PIn (swp S i k) a (i+1) k b:=by
 have p1:=h.h1
 have p3:=h.h3
 have ha:(swp S i k).getD a 0=S.getD a 0:=by rw [swp_at (by omega) (by omega),if_neg (by omega),if_neg (by omega)]
 refine ⟨by omega,by omega,by omega,fun x q1 q2=>?_,fun y q1 q2=>?_⟩
 ·rw [ha,swp_at (by omega) (by omega)]
  split
  ·exact h2
  ·split
   ·omega
   ·exact h.lo x q1 (by omega)
 ·rw [ha,swp_at (by omega) (by omega)]
  split
  ·omega
  ·split
   ·exact h1
   ·exact h.hi y (by omega) q2
theorem cutK {C:Ctx}{st:List (Nat×Value)}{M:List Row}{k k2:List Item}{X:Type} (stF:X→List (Nat×Value)) (MF:X→List Row) (h:(∀ x,J C (stF x) (MF x) k2)→J C st M k) (hk:∀ x,J C (stF x) (MF x) k2):J C st M k:=h hk
def Par (S:List Int) (a m b:Nat):Prop:=(a≤m∧m < b)∧(∀ x,a≤x→x < m→S.getD x 0≤S.getD m 0)∧∀ y,m < y→y < b→S.getD m 0≤S.getD y 0
theorem PIn.fin {S:List Int}{a k b:Nat} (h:PIn S a (k+1) (k+1) b) (hb:b≤S.length):Par (swp S k a) a k b:=by
 have p1:=h.h1
 have p3:=h.h3
 have hm:(swp S k a).getD k 0=S.getD a 0:=by rw [swp_at (by omega) (by omega),if_pos rfl]
 refine ⟨⟨by omega,by omega⟩,fun x q1 q2=>?_,fun y q1 q2=>?_⟩
 ·rw [hm,swp_at (by omega) (by omega),if_neg (by omega)]
  split
  ·exact Int.le_of_lt (h.lo k (by omega) (by omega))
  ·exact Int.le_of_lt (h.lo x (by omega) (by omega))
 ·rw [hm,swp_at (by omega) (by omega),if_neg (by omega),if_neg (by omega)]
  exact h.hi y (by omega) q2
set_option maxHeartbeats 4000000 in
theorem partition_holds (w0:World) (M:List Row) (w:World) (g tot n cp:Nat) (S:List Int) (a b p:Nat) (hw:Sat w0 (.blk g 3 (flat isV S) tot::M) w) (hb:b≤n) (hn:n=S.length) (hl:n≤1000000000) (hp:a≤p∧p < b) :
  Calls Tryd.prog 77 #[.slice (some ⟨g,0,none⟩) n cp,.int .i64 a,.int .i64 b,.int .i64 p] w fun e w'=>∃ S' m bo,(WP S a b S'∧Par S' a m b)∧e=.returned (.tuple #[.int .i64 (m:Nat),.bool bo])∧Sat w0 (.blk g 3 (flat isV S') tot::M) w':=by
 refine enterR [(0,.slice (some ⟨g,0,none⟩) n cp),(1,.int .i64 a),(2,.int .i64 b),(3,.int .i64 p)] hw Tryd.func77 Tryd.ntmps77 ?_
 have w1:=WP.swp (S:=S) (a:=a) (b:=b) (x:=a) (y:=p) ⟨Nat.le_refl _,by omega⟩ hp (by omega)
 have q1:=gI (S:=S) (j:=a) (by omega)
 have q2:=gI (S:=S) (j:=p) (by omega)
 have r1:=sI (S:=S) (j:=a) (v:=(S).getD p 0) (by omega)
 have r2:=sI (S:=(S).set a ((S).getD p 0)) (j:=p) (v:=(S).getD a 0) (by rw [List.length_set];omega)
 have l1:0+a*1 < (flat isV (S)).length:=by rw [isLen];omega
 have l2:0+p*1 < (flat isV ((S).set a ((S).getD p 0))).length:=by rw [isLen,List.length_set];omega
 dsimp only [swp] at w1
 generalize S.getD a 0=y at *
 generalize S.getD p 0=z at *
 generalize S.set a z=S3 at *
 generalize S3.set p y=S4 at *
 all_goals (refine goR ?_;and_intros<;>(try exact trivial)<;>repeat (first|refine fun (Bk:Nat)=>?_|intro h))
 repeat' ((first|(apply G.ld;rfl;(apply LdV.one;exact CellV.blk (by exact mm) q1);rfl)|(apply G.ld;rfl;(apply LdV.one;exact CellV.blk (by exact mm) q2);rfl)|(apply J.regX 0 [2,3] (.q 0 <| .q 1 <| .q 2 <| .q 3 <| .q 4 <| .q 5 <| .q 6 <| .q 7 <| .q 8 <| .q 9 <| .q 10 <| .q 11 <| .q 12 <| .e 13 <| .q 14 <| .e 15 <| .nil);exact Tryd.mixed;decide +kernel)|(apply G.s1n (n:=0);rfl;rfl;rfl;exact rfl;exact ⟨rfl,rfl⟩;exact l1;exact r1)|(apply G.s1n (n:=0);rfl;rfl;rfl;exact rfl;exact ⟨rfl,rfl⟩;exact l2;exact r2)|(apply J.regQ;exact Tryd.mixed;decide +kernel)|(apply J.regL';exact Tryd.mixed;decide +kernel))<;>(refine goR ?_;and_intros<;>(try exact trivial)<;>repeat (first|refine fun (Bk:Nat)=>?_|intro h)))
 have hl4:=w1.len
 clear q1 q2 r1 r2 l1 l2
 rw [show (a:Int)+1=((a+1:Nat):Int) by omega]
 have hP:PIn S4 a (a+1) b b:=⟨Nat.le_refl _,by omega,Nat.le_refl _,fun x h1 h2=>by omega,fun y h1 h2=>by omega⟩
 apply cutK (X:={ x:Nat // PIn S4 a x b b∧(x=b∨x < b∧(S4).getD a 0≤(S4).getD x 0) }) (fun x=>[(0,.slice (some ⟨g,0,none⟩) n cp),(1,.int .i64 a),(10,.int .i64 (x.1:Nat)),(11,.int .i64 ((b:Int)-1))]) (fun _=>.blk g 3 (flat isV S4) tot::M)
 ·intro hk
  refine J.loop (c:=_) ((a+1):Nat) (fun s=>b-s) (fun s=>[(0,.slice (some ⟨g,0,none⟩) n cp),(1,.int .i64 a),(10,.int .i64 (s:Nat)),(11,.int .i64 ((b:Int)-1))]) (fun s=>.blk g 3 (flat isV S4) tot::M) (fun s=>PIn S4 a s b b) ?_ sbT sbL ?_
  ·exact hP
  intro i hQ ih
  have p1:=hQ.h1
  have p2:=hQ.h2
  have p3:=hQ.h3
  by_cases c1:i < b
  ·have hle:=fun w'=>lessI_holds ((S4).getD i 0) ((S4).getD a 0) w'
   have q1:=gI (S:=S4) (j:=i) (by omega)
   have q2:=gI (S:=S4) (j:=a) (by omega)
   by_cases c2:(S4).getD i 0 < (S4).getD a 0
   ·have ih:=ih (i+1) (hQ.inc c1 c2) (by omega)
    rw [decide_eq_true c2] at hle
    clear hQ hk
    generalize (S4).getD i 0=y at hle q1
    generalize (S4).getD a 0=z at hle q2
    all_goals (refine goR ?_;and_intros<;>(try exact trivial)<;>repeat (first|refine fun (Bk:Nat)=>?_|intro h))
    repeat' ((first|(apply G.ld;rfl;(apply LdV.one;exact CellV.blk (by exact mm) q1);rfl)|(apply G.ld;rfl;(apply LdV.one;exact CellV.blk (by exact mm) q2);rfl)|(apply G.cV (g:=75);rfl;rfl;exact fun w' _=>hle w')|(apply J.regA (.q 0 <| .q 1 <| .q 2 <| .q 3 <| .q 4 <| .q 5 <| .q 6 <| .q 7 <| .q 8 <| .q 9 <| .q 10 <| .q 11 <| .q 12 <| .q 13 <| .nil);exact Tryd.mixed;decide +kernel)|(apply J.regA (.q 0 <| .q 1 <| .q 2 <| .q 3 <| .q 4 <| .q 5 <| .q 6 <| .q 7 <| .q 8 <| .q 9 <| .q 10 <| .q 11 <| .q 12 <| .q 13 <| .q 14 <| .nil);exact Tryd.mixed;decide +kernel)|(apply J.regQ;exact Tryd.mixed;decide +kernel)|(apply J.regL';exact Tryd.mixed;decide +kernel))<;>(refine goR ?_;and_intros<;>(try exact trivial)<;>repeat (first|refine fun (Bk:Nat)=>?_|intro h)))
    exact J.fin ih
   ·have hk2:=hk ⟨i,hQ,.inr ⟨c1,by omega⟩⟩
    dsimp only at hk2
    rw [decide_eq_false c2] at hle
    clear hk hQ ih
    generalize (S4).getD i 0=y at hle q1
    generalize (S4).getD a 0=z at hle q2
    all_goals (refine goR ?_;and_intros<;>(try exact trivial)<;>repeat (first|refine fun (Bk:Nat)=>?_|intro h))
    repeat' ((first|(apply G.ld;rfl;(apply LdV.one;exact CellV.blk (by exact mm) q1);rfl)|(apply G.ld;rfl;(apply LdV.one;exact CellV.blk (by exact mm) q2);rfl)|(apply G.cV (g:=75);rfl;rfl;exact fun w' _=>hle w')|(apply J.regA (.q 0 <| .q 1 <| .q 2 <| .q 3 <| .q 4 <| .q 5 <| .q 6 <| .q 7 <| .q 8 <| .q 9 <| .q 10 <| .q 11 <| .q 12 <| .q 13 <| .nil);exact Tryd.mixed;decide +kernel)|(apply J.regA (.q 0 <| .q 1 <| .q 2 <| .q 3 <| .q 4 <| .q 5 <| .q 6 <| .q 7 <| .q 8 <| .q 9 <| .q 10 <| .q 11 <| .q 12 <| .q 13 <| .q 14 <| .nil);exact Tryd.mixed;decide +kernel)|(apply J.regQ;exact Tryd.mixed;decide +kernel)|(apply J.regL';exact Tryd.mixed;decide +kernel))<;>(refine goR ?_;and_intros<;>(try exact trivial)<;>repeat (first|refine fun (Bk:Nat)=>?_|intro h)))
    exact J.fin hk2
  ·have hk2:=hk ⟨i,hQ,.inl (by omega)⟩
   dsimp only at hk2
   clear hk hQ ih
   all_goals (refine goR ?_;and_intros<;>(try exact trivial)<;>repeat (first|refine fun (Bk:Nat)=>?_|intro h))
   repeat' ((first|(apply G.cV (g:=75);rfl;rfl;exact fun w' _=>hle w')|(apply J.regA (.q 0 <| .q 1 <| .q 2 <| .q 3 <| .q 4 <| .q 5 <| .q 6 <| .q 7 <| .q 8 <| .q 9 <| .q 10 <| .q 11 <| .q 12 <| .q 13 <| .nil);exact Tryd.mixed;decide +kernel)|(apply J.regA (.q 0 <| .q 1 <| .q 2 <| .q 3 <| .q 4 <| .q 5 <| .q 6 <| .q 7 <| .q 8 <| .q 9 <| .q 10 <| .q 11 <| .q 12 <| .q 13 <| .q 14 <| .nil);exact Tryd.mixed;decide +kernel)|(apply J.regQ;exact Tryd.mixed;decide +kernel)|(apply J.regL';exact Tryd.mixed;decide +kernel))<;>(refine goR ?_;and_intros<;>(try exact trivial)<;>repeat (first|refine fun (Bk:Nat)=>?_|intro h)))
   exact J.fin hk2
 clear hP
 rintro ⟨i,hP,hx⟩
 dsimp only at hP hx ⊢
 all_goals (refine go ?_;and_intros<;>(try exact trivial)<;>repeat (first|refine fun (Bk:Nat)=>?_|intro h))
 refine J.loop (c:=_) (b:Nat) (fun s=>s) (fun s=>[(0,.slice (some ⟨g,0,none⟩) n cp),(1,.int .i64 a),(10,.int .i64 (i:Nat)),(11,.int .i64 ((s:Int)-1))]) (fun s=>.blk g 3 (flat isV S4) tot::M) (fun s=>PIn S4 a i s b∧s≤b) ?_ sbT sbL ?_
 ·exact ⟨hP,Nat.le_refl _⟩
 clear hP
 intro k ⟨hP,hk3⟩ ih
 have p1:=hP.h1
 have p2:=hP.h2
 have p3:=hP.h3
 have q2:=gI (S:=S4) (j:=a) (by omega)
 by_cases hst:i < k∧¬ (S4).getD (k-1) 0 < (S4).getD a 0
 ·obtain ⟨k,rfl⟩:∃ j,k=j+1:=⟨k-1,by omega⟩
  rw [Nat.add_sub_cancel] at hst
  obtain ⟨c1,c2⟩:=hst
  rw [show ((k+1:Nat):Int)-1=(k:Int) by omega]
  have hle:=fun w'=>lessI_holds ((S4).getD k 0) ((S4).getD a 0) w'
  have q1:=gI (S:=S4) (j:=k) (by omega)
  have ih:=ih k ⟨hP.dec c1 (by omega),by omega⟩ (by omega)
  rw [decide_eq_false c2] at hle
  clear hP
  generalize (S4).getD k 0=y at hle q1
  generalize (S4).getD a 0=z at hle q2
  all_goals (refine goR ?_;and_intros<;>(try exact trivial)<;>repeat (first|refine fun (Bk:Nat)=>?_|intro h))
  repeat' ((first|(apply G.ld;rfl;(apply LdV.one;exact CellV.blk (by exact mm) q1);rfl)|(apply G.ld;rfl;(apply LdV.one;exact CellV.blk (by exact mm) q2);rfl)|(apply G.cV (g:=75);rfl;rfl;exact fun w' _=>hle w')|(apply J.regA (.q 0 <| .q 1 <| .q 2 <| .q 3 <| .q 4 <| .q 5 <| .q 6 <| .q 7 <| .q 8 <| .q 9 <| .q 10 <| .q 11 <| .q 12 <| .q 13 <| .nil);exact Tryd.mixed;decide +kernel)|(apply J.regA (.q 0 <| .q 1 <| .q 2 <| .q 3 <| .q 4 <| .q 5 <| .q 6 <| .q 7 <| .q 8 <| .q 9 <| .q 10 <| .q 11 <| .q 12 <| .q 13 <| .q 14 <| .nil);exact Tryd.mixed;decide +kernel)|(apply J.regQ;exact Tryd.mixed;decide +kernel)|(apply J.regL';exact Tryd.mixed;decide +kernel))<;>(refine goR ?_;and_intros<;>(try exact trivial)<;>repeat (first|refine fun (Bk:Nat)=>?_|intro h)))
  exact J.fin ih
 clear ih
 by_cases c1:i < k
 ·have hx:S4.getD a 0≤S4.getD i 0:=by
   rcases hx with h|h
   ·exfalso;omega
   ·exact h.2
  obtain ⟨k,rfl⟩:∃ j,k=j+1:=⟨k-1,by omega⟩
  rw [Nat.add_sub_cancel] at hst
  have c2:(S4).getD k 0 < (S4).getD a 0:=Decidable.not_not.1 fun h=>hst ⟨c1,h⟩
  rw [show ((k+1:Nat):Int)-1=(k:Int) by omega]
  have hle:=fun w'=>lessI_holds ((S4).getD k 0) ((S4).getD a 0) w'
  have q1:=gI (S:=S4) (j:=k) (by omega)
  rw [decide_eq_true c2] at hle
  generalize (S4).getD k 0=y at hle q1
  generalize (S4).getD a 0=z at hle q2
  have hik:i≠k:=fun e=>by subst e;omega
  have hsw:=hP.swap (by omega) (by omega) hx c2
  have w2:=w1.trans (WP.swp (S:=S4) (a:=a) (b:=b) (x:=i) (y:=k) ⟨by omega,by omega⟩ ⟨by omega,by omega⟩ (by omega))
  all_goals (refine goR ?_;and_intros<;>(try exact trivial)<;>repeat (first|refine fun (Bk:Nat)=>?_|intro h))
  repeat' ((first|(apply G.ld;rfl;(apply LdV.one;exact CellV.blk (by exact mm) q1);rfl)|(apply G.ld;rfl;(apply LdV.one;exact CellV.blk (by exact mm) q2);rfl)|(apply G.cV (g:=75);rfl;rfl;exact fun w' _=>hle w')|(apply J.regA (.q 0 <| .q 1 <| .q 2 <| .q 3 <| .q 4 <| .q 5 <| .q 6 <| .q 7 <| .q 8 <| .q 9 <| .q 10 <| .q 11 <| .q 12 <| .q 13 <| .nil);exact Tryd.mixed;decide +kernel)|(apply J.regA (.q 0 <| .q 1 <| .q 2 <| .q 3 <| .q 4 <| .q 5 <| .q 6 <| .q 7 <| .q 8 <| .q 9 <| .q 10 <| .q 11 <| .q 12 <| .q 13 <| .q 14 <| .nil);exact Tryd.mixed;decide +kernel)|(apply J.regQ;exact Tryd.mixed;decide +kernel)|(apply J.regL';exact Tryd.mixed;decide +kernel))<;>(refine goR ?_;and_intros<;>(try exact trivial)<;>repeat (first|refine fun (Bk:Nat)=>?_|intro h)))
  have q1:=gI (S:=S4) (j:=i) (by omega)
  have q2:=gI (S:=S4) (j:=k) (by omega)
  have r1:=sI (S:=S4) (j:=i) (v:=(S4).getD k 0) (by omega)
  have r2:=sI (S:=(S4).set i ((S4).getD k 0)) (j:=k) (v:=(S4).getD i 0) (by rw [List.length_set];omega)
  have l1:0+i*1 < (flat isV (S4)).length:=by rw [isLen];omega
  have l2:0+k*1 < (flat isV ((S4).set i ((S4).getD k 0))).length:=by rw [isLen,List.length_set];omega
  dsimp only [swp] at w2 hsw
  clear hP hx w1 hst c2
  generalize S4.getD i 0=y at *
  generalize S4.getD k 0=z at *
  generalize S4.set i z=S5 at *
  generalize S5.set k y=S6 at *
  all_goals (refine goR ?_;and_intros<;>(try exact trivial)<;>repeat (first|refine fun (Bk:Nat)=>?_|intro h))
  repeat' ((first|(apply G.ld;rfl;(apply LdV.one;exact CellV.blk (by exact mm) q1);rfl)|(apply G.ld;rfl;(apply LdV.one;exact CellV.blk (by exact mm) q2);rfl)|(apply J.regX 0 [2,3] (.q 0 <| .q 1 <| .q 2 <| .q 3 <| .q 4 <| .q 5 <| .q 6 <| .q 7 <| .q 8 <| .q 9 <| .q 10 <| .q 11 <| .q 12 <| .e 13 <| .q 14 <| .e 15 <| .nil);exact Tryd.mixed;decide +kernel)|(apply G.s1n (n:=0);rfl;rfl;rfl;exact rfl;exact ⟨rfl,rfl⟩;exact l1;exact r1)|(apply G.s1n (n:=0);rfl;rfl;rfl;exact rfl;exact ⟨rfl,rfl⟩;exact l2;exact r2)|(apply J.regQ;exact Tryd.mixed;decide +kernel)|(apply J.regL';exact Tryd.mixed;decide +kernel))<;>(refine goR ?_;and_intros<;>(try exact trivial)<;>repeat (first|refine fun (Bk:Nat)=>?_|intro h)))
  rw [show (i:Int)+1=((i+1:Nat):Int) by omega]
  have hl6:=w2.len
  clear hl4 q1 q2 r1 r2 l1 l2 p1 p2 p3 hle
  dsimp only [List.set]
  refine J.loop (c:=_) ((i+1,k,S6):Nat×Nat×List Int) (fun s=>s.2.1) (fun s=>[(0,.slice (some ⟨g,0,none⟩) n cp),(1,.int .i64 a),(10,.int .i64 (s.1:Nat)),(11,.int .i64 ((s.2.1:Int)-1))]) (fun s=>.blk g 3 (flat isV s.2.2) tot::M) (fun s=>WP S a b s.2.2∧PIn s.2.2 a s.1 s.2.1 b) ?_ sbT sbL ?_
  ·exact ⟨w2,hsw⟩
  clear w2 hsw hl6
  intro ⟨i,k,S4⟩ ⟨w1,hP⟩ ihm
  dsimp only at w1 hP ⊢
  have hl4:=w1.len
  all_goals (refine go ?_;and_intros<;>(try exact trivial)<;>repeat (first|refine fun (Bk:Nat)=>?_|intro h))
  apply cutK (X:={ x:Nat // PIn S4 a x k b∧(x=k∨x < k∧(S4).getD a 0≤(S4).getD x 0) }) (fun x=>[(0,.slice (some ⟨g,0,none⟩) n cp),(1,.int .i64 a),(10,.int .i64 (x.1:Nat)),(11,.int .i64 ((k:Int)-1))]) (fun _=>.blk g 3 (flat isV S4) tot::M)
  ·intro hk
   refine J.loop (c:=_) (i:Nat) (fun s=>k-s) (fun s=>[(0,.slice (some ⟨g,0,none⟩) n cp),(1,.int .i64 a),(10,.int .i64 (s:Nat)),(11,.int .i64 ((k:Int)-1))]) (fun s=>.blk g 3 (flat isV S4) tot::M) (fun s=>PIn S4 a s k b) ?_ sbT sbL ?_
   ·exact hP
   intro i hQ ih
   have p1:=hQ.h1
   have p2:=hQ.h2
   have p3:=hQ.h3
   by_cases c1:i < k
   ·have hle:=fun w'=>lessI_holds ((S4).getD i 0) ((S4).getD a 0) w'
    have q1:=gI (S:=S4) (j:=i) (by omega)
    have q2:=gI (S:=S4) (j:=a) (by omega)
    by_cases c2:(S4).getD i 0 < (S4).getD a 0
    ·have ih:=ih (i+1) (hQ.inc c1 c2) (by omega)
     rw [decide_eq_true c2] at hle
     clear hQ hk
     generalize (S4).getD i 0=y at hle q1
     generalize (S4).getD a 0=z at hle q2
     all_goals (refine goR ?_;and_intros<;>(try exact trivial)<;>repeat (first|refine fun (Bk:Nat)=>?_|intro h))
     repeat' ((first|(apply G.ld;rfl;(apply LdV.one;exact CellV.blk (by exact mm) q1);rfl)|(apply G.ld;rfl;(apply LdV.one;exact CellV.blk (by exact mm) q2);rfl)|(apply G.cV (g:=75);rfl;rfl;exact fun w' _=>hle w')|(apply J.regA (.q 0 <| .q 1 <| .q 2 <| .q 3 <| .q 4 <| .q 5 <| .q 6 <| .q 7 <| .q 8 <| .q 9 <| .q 10 <| .q 11 <| .q 12 <| .q 13 <| .nil);exact Tryd.mixed;decide +kernel)|(apply J.regA (.q 0 <| .q 1 <| .q 2 <| .q 3 <| .q 4 <| .q 5 <| .q 6 <| .q 7 <| .q 8 <| .q 9 <| .q 10 <| .q 11 <| .q 12 <| .q 13 <| .q 14 <| .nil);exact Tryd.mixed;decide +kernel)|(apply J.regQ;exact Tryd.mixed;decide +kernel)|(apply J.regL';exact Tryd.mixed;decide +kernel))<;>(refine goR ?_;and_intros<;>(try exact trivial)<;>repeat (first|refine fun (Bk:Nat)=>?_|intro h)))
     exact J.fin ih
    ·have hk2:=hk ⟨i,hQ,.inr ⟨c1,by omega⟩⟩
     dsimp only at hk2
     rw [decide_eq_false c2] at hle
     clear hk hQ ih
     generalize (S4).getD i 0=y at hle q1
     generalize (S4).getD a 0=z at hle q2
     all_goals (refine goR ?_;and_intros<;>(try exact trivial)<;>repeat (first|refine fun (Bk:Nat)=>?_|intro h))
     repeat' ((first|(apply G.ld;rfl;(apply LdV.one;exact CellV.blk (by exact mm) q1);rfl)|(apply G.ld;rfl;(apply LdV.one;exact CellV.blk (by exact mm) q2);rfl)|(apply G.cV (g:=75);rfl;rfl;exact fun w' _=>hle w')|(apply J.regA (.q 0 <| .q 1 <| .q 2 <| .q 3 <| .q 4 <| .q 5 <| .q 6 <| .q 7 <| .q 8 <| .q 9 <| .q 10 <| .q 11 <| .q 12 <| .q 13 <| .nil);exact Tryd.mixed;decide +kernel)|(apply J.regA (.q 0 <| .q 1 <| .q 2 <| .q 3 <| .q 4 <| .q 5 <| .q 6 <| .q 7 <| .q 8 <| .q 9 <| .q 10 <| .q 11 <| .q 12 <| .q 13 <| .q 14 <| .nil);exact Tryd.mixed;decide +kernel)|(apply J.regQ;exact Tryd.mixed;decide +kernel)|(apply J.regL';exact Tryd.mixed;decide +kernel))<;>(refine goR ?_;and_intros<;>(try exact trivial)<;>repeat (first|refine fun (Bk:Nat)=>?_|intro h)))
     exact J.fin hk2
   ·have hk2:=hk ⟨i,hQ,.inl (by omega)⟩
    dsimp only at hk2
    clear hk hQ ih
    all_goals (refine goR ?_;and_intros<;>(try exact trivial)<;>repeat (first|refine fun (Bk:Nat)=>?_|intro h))
    repeat' ((first|(apply G.cV (g:=75);rfl;rfl;exact fun w' _=>hle w')|(apply J.regA (.q 0 <| .q 1 <| .q 2 <| .q 3 <| .q 4 <| .q 5 <| .q 6 <| .q 7 <| .q 8 <| .q 9 <| .q 10 <| .q 11 <| .q 12 <| .q 13 <| .nil);exact Tryd.mixed;decide +kernel)|(apply J.regA (.q 0 <| .q 1 <| .q 2 <| .q 3 <| .q 4 <| .q 5 <| .q 6 <| .q 7 <| .q 8 <| .q 9 <| .q 10 <| .q 11 <| .q 12 <| .q 13 <| .q 14 <| .nil);exact Tryd.mixed;decide +kernel)|(apply J.regQ;exact Tryd.mixed;decide +kernel)|(apply J.regL';exact Tryd.mixed;decide +kernel))<;>(refine goR ?_;and_intros<;>(try exact trivial)<;>repeat (first|refine fun (Bk:Nat)=>?_|intro h)))
    exact J.fin hk2
  clear hP
  rintro ⟨i,hP,hx⟩
  dsimp only at hP hx ⊢
  obtain ⟨kk,hkk⟩:∃ kk,kk=k:=⟨_,rfl⟩
  all_goals (refine go ?_;and_intros<;>(try exact trivial)<;>repeat (first|refine fun (Bk:Nat)=>?_|intro h))
  refine J.loop (c:=_) (k:Nat) (fun s=>s) (fun s=>[(0,.slice (some ⟨g,0,none⟩) n cp),(1,.int .i64 a),(10,.int .i64 (i:Nat)),(11,.int .i64 ((s:Int)-1))]) (fun s=>.blk g 3 (flat isV S4) tot::M) (fun s=>PIn S4 a i s b∧s≤k) ?_ sbT sbL ?_
  ·exact ⟨hP,Nat.le_refl _⟩
  clear hP
  intro k ⟨hP,hk3⟩ ih
  have p1:=hP.h1
  have p2:=hP.h2
  have p3:=hP.h3
  have q2:=gI (S:=S4) (j:=a) (by omega)
  by_cases hst:i < k∧¬ (S4).getD (k-1) 0 < (S4).getD a 0
  ·obtain ⟨k,rfl⟩:∃ j,k=j+1:=⟨k-1,by omega⟩
   rw [Nat.add_sub_cancel] at hst
   obtain ⟨c1,c2⟩:=hst
   rw [show ((k+1:Nat):Int)-1=(k:Int) by omega]
   have hle:=fun w'=>lessI_holds ((S4).getD k 0) ((S4).getD a 0) w'
   have q1:=gI (S:=S4) (j:=k) (by omega)
   have ih:=ih k ⟨hP.dec c1 (by omega),by omega⟩ (by omega)
   rw [decide_eq_false c2] at hle
   clear hP
   generalize (S4).getD k 0=y at hle q1
   generalize (S4).getD a 0=z at hle q2
   all_goals (refine goR ?_;and_intros<;>(try exact trivial)<;>repeat (first|refine fun (Bk:Nat)=>?_|intro h))
   repeat' ((first|(apply G.ld;rfl;(apply LdV.one;exact CellV.blk (by exact mm) q1);rfl)|(apply G.ld;rfl;(apply LdV.one;exact CellV.blk (by exact mm) q2);rfl)|(apply G.cV (g:=75);rfl;rfl;exact fun w' _=>hle w')|(apply J.regA (.q 0 <| .q 1 <| .q 2 <| .q 3 <| .q 4 <| .q 5 <| .q 6 <| .q 7 <| .q 8 <| .q 9 <| .q 10 <| .q 11 <| .q 12 <| .q 13 <| .nil);exact Tryd.mixed;decide +kernel)|(apply J.regA (.q 0 <| .q 1 <| .q 2 <| .q 3 <| .q 4 <| .q 5 <| .q 6 <| .q 7 <| .q 8 <| .q 9 <| .q 10 <| .q 11 <| .q 12 <| .q 13 <| .q 14 <| .nil);exact Tryd.mixed;decide +kernel)|(apply J.regQ;exact Tryd.mixed;decide +kernel)|(apply J.regL';exact Tryd.mixed;decide +kernel))<;>(refine goR ?_;and_intros<;>(try exact trivial)<;>repeat (first|refine fun (Bk:Nat)=>?_|intro h)))
   exact J.fin ih
  clear ih
  by_cases c1:i < k
  ·have hx:S4.getD a 0≤S4.getD i 0:=by
    rcases hx with h|h
    ·exfalso;omega
    ·exact h.2
   obtain ⟨k,rfl⟩:∃ j,k=j+1:=⟨k-1,by omega⟩
   rw [Nat.add_sub_cancel] at hst
   have c2:(S4).getD k 0 < (S4).getD a 0:=Decidable.not_not.1 fun h=>hst ⟨c1,h⟩
   rw [show ((k+1:Nat):Int)-1=(k:Int) by omega]
   have hle:=fun w'=>lessI_holds ((S4).getD k 0) ((S4).getD a 0) w'
   have q1:=gI (S:=S4) (j:=k) (by omega)
   rw [decide_eq_true c2] at hle
   generalize (S4).getD k 0=y at hle q1
   generalize (S4).getD a 0=z at hle q2
   have hik:i≠k:=fun e=>by subst e;omega
   have hsw:=hP.swap (by omega) (by omega) hx c2
   have w2:=w1.trans (WP.swp (S:=S4) (a:=a) (b:=b) (x:=i) (y:=k) ⟨by omega,by omega⟩ ⟨by omega,by omega⟩ (by omega))
   all_goals (refine goR ?_;and_intros<;>(try exact trivial)<;>repeat (first|refine fun (Bk:Nat)=>?_|intro h))
   repeat' ((first|(apply G.ld;rfl;(apply LdV.one;exact CellV.blk (by exact mm) q1);rfl)|(apply G.ld;rfl;(apply LdV.one;exact CellV.blk (by exact mm) q2);rfl)|(apply G.cV (g:=75);rfl;rfl;exact fun w' _=>hle w')|(apply J.regA (.q 0 <| .q 1 <| .q 2 <| .q 3 <| .q 4 <| .q 5 <| .q 6 <| .q 7 <| .q 8 <| .q 9 <| .q 10 <| .q 11 <| .q 12 <| .q 13 <| .nil);exact Tryd.mixed;decide +kernel)|(apply J.regA (.q 0 <| .q 1 <| .q 2 <| .q 3 <| .q 4 <| .q 5 <| .q 6 <| .q 7 <| .q 8 <| .q 9 <| .q 10 <| .q 11 <| .q 12 <| .q 13 <| .q 14 <| .nil);exact Tryd.mixed;decide +kernel)|(apply J.regQ;exact Tryd.mixed;decide +kernel)|(apply J.regL';exact Tryd.mixed;decide +kernel))<;>(refine goR ?_;and_intros<;>(try exact trivial)<;>repeat (first|refine fun (Bk:Nat)=>?_|intro h)))
   have q1:=gI (S:=S4) (j:=i) (by omega)
   have q2:=gI (S:=S4) (j:=k) (by omega)
   have r1:=sI (S:=S4) (j:=i) (v:=(S4).getD k 0) (by omega)
   have r2:=sI (S:=(S4).set i ((S4).getD k 0)) (j:=k) (v:=(S4).getD i 0) (by rw [List.length_set];omega)
   have l1:0+i*1 < (flat isV (S4)).length:=by rw [isLen];omega
   have l2:0+k*1 < (flat isV ((S4).set i ((S4).getD k 0))).length:=by rw [isLen,List.length_set];omega
   have ihm:=ihm (i+1,k,swp S4 i k) ⟨w2,hsw⟩ (by dsimp only;omega)
   dsimp only [swp] at ihm
   clear hP hx w1 hst c2 w2 hsw
   generalize S4.getD i 0=y at *
   generalize S4.getD k 0=z at *
   generalize S4.set i z=S5 at *
   generalize S5.set k y=S6 at *
   all_goals (refine goR ?_;and_intros<;>(try exact trivial)<;>repeat (first|refine fun (Bk:Nat)=>?_|intro h))
   repeat' ((first|(apply G.ld;rfl;(apply LdV.one;exact CellV.blk (by exact mm) q1);rfl)|(apply G.ld;rfl;(apply LdV.one;exact CellV.blk (by exact mm) q2);rfl)|(apply J.regX 0 [2,3] (.q 0 <| .q 1 <| .q 2 <| .q 3 <| .q 4 <| .q 5 <| .q 6 <| .q 7 <| .q 8 <| .q 9 <| .q 10 <| .q 11 <| .q 12 <| .e 13 <| .q 14 <| .e 15 <| .nil);exact Tryd.mixed;decide +kernel)|(apply G.s1n (n:=0);rfl;rfl;rfl;exact rfl;exact ⟨rfl,rfl⟩;exact l1;exact r1)|(apply G.s1n (n:=0);rfl;rfl;rfl;exact rfl;exact ⟨rfl,rfl⟩;exact l2;exact r2)|(apply J.regQ;exact Tryd.mixed;decide +kernel)|(apply J.regL';exact Tryd.mixed;decide +kernel))<;>(refine goR ?_;and_intros<;>(try exact trivial)<;>repeat (first|refine fun (Bk:Nat)=>?_|intro h)))
   rw [show (i:Int)+1=((i+1:Nat):Int) by omega]
   exact J.fin ihm
  ·obtain rfl:i=k:=by omega
   obtain ⟨j,rfl⟩:∃ j,i=j+1:=⟨i-1,by omega⟩
   have hfin:=hP.fin (by omega)
   have w2:=w1.trans (WP.swp (S:=S4) (a:=a) (b:=b) (x:=j) (y:=a) ⟨by omega,by omega⟩ ⟨by omega,by omega⟩ (by omega))
   rw [show ((j+1:Nat):Int)-1=(j:Int) by omega]
   all_goals (refine goR ?_;and_intros<;>(try exact trivial)<;>repeat (first|refine fun (Bk:Nat)=>?_|intro h))
   repeat' ((first|(apply G.cV (g:=75);rfl;rfl;exact fun w' _=>hle w')|(apply J.regA (.q 0 <| .q 1 <| .q 2 <| .q 3 <| .q 4 <| .q 5 <| .q 6 <| .q 7 <| .q 8 <| .q 9 <| .q 10 <| .q 11 <| .q 12 <| .q 13 <| .nil);exact Tryd.mixed;decide +kernel)|(apply J.regA (.q 0 <| .q 1 <| .q 2 <| .q 3 <| .q 4 <| .q 5 <| .q 6 <| .q 7 <| .q 8 <| .q 9 <| .q 10 <| .q 11 <| .q 12 <| .q 13 <| .q 14 <| .nil);exact Tryd.mixed;decide +kernel)|(apply J.regQ;exact Tryd.mixed;decide +kernel)|(apply J.regL';exact Tryd.mixed;decide +kernel))<;>(refine goR ?_;and_intros<;>(try exact trivial)<;>repeat (first|refine fun (Bk:Nat)=>?_|intro h)))
   have q1:=gI (S:=S4) (j:=j) (by omega)
   have q2:=gI (S:=S4) (j:=a) (by omega)
   have r1:=sI (S:=S4) (j:=j) (v:=(S4).getD a 0) (by omega)
   have r2:=sI (S:=(S4).set j ((S4).getD a 0)) (j:=a) (v:=(S4).getD j 0) (by rw [List.length_set];omega)
   have l1:0+j*1 < (flat isV (S4)).length:=by rw [isLen];omega
   have l2:0+a*1 < (flat isV ((S4).set j ((S4).getD a 0))).length:=by rw [isLen,List.length_set];omega
   dsimp only [swp] at w2 hfin
   clear hP hx w1 ihm
   generalize S4.getD j 0=y at *
   generalize S4.getD a 0=z at *
   generalize S4.set j z=S5 at *
   generalize S5.set a y=S6 at *
   all_goals (refine goR ?_;and_intros<;>(try exact trivial)<;>repeat (first|refine fun (Bk:Nat)=>?_|intro h))
   repeat' ((first|(apply G.ld;rfl;(apply LdV.one;exact CellV.blk (by exact mm) q1);rfl)|(apply G.ld;rfl;(apply LdV.one;exact CellV.blk (by exact mm) q2);rfl)|(apply J.regX 0 [2,3] (.q 0 <| .q 1 <| .q 2 <| .q 3 <| .q 4 <| .q 5 <| .q 6 <| .q 7 <| .q 8 <| .q 9 <| .q 10 <| .q 11 <| .q 12 <| .e 13 <| .q 14 <| .e 15 <| .nil);exact Tryd.mixed;decide +kernel)|(apply G.s1n (n:=0);rfl;rfl;rfl;exact rfl;exact ⟨rfl,rfl⟩;exact l1;exact r1)|(apply G.s1n (n:=0);rfl;rfl;rfl;exact rfl;exact ⟨rfl,rfl⟩;exact l2;exact r2)|(apply J.regQ;exact Tryd.mixed;decide +kernel)|(apply J.regL';exact Tryd.mixed;decide +kernel))<;>(refine goR ?_;and_intros<;>(try exact trivial)<;>repeat (first|refine fun (Bk:Nat)=>?_|intro h)))
   refine ret2 Tryd.func77 Tryd.results77 ?_
   exact fun w' hw'=>⟨S6,j,false,⟨w2,hfin⟩,rfl,hw'⟩
 ·obtain rfl:i=k:=by omega
  obtain ⟨j,rfl⟩:∃ j,i=j+1:=⟨i-1,by omega⟩
  have hfin:=hP.fin (by omega)
  have w2:=w1.trans (WP.swp (S:=S4) (a:=a) (b:=b) (x:=j) (y:=a) ⟨by omega,by omega⟩ ⟨by omega,by omega⟩ (by omega))
  rw [show ((j+1:Nat):Int)-1=(j:Int) by omega]
  all_goals (refine goR ?_;and_intros<;>(try exact trivial)<;>repeat (first|refine fun (Bk:Nat)=>?_|intro h))
  repeat' ((first|(apply G.cV (g:=75);rfl;rfl;exact fun w' _=>hle w')|(apply J.regA (.q 0 <| .q 1 <| .q 2 <| .q 3 <| .q 4 <| .q 5 <| .q 6 <| .q 7 <| .q 8 <| .q 9 <| .q 10 <| .q 11 <| .q 12 <| .q 13 <| .nil);exact Tryd.mixed;decide +kernel)|(apply J.regA (.q 0 <| .q 1 <| .q 2 <| .q 3 <| .q 4 <| .q 5 <| .q 6 <| .q 7 <| .q 8 <| .q 9 <| .q 10 <| .q 11 <| .q 12 <| .q 13 <| .q 14 <| .nil);exact Tryd.mixed;decide +kernel)|(apply J.regQ;exact Tryd.mixed;decide +kernel)|(apply J.regL';exact Tryd.mixed;decide +kernel))<;>(refine goR ?_;and_intros<;>(try exact trivial)<;>repeat (first|refine fun (Bk:Nat)=>?_|intro h)))
  have q1:=gI (S:=S4) (j:=j) (by omega)
  have q2:=gI (S:=S4) (j:=a) (by omega)
  have r1:=sI (S:=S4) (j:=j) (v:=(S4).getD a 0) (by omega)
  have r2:=sI (S:=(S4).set j ((S4).getD a 0)) (j:=a) (v:=(S4).getD j 0) (by rw [List.length_set];omega)
  have l1:0+j*1 < (flat isV (S4)).length:=by rw [isLen];omega
  have l2:0+a*1 < (flat isV ((S4).set j ((S4).getD a 0))).length:=by rw [isLen,List.length_set];omega
  dsimp only [swp] at w2 hfin
  clear hP hx w1
  generalize S4.getD j 0=y at *
  generalize S4.getD a 0=z at *
  generalize S4.set j z=S5 at *
  generalize S5.set a y=S6 at *
  all_goals (refine goR ?_;and_intros<;>(try exact trivial)<;>repeat (first|refine fun (Bk:Nat)=>?_|intro h))
  repeat' ((first|(apply G.ld;rfl;(apply LdV.one;exact CellV.blk (by exact mm) q1);rfl)|(apply G.ld;rfl;(apply LdV.one;exact CellV.blk (by exact mm) q2);rfl)|(apply J.regX 0 [2,3] (.q 0 <| .q 1 <| .q 2 <| .q 3 <| .q 4 <| .q 5 <| .q 6 <| .q 7 <| .q 8 <| .q 9 <| .q 10 <| .q 11 <| .q 12 <| .e 13 <| .q 14 <| .e 15 <| .nil);exact Tryd.mixed;decide +kernel)|(apply G.s1n (n:=0);rfl;rfl;rfl;exact rfl;exact ⟨rfl,rfl⟩;exact l1;exact r1)|(apply G.s1n (n:=0);rfl;rfl;rfl;exact rfl;exact ⟨rfl,rfl⟩;exact l2;exact r2)|(apply J.regQ;exact Tryd.mixed;decide +kernel)|(apply J.regL';exact Tryd.mixed;decide +kernel))<;>(refine goR ?_;and_intros<;>(try exact trivial)<;>repeat (first|refine fun (Bk:Nat)=>?_|intro h)))
  refine ret2 Tryd.func77 Tryd.results77 ?_
  exact fun w' hw'=>⟨S6,j,true,⟨w2,hfin⟩,rfl,hw'⟩
end Go.Proofs.YtcdgibkbbcekhaaDoor
/-
 Contracts: the partition of elements that are equal to a pivot.
-/
namespace Go.Proofs.YtcdgibkbbcekhaaDoor
open Go.RowKit Go.Sl Go.Num
structure EIn (S:List Int) (a i k b:Nat):Prop where
 h1:a+1≤i
 h2:i≤k
 h3:k≤b
 lo:∀ x,a < x→x < i→S.getD x 0≤S.getD a 0
 hi:∀ y,k≤y→y < b→S.getD a 0 < S.getD y 0
theorem EIn.inc {S:List Int}{a i k b:Nat} (h:EIn S a i k b) (hk:i < k) (hs:S.getD i 0≤S.getD a 0):EIn S a (i+1) k b :=
 ⟨by have:=h.h1;omega,by omega,h.h3,fun x h1 h2=>by
  by_cases hx:x=i
  ·subst hx;exact hs
  ·exact h.lo x h1 (by omega),h.hi⟩
theorem EIn.dec {S:List Int}{a i k b:Nat} (h:EIn S a i (k+1) b) (hk:i < k+1) (hs:S.getD a 0 < S.getD k 0):EIn S a i k b :=
 ⟨h.h1,by omega,by have:=h.h3;omega,h.lo,fun y h1 h2=>by
  by_cases hy:y=k
  ·subst hy;exact hs
  ·exact h.hi y (by omega) h2⟩
theorem EIn.swap {S:List Int}{a i k b:Nat} (h:EIn S a i (k+1) b) (hb:b≤S.length) (hk:i < k) (h1:S.getD a 0 < S.getD i 0) (h2:S.getD k 0≤S.getD a 0):EIn (swp S i k) a (i+1) k b:=by
 have p1:=h.h1
 have p3:=h.h3
 have ha:(swp S i k).getD a 0=S.getD a 0:=by rw [swp_at (by omega) (by omega),if_neg (by omega),if_neg (by omega)]
 refine ⟨by omega,by omega,by omega,fun x q1 q2=>?_,fun y q1 q2=>?_⟩
 ·rw [ha,swp_at (by omega) (by omega)]
  split
  ·exact h2
  ·split
   ·omega
   ·exact h.lo x q1 (by omega)
 ·rw [ha,swp_at (by omega) (by omega)]
  split
  ·omega
  ·split
   ·exact h1
   ·exact h.hi y (by omega) q2
set_option maxHeartbeats 4000000 in
theorem partEqual_holds (w0:World) (M:List Row) (w:World) (g tot n cp:Nat) (S:List Int) (a b p:Nat) (hw:Sat w0 (.blk g 3 (flat isV S) tot::M) w) (hb:b≤n) (hn:n=S.length) (hl:n≤1000000000) (hp:a≤p∧p < b) :
  Calls Tryd.prog 76 #[.slice (some ⟨g,0,none⟩) n cp,.int .i64 a,.int .i64 b,.int .i64 p] w fun e w'=>∃ S' m,(WP S a b S'∧EIn S' a m m b∧S'.getD a 0=S.getD p 0)∧e=.returned (.int .i64 (m:Nat))∧Sat w0 (.blk g 3 (flat isV S') tot::M) w':=by
 refine enterR [(0,.slice (some ⟨g,0,none⟩) n cp),(1,.int .i64 a),(2,.int .i64 b),(3,.int .i64 p)] hw Tryd.func76 Tryd.ntmps76 ?_
 have w1:=WP.swp (S:=S) (a:=a) (b:=b) (x:=a) (y:=p) ⟨Nat.le_refl _,by omega⟩ hp (by omega)
 have hv:(swp S a p).getD a 0=S.getD p 0:=by rw [swp_at (by omega) (by omega),if_pos rfl]
 obtain ⟨P0,hP0⟩:∃ P0,S.getD p 0=P0:=⟨_,rfl⟩
 rw [hP0] at hv ⊢
 have q1:=gI (S:=S) (j:=a) (by omega)
 have q2:=gI (S:=S) (j:=p) (by omega)
 have r1:=sI (S:=S) (j:=a) (v:=(S).getD p 0) (by omega)
 have r2:=sI (S:=(S).set a ((S).getD p 0)) (j:=p) (v:=(S).getD a 0) (by rw [List.length_set];omega)
 have l1:0+a*1 < (flat isV (S)).length:=by rw [isLen];omega
 have l2:0+p*1 < (flat isV ((S).set a ((S).getD p 0))).length:=by rw [isLen,List.length_set];omega
 dsimp only [swp] at w1 hv
 clear hP0
 generalize S.getD a 0=y at *
 generalize S.getD p 0=z at *
 generalize S.set a z=S3 at *
 generalize S3.set p y=S4 at *
 all_goals (refine goR ?_;and_intros<;>(try exact trivial)<;>repeat (first|refine fun (Bk:Nat)=>?_|intro h))
 repeat' ((first|(apply G.ld;rfl;(apply LdV.one;exact CellV.blk (by exact mm) q1);rfl)|(apply G.ld;rfl;(apply LdV.one;exact CellV.blk (by exact mm) q2);rfl)|(apply J.regX 0 [2,3] (.q 0 <| .q 1 <| .q 2 <| .q 3 <| .q 4 <| .q 5 <| .q 6 <| .q 7 <| .q 8 <| .q 9 <| .q 10 <| .q 11 <| .q 12 <| .e 13 <| .q 14 <| .e 15 <| .nil);exact Tryd.mixed;decide +kernel)|(apply G.s1n (n:=0);rfl;rfl;rfl;exact rfl;exact ⟨rfl,rfl⟩;exact l1;exact r1)|(apply G.s1n (n:=0);rfl;rfl;rfl;exact rfl;exact ⟨rfl,rfl⟩;exact l2;exact r2)|(apply J.regQ;exact Tryd.mixed;decide +kernel)|(apply J.regL';exact Tryd.mixed;decide +kernel))<;>(refine goR ?_;and_intros<;>(try exact trivial)<;>repeat (first|refine fun (Bk:Nat)=>?_|intro h)))
 have hl4:=w1.len
 clear q1 q2 r1 r2 l1 l2
 rw [show (a:Int)+1=((a+1:Nat):Int) by omega]
 have hP:EIn S4 a (a+1) b b:=⟨Nat.le_refl _,by omega,Nat.le_refl _,fun x h1 h2=>by omega,fun y h1 h2=>by omega⟩
 dsimp only [List.set]
 refine J.loop (c:=_) ((a+1,b,S4):Nat×Nat×List Int) (fun s=>s.2.1) (fun s=>[(0,.slice (some ⟨g,0,none⟩) n cp),(1,.int .i64 a),(9,.int .i64 (s.1:Nat)),(10,.int .i64 ((s.2.1:Int)-1))]) (fun s=>.blk g 3 (flat isV s.2.2) tot::M) (fun s=>WP S a b s.2.2∧EIn s.2.2 a s.1 s.2.1 b∧s.2.2.getD a 0=P0) ?_ sbT sbL ?_
 ·exact ⟨w1,hP,hv⟩
 clear w1 hP hv hl4
 intro ⟨i,k,S4⟩ ⟨w1,hP,hv⟩ ihm
 dsimp only at w1 hP hv ⊢
 have hl4:=w1.len
 all_goals (refine go ?_;and_intros<;>(try exact trivial)<;>repeat (first|refine fun (Bk:Nat)=>?_|intro h))
 apply cutK (X:={ x:Nat // EIn S4 a x k b∧(x=k∨x < k∧(S4).getD a 0 < (S4).getD x 0) }) (fun x=>[(0,.slice (some ⟨g,0,none⟩) n cp),(1,.int .i64 a),(9,.int .i64 (x.1:Nat)),(10,.int .i64 ((k:Int)-1))]) (fun _=>.blk g 3 (flat isV S4) tot::M)
 ·intro hk
  refine J.loop (c:=_) (i:Nat) (fun s=>k-s) (fun s=>[(0,.slice (some ⟨g,0,none⟩) n cp),(1,.int .i64 a),(9,.int .i64 (s:Nat)),(10,.int .i64 ((k:Int)-1))]) (fun s=>.blk g 3 (flat isV S4) tot::M) (fun s=>EIn S4 a s k b) ?_ sbT sbL ?_
  ·exact hP
  intro i hQ ih
  have p1:=hQ.h1
  have p2:=hQ.h2
  have p3:=hQ.h3
  by_cases c1:i < k
  ·have hle:=fun w'=>lessI_holds ((S4).getD a 0) ((S4).getD i 0) w'
   have q1:=gI (S:=S4) (j:=i) (by omega)
   have q2:=gI (S:=S4) (j:=a) (by omega)
   by_cases c2:¬ (S4).getD a 0 < (S4).getD i 0
   ·have ih:=ih (i+1) (hQ.inc c1 (by omega)) (by omega)
    rw [decide_eq_false c2] at hle
    clear hQ hk
    generalize (S4).getD i 0=y at hle q1
    generalize (S4).getD a 0=z at hle q2
    all_goals (refine goR ?_;and_intros<;>(try exact trivial)<;>repeat (first|refine fun (Bk:Nat)=>?_|intro h))
    repeat' ((first|(apply G.ld;rfl;(apply LdV.one;exact CellV.blk (by exact mm) q1);rfl)|(apply G.ld;rfl;(apply LdV.one;exact CellV.blk (by exact mm) q2);rfl)|(apply G.cV (g:=75);rfl;rfl;exact fun w' _=>hle w')|(apply J.regA (.q 0 <| .q 1 <| .q 2 <| .q 3 <| .q 4 <| .q 5 <| .q 6 <| .q 7 <| .q 8 <| .q 9 <| .q 10 <| .q 11 <| .q 12 <| .q 13 <| .nil);exact Tryd.mixed;decide +kernel)|(apply J.regA (.q 0 <| .q 1 <| .q 2 <| .q 3 <| .q 4 <| .q 5 <| .q 6 <| .q 7 <| .q 8 <| .q 9 <| .q 10 <| .q 11 <| .q 12 <| .q 13 <| .q 14 <| .nil);exact Tryd.mixed;decide +kernel)|(apply J.regQ;exact Tryd.mixed;decide +kernel)|(apply J.regL';exact Tryd.mixed;decide +kernel))<;>(refine goR ?_;and_intros<;>(try exact trivial)<;>repeat (first|refine fun (Bk:Nat)=>?_|intro h)))
    exact J.fin ih
   ·have hk2:=hk ⟨i,hQ,.inr ⟨c1,by omega⟩⟩
    dsimp only at hk2
    have c2:=Decidable.not_not.1 c2
    rw [decide_eq_true c2] at hle
    clear hk hQ ih
    generalize (S4).getD i 0=y at hle q1
    generalize (S4).getD a 0=z at hle q2
    all_goals (refine goR ?_;and_intros<;>(try exact trivial)<;>repeat (first|refine fun (Bk:Nat)=>?_|intro h))
    repeat' ((first|(apply G.ld;rfl;(apply LdV.one;exact CellV.blk (by exact mm) q1);rfl)|(apply G.ld;rfl;(apply LdV.one;exact CellV.blk (by exact mm) q2);rfl)|(apply G.cV (g:=75);rfl;rfl;exact fun w' _=>hle w')|(apply J.regA (.q 0 <| .q 1 <| .q 2 <| .q 3 <| .q 4 <| .q 5 <| .q 6 <| .q 7 <| .q 8 <| .q 9 <| .q 10 <| .q 11 <| .q 12 <| .q 13 <| .nil);exact Tryd.mixed;decide +kernel)|(apply J.regA (.q 0 <| .q 1 <| .q 2 <| .q 3 <| .q 4 <| .q 5 <| .q 6 <| .q 7 <| .q 8 <| .q 9 <| .q 10 <| .q 11 <| .q 12 <| .q 13 <| .q 14 <| .nil);exact Tryd.mixed;decide +kernel)|(apply J.regQ;exact Tryd.mixed;decide +kernel)|(apply J.regL';exact Tryd.mixed;decide +kernel))<;>(refine goR ?_;and_intros<;>(try exact trivial)<;>repeat (first|refine fun (Bk:Nat)=>?_|intro h)))
    exact J.fin hk2
  ·have hk2:=hk ⟨i,hQ,.inl (by omega)⟩
   dsimp only at hk2
   clear hk hQ ih
   all_goals (refine goR ?_;and_intros<;>(try exact trivial)<;>repeat (first|refine fun (Bk:Nat)=>?_|intro h))
   repeat' ((first|(apply G.cV (g:=75);rfl;rfl;exact fun w' _=>hle w')|(apply J.regA (.q 0 <| .q 1 <| .q 2 <| .q 3 <| .q 4 <| .q 5 <| .q 6 <| .q 7 <| .q 8 <| .q 9 <| .q 10 <| .q 11 <| .q 12 <| .q 13 <| .nil);exact Tryd.mixed;decide +kernel)|(apply J.regA (.q 0 <| .q 1 <| .q 2 <| .q 3 <| .q 4 <| .q 5 <| .q 6 <| .q 7 <| .q 8 <| .q 9 <| .q 10 <| .q 11 <| .q 12 <| .q 13 <| .q 14 <| .nil);exact Tryd.mixed;decide +kernel)|(apply J.regQ;exact Tryd.mixed;decide +kernel)|(apply J.regL';exact Tryd.mixed;decide +kernel))<;>(refine goR ?_;and_intros<;>(try exact trivial)<;>repeat (first|refine fun (Bk:Nat)=>?_|intro h)))
   exact J.fin hk2
 clear hP
 rintro ⟨i,hP,hx⟩
 dsimp only at hP hx ⊢
 all_goals (refine go ?_;and_intros<;>(try exact trivial)<;>repeat (first|refine fun (Bk:Nat)=>?_|intro h))
 refine J.loop (c:=_) (k:Nat) (fun s=>s) (fun s=>[(0,.slice (some ⟨g,0,none⟩) n cp),(1,.int .i64 a),(9,.int .i64 (i:Nat)),(10,.int .i64 ((s:Int)-1))]) (fun s=>.blk g 3 (flat isV S4) tot::M) (fun s=>EIn S4 a i s b∧s≤k) ?_ sbT sbL ?_
 ·exact ⟨hP,Nat.le_refl _⟩
 clear hP
 intro k ⟨hP,hk3⟩ ih
 have p1:=hP.h1
 have p2:=hP.h2
 have p3:=hP.h3
 have q2:=gI (S:=S4) (j:=a) (by omega)
 by_cases hst:i < k∧(S4).getD a 0 < (S4).getD (k-1) 0
 ·obtain ⟨k,rfl⟩:∃ j,k=j+1:=⟨k-1,by omega⟩
  rw [Nat.add_sub_cancel] at hst
  obtain ⟨c1,c2⟩:=hst
  rw [show ((k+1:Nat):Int)-1=(k:Int) by omega]
  have hle:=fun w'=>lessI_holds ((S4).getD a 0) ((S4).getD k 0) w'
  have q1:=gI (S:=S4) (j:=k) (by omega)
  have ih:=ih k ⟨hP.dec c1 (by omega),by omega⟩ (by omega)
  rw [decide_eq_true c2] at hle
  clear hP
  generalize (S4).getD k 0=y at hle q1
  generalize (S4).getD a 0=z at hle q2
  all_goals (refine goR ?_;and_intros<;>(try exact trivial)<;>repeat (first|refine fun (Bk:Nat)=>?_|intro h))
  repeat' ((first|(apply G.ld;rfl;(apply LdV.one;exact CellV.blk (by exact mm) q1);rfl)|(apply G.ld;rfl;(apply LdV.one;exact CellV.blk (by exact mm) q2);rfl)|(apply G.cV (g:=75);rfl;rfl;exact fun w' _=>hle w')|(apply J.regA (.q 0 <| .q 1 <| .q 2 <| .q 3 <| .q 4 <| .q 5 <| .q 6 <| .q 7 <| .q 8 <| .q 9 <| .q 10 <| .q 11 <| .q 12 <| .q 13 <| .nil);exact Tryd.mixed;decide +kernel)|(apply J.regA (.q 0 <| .q 1 <| .q 2 <| .q 3 <| .q 4 <| .q 5 <| .q 6 <| .q 7 <| .q 8 <| .q 9 <| .q 10 <| .q 11 <| .q 12 <| .q 13 <| .q 14 <| .nil);exact Tryd.mixed;decide +kernel)|(apply J.regQ;exact Tryd.mixed;decide +kernel)|(apply J.regL';exact Tryd.mixed;decide +kernel))<;>(refine goR ?_;and_intros<;>(try exact trivial)<;>repeat (first|refine fun (Bk:Nat)=>?_|intro h)))
  exact J.fin ih
 clear ih
 by_cases c1:i < k
 ·have hx:S4.getD a 0 < S4.getD i 0:=by
   rcases hx with h|h
   ·exfalso;omega
   ·exact h.2
  obtain ⟨k,rfl⟩:∃ j,k=j+1:=⟨k-1,by omega⟩
  rw [Nat.add_sub_cancel] at hst
  have c2:¬ (S4).getD a 0 < (S4).getD k 0:=fun h=>hst ⟨c1,h⟩
  rw [show ((k+1:Nat):Int)-1=(k:Int) by omega]
  have hle:=fun w'=>lessI_holds ((S4).getD a 0) ((S4).getD k 0) w'
  have q1:=gI (S:=S4) (j:=k) (by omega)
  rw [decide_eq_false c2] at hle
  generalize (S4).getD k 0=y at hle q1
  generalize (S4).getD a 0=z at hle q2
  have hik:i≠k:=fun e=>by subst e;omega
  have hsw:=hP.swap (by omega) (by omega) hx (by omega)
  have hv2:(swp S4 i k).getD a 0=P0:=by rw [swp_at (by omega) (by omega),if_neg (by omega),if_neg (by omega)];exact hv
  have w2:=w1.trans (WP.swp (S:=S4) (a:=a) (b:=b) (x:=i) (y:=k) ⟨by omega,by omega⟩ ⟨by omega,by omega⟩ (by omega))
  all_goals (refine goR ?_;and_intros<;>(try exact trivial)<;>repeat (first|refine fun (Bk:Nat)=>?_|intro h))
  repeat' ((first|(apply G.ld;rfl;(apply LdV.one;exact CellV.blk (by exact mm) q1);rfl)|(apply G.ld;rfl;(apply LdV.one;exact CellV.blk (by exact mm) q2);rfl)|(apply G.cV (g:=75);rfl;rfl;exact fun w' _=>hle w')|(apply J.regA (.q 0 <| .q 1 <| .q 2 <| .q 3 <| .q 4 <| .q 5 <| .q 6 <| .q 7 <| .q 8 <| .q 9 <| .q 10 <| .q 11 <| .q 12 <| .q 13 <| .nil);exact Tryd.mixed;decide +kernel)|(apply J.regA (.q 0 <| .q 1 <| .q 2 <| .q 3 <| .q 4 <| .q 5 <| .q 6 <| .q 7 <| .q 8 <| .q 9 <| .q 10 <| .q 11 <| .q 12 <| .q 13 <| .q 14 <| .nil);exact Tryd.mixed;decide +kernel)|(apply J.regQ;exact Tryd.mixed;decide +kernel)|(apply J.regL';exact Tryd.mixed;decide +kernel))<;>(refine goR ?_;and_intros<;>(try exact trivial)<;>repeat (first|refine fun (Bk:Nat)=>?_|intro h)))
  have q1:=gI (S:=S4) (j:=i) (by omega)
  have q2:=gI (S:=S4) (j:=k) (by omega)
  have r1:=sI (S:=S4) (j:=i) (v:=(S4).getD k 0) (by omega)
  have r2:=sI (S:=(S4).set i ((S4).getD k 0)) (j:=k) (v:=(S4).getD i 0) (by rw [List.length_set];omega)
  have l1:0+i*1 < (flat isV (S4)).length:=by rw [isLen];omega
  have l2:0+k*1 < (flat isV ((S4).set i ((S4).getD k 0))).length:=by rw [isLen,List.length_set];omega
  have ihm:=ihm (i+1,k,swp S4 i k) ⟨w2,hsw,hv2⟩ (by dsimp only;omega)
  dsimp only [swp] at ihm
  clear hP hx w1 hst c2 w2 hsw hv hv2
  generalize S4.getD i 0=y at *
  generalize S4.getD k 0=z at *
  generalize S4.set i z=S5 at *
  generalize S5.set k y=S6 at *
  all_goals (refine goR ?_;and_intros<;>(try exact trivial)<;>repeat (first|refine fun (Bk:Nat)=>?_|intro h))
  repeat' ((first|(apply G.ld;rfl;(apply LdV.one;exact CellV.blk (by exact mm) q1);rfl)|(apply G.ld;rfl;(apply LdV.one;exact CellV.blk (by exact mm) q2);rfl)|(apply J.regX 0 [2,3] (.q 0 <| .q 1 <| .q 2 <| .q 3 <| .q 4 <| .q 5 <| .q 6 <| .q 7 <| .q 8 <| .q 9 <| .q 10 <| .q 11 <| .q 12 <| .e 13 <| .q 14 <| .e 15 <| .nil);exact Tryd.mixed;decide +kernel)|(apply G.s1n (n:=0);rfl;rfl;rfl;exact rfl;exact ⟨rfl,rfl⟩;exact l1;exact r1)|(apply G.s1n (n:=0);rfl;rfl;rfl;exact rfl;exact ⟨rfl,rfl⟩;exact l2;exact r2)|(apply J.regQ;exact Tryd.mixed;decide +kernel)|(apply J.regL';exact Tryd.mixed;decide +kernel))<;>(refine goR ?_;and_intros<;>(try exact trivial)<;>repeat (first|refine fun (Bk:Nat)=>?_|intro h)))
  rw [show (i:Int)+1=((i+1:Nat):Int) by omega]
  exact J.fin ihm
 ·obtain rfl:i=k:=by omega
  clear ihm
  all_goals (refine goR ?_;and_intros<;>(try exact trivial)<;>repeat (first|refine fun (Bk:Nat)=>?_|intro h))
  repeat' ((first|(apply G.cV (g:=75);rfl;rfl;exact fun w' _=>hle w')|(apply J.regA (.q 0 <| .q 1 <| .q 2 <| .q 3 <| .q 4 <| .q 5 <| .q 6 <| .q 7 <| .q 8 <| .q 9 <| .q 10 <| .q 11 <| .q 12 <| .q 13 <| .nil);exact Tryd.mixed;decide +kernel)|(apply J.regA (.q 0 <| .q 1 <| .q 2 <| .q 3 <| .q 4 <| .q 5 <| .q 6 <| .q 7 <| .q 8 <| .q 9 <| .q 10 <| .q 11 <| .q 12 <| .q 13 <| .q 14 <| .nil);exact Tryd.mixed;decide +kernel)|(apply J.regQ;exact Tryd.mixed;decide +kernel)|(apply J.regL';exact Tryd.mixed;decide +kernel))<;>(refine goR ?_;and_intros<;>(try exact trivial)<;>repeat (first|refine fun (Bk:Nat)=>?_|intro h)))
  refine ret1 Tryd.func76 Tryd.results76 ?_
  exact fun w' hw'=>⟨S4,i,⟨w1,hP,hv⟩,rfl,hw'⟩
end Go.Proofs.YtcdgibkbbcekhaaDoor
