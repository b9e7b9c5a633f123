/-
  Plain: distances that are lowered along edges, round by round, in place: either nothing changes in a round, or going back leads into a cycle with a negative sum.
-/
import Derived.Test.YtjcecdmbfmccoaaGreatDoorWA7
set_option linter.unusedVariables false
set_option linter.unusedSimpArgs false
set_option linter.unusedSectionVars false
namespace Go.Proofs.YtjcecdmbfmccoaaGreatDoor
structure BF where
 d:Nat->Rat
 p:Nat->Nat
 u:Nat->Nat
def yA (m:Nat->Nat->Option Rat) (d:Nat->Rat) (a b:Nat):Prop:=∀ w,m a b=some w->a≠b->d b<=d a+w
def itP (p:Nat->Nat):Nat->Nat->Nat
 | 0,v=>v
 | k+1,v=>itP p k (p v)
theorem gL (p:Nat->Nat):∀ j k v,itP p (j+k) v=itP p k (itP p j v)
 | 0,k,v=>by rw [Nat.zero_add];rfl
 | j+1,k,v=>by rw [Nat.succ_add];exact gL p j k (p v)
theorem nK (p:Nat->Nat) (k v:Nat):itP p (k+1) v=p (itP p k v):=gL p k 1 v
def wsP (m:Nat->Nat->Option Rat) (p:Nat->Nat):Nat->Nat->Rat
 | 0,_=>0
 | k+1,v=>(m (p v) v).getD 0+wsP m p k (p v)
theorem Dw (m:Nat->Nat->Option Rat) (p:Nat->Nat):∀ j k v,wsP m p (j+k) v=wsP m p j v+wsP m p k (itP p j v)
 | 0,k,v=>by rw [Nat.zero_add,wsP,Rat.zero_add];rfl
 | j+1,k,v=>by
  rw [Nat.succ_add];show (m (p v) v).getD 0+wsP m p (j+k) (p v)=(m (p v) v).getD 0+wsP m p j (p v)+wsP m p k (itP p j (p v))
  rw [Dw m p j k (p v),Rat.add_assoc]
theorem nL {p q:Nat->Nat}:∀ {k v},(∀ i,i < k->q (itP p i v)=p (itP p i v))->itP q k v=itP p k v
 | 0,v,_=>rfl
 | k+1,v,h=>by
  have h0:q v=p v:=h 0 (Nat.succ_pos _);show itP q k (q v)=itP p k (p v)
  rw [h0];exact nL fun i hi=>h (i+1) (Nat.succ_lt_succ hi)
theorem uY {m:Nat->Nat->Option Rat}{p q:Nat->Nat}:∀ {k v},(∀ i,i < k->q (itP p i v)=p (itP p i v))->wsP m q k v=wsP m p k v
 | 0,v,_=>rfl
 | k+1,v,h=>by
  have h0:q v=p v:=h 0 (Nat.succ_pos _);show (m (q v) v).getD 0+wsP m q k (q v)=(m (p v) v).getD 0+wsP m p k (p v)
  rw [h0,uY fun i hi=>h (i+1) (Nat.succ_lt_succ hi)]
structure Cyc (p:Nat->Nat) (u:Nat->Nat) (k v:Nat):Prop where
 pos:1<=k
 back:itP p k v=v
 once:∀ i,0 < i->i < k->itP p i v≠v
 set:∀ i,i < k->1<=u (itP p i v)
theorem Cyc.inj {p u:Nat->Nat}{k v:Nat} (h:Cyc p u k v) {i j:Nat} (hij:i < j) (hj:j < k):itP p i v≠itP p j v:=fun e=>by
 have h1:itP p (k-j) (itP p j v)=v:=by
  rw [<- gL,show j+(k-j)=k by omega];exact h.back
 rw [<- e,<- gL] at h1;exact h.once (i+(k-j)) om om h1
structure kA (m:Nat->Nat->Option Rat) (r:Nat) (P:Nat->Nat->Prop) (s:BF):Prop where
 un:∀ a b,¬ yA m s.d a b->r<=s.u a+1/\(P a b->r<=s.u a)
 pr:∀ v,1<=s.u v->∃ w,m (s.p v) v=some w/\s.p v≠v/\s.d (s.p v)+w<=s.d v/\s.u v<=s.u (s.p v)+1
 le:∀ v,s.u v<=r
 cy:∀ k v,Cyc s.p s.u k v->wsP m s.p k v < 0
theorem N8 {m:Nat->Nat->Option Rat}{r:Nat}{P:Nat->Nat->Prop}{s:BF} (h:kA m r P s):∀ {k v},(∀ i,i < k->1<=s.u (itP s.p i v))->s.d (itP s.p k v)+wsP m s.p k v<=s.d v
 | 0,v,_=>by show s.d v+0<=s.d v;rw [Rat.add_zero];exact Rat.le_refl
 | k+1,v,hk=>by
  obtain ⟨w,h1,_,h2,_⟩:=h.pr v (hk 0 (Nat.succ_pos _));have ih:=N8 h (k:=k) (v:=s.p v) fun i hi=>hk (i+1) (Nat.succ_lt_succ hi)
  show s.d (itP s.p k (s.p v))+((m (s.p v) v).getD 0+wsP m s.p k (s.p v))<=s.d v
  rw [h1];show s.d (itP s.p k (s.p v))+(w+wsP m s.p k (s.p v))<=s.d v
  grind
def uZ (s:BF) (r a b:Nat) (w:Rat):BF:=⟨fun v=>if v=b then s.d a+w else s.d v,fun v=>if v=b then a else s.p v,fun v=>if v=b then r else s.u v⟩
def ML (P:Nat->Nat->Prop) (a b:Nat):Nat->Nat->Prop:=fun x y=>P x y∨(x=a/\y=b)
theorem kA.skip {m:Nat->Nat->Option Rat}{r:Nat}{P:Nat->Nat->Prop}{s:BF} (h:kA m r P s) {a b:Nat} (hf:yA m s.d a b):kA m r (ML P a b) s :=
 ⟨fun x y hn=>⟨(h.un x y hn).1,fun hp=>hp.elim (h.un x y hn).2 fun ⟨e1,e2⟩=>absurd (e1 ▸ e2 ▸ hf) hn⟩,h.pr,h.le,h.cy⟩
theorem kA.relax {m:Nat->Nat->Option Rat}{r:Nat}{P:Nat->Nat->Prop}{s:BF} (h:kA m r P s) (hr:1<=r) {a b:Nat}{w:Rat} (hm:m a b=some w) (hab:a≠b) (hlt:s.d a+w < s.d b):kA m r (ML P a b) (uZ s r a b w):=by
 have hnf:¬ yA m s.d a b:=fun hf=>by
  have:=hf w hm hab;grind
 have hua:=(h.un a b hnf).1;have da:(uZ s r a b w).d a=s.d a:=if_neg hab;have db:(uZ s r a b w).d b=s.d a+w:=if_pos rfl;have dn:∀ v,v≠b->(uZ s r a b w).d v=s.d v:=fun v hv=>if_neg hv
 have dle:∀ v,(uZ s r a b w).d v<=s.d v:=fun v=>by
  by_cases e:v=b
  ·subst e;rw [db];exact Rat.le_of_lt hlt
  ·rw [dn v e];exact Rat.le_refl
 have ub:(uZ s r a b w).u b=r:=if_pos rfl;have un':∀ v,v≠b->(uZ s r a b w).u v=s.u v:=fun v hv=>if_neg hv
 have ule:∀ v,s.u v<=(uZ s r a b w).u v:=fun v=>by
  by_cases e:v=b
  ·subst e;rw [ub];exact h.le v
  ·rw [un' v e];exact Nat.le_refl _
 have pb:(uZ s r a b w).p b=a:=if_pos rfl;have pn:∀ v,v≠b->(uZ s r a b w).p v=s.p v:=fun v hv=>if_neg hv
 refine ⟨fun x y hn=>?_,fun v hv=>?_,fun v=>?_,fun k v hc=>?_⟩
 ·by_cases hx:x=b
  ·subst hx
   rw [ub];exact ⟨by omega,fun _=>Nat.le_refl _⟩
  ·rw [un' x hx]
   have hn':¬ yA m s.d x y:=fun hf=>hn fun w' hm' hxy=>by
    have:=hf w' hm' hxy;have:=dle y;rw [dn x hx];grind
   refine ⟨(h.un x y hn').1,fun hp=>?_⟩
   rcases hp with hp|⟨e1,e2⟩
   ·exact (h.un x y hn').2 hp
   ·exfalso
    subst e1 e2;refine hn fun w' hm' _=>?_
    rw [hm] at hm';cases hm';rw [db,da];exact Rat.le_refl
 ·by_cases hvb:v=b
  ·subst hvb
   refine ⟨w,by rw [pb];exact hm,by rw [pb];exact hab,?_,?_⟩
   ·rw [pb,da,db];exact Rat.le_refl
   ·rw [pb,ub,un' a hab];exact hua
  ·rw [un' v hvb] at hv ⊢
   obtain ⟨w',g1,g2,g3,g4⟩:=h.pr v hv;rw [pn v hvb,dn v hvb];refine ⟨w',g1,g2,?_,?_⟩
   ·have:=dle (s.p v)
    grind
   ·have:=ule (s.p v)
    omega
 ·by_cases hvb:v=b
  ·subst hvb;rw [ub];exact Nat.le_refl _
  ·rw [un' v hvb];exact h.le v
 ·generalize hs':uZ s r a b w=s' at *
  by_cases hin:∃ j,j < k/\itP s'.p j v=b
  ·obtain ⟨j,hj,hjb⟩:=hin
   have hoth:∀ i,i < k->i≠j->itP s'.p i v≠b:=fun i hi hij e=>by
    rcases Nat.lt_or_gt_of_ne hij with q|q
    ·exact hc.inj q hj (e.trans hjb.symm)
    ·exact hc.inj q hi (hjb.trans e.symm)
   have c1:∀ i,i < j->s.p (itP s'.p i v)=s'.p (itP s'.p i v):=fun i hi=>(pn _ (hoth i om om)).symm
   have i1:itP s.p j v=b:=(nL c1).trans hjb;have w1:wsP m s'.p j v=wsP m s.p j v:=(uY c1).symm;have u1:∀ i,i < j->1<=s.u (itP s.p i v):=fun i hi=>by
    have e:itP s.p i v=itP s'.p i v:=nL fun x hx=>c1 x om
    rw [e,<- un' _ (hoth i om om)];exact hc.set i om
   have t1:=N8 h u1;rw [i1] at t1;have hk:k=j+1+(k-(j+1)):=by omega
   have ia:itP s'.p (j+1) v=a:=by rw [nK,hjb,pb]
   have c2:∀ i,i < k-(j+1)->s.p (itP s'.p i a)=s'.p (itP s'.p i a):=fun i hi=>by
    have e:itP s'.p i a=itP s'.p (j+1+i) v:=by rw [gL,ia]
    rw [e];exact (pn _ (hoth (j+1+i) om om)).symm
   have ev:itP s'.p (k-(j+1)) a=v:=by
    have:=hc.back;rw [hk,gL,ia] at this;exact this
   have i2:itP s.p (k-(j+1)) a=v:=(nL c2).trans ev;have w2:wsP m s'.p (k-(j+1)) a=wsP m s.p (k-(j+1)) a:=(uY c2).symm;have u2:∀ i,i < k-(j+1)->1<=s.u (itP s.p i a):=fun i hi=>by
    have e:itP s.p i a=itP s'.p i a:=nL fun x hx=>c2 x om
    have e2:itP s'.p i a=itP s'.p (j+1+i) v:=by rw [gL,ia]
    rw [e,e2,<- un' _ (hoth (j+1+i) om om)];exact hc.set (j+1+i) om
   have t2:=N8 h u2;rw [i2] at t2;have hw:wsP m s'.p 1 b=w:=by
    show (m (s'.p b) b).getD 0+0=w
    rw [pb,hm,Rat.add_zero];rfl
   rw [hk,Dw,Dw,hjb,hw,ia,w1,w2];grind
  ·have hoth:∀ i,i < k->itP s'.p i v≠b:=fun i hi e=>hin ⟨i,hi,e⟩
   have c1:∀ i,i < k->s.p (itP s'.p i v)=s'.p (itP s'.p i v):=fun i hi=>(pn _ (hoth i hi)).symm
   have ei:∀ i,i<=k->itP s.p i v=itP s'.p i v:=fun i hi=>nL fun x hx=>c1 x om
   rw [<- uY c1];refine h.cy k v ⟨hc.pos,by rw [ei k (Nat.le_refl _)];exact hc.back,fun i h0 hi=>by rw [ei i om];exact hc.once i h0 hi,fun i hi=>?_⟩
   rw [ei i om,<- un' _ (hoth i hi)];exact hc.set i hi
theorem kA.round {m:Nat->Nat->Option Rat}{r n:Nat}{P:Nat->Nat->Prop}{s:BF} (h:kA m r P s) (hP:∀ a b,(m a b).isSome=true->P a b):kA m (r+1) (fun _ _=>False) s :=
 ⟨fun a b hn=>⟨by
  have hs:(m a b).isSome=true:=by
   cases e:m a b with
   | some w=>rfl
   | none=>exact absurd (fun w hw=>by rw [e] at hw;cases hw) hn
  have:=(h.un a b hn).2 (hP a b hs);omega,fun hf=>hf.elim⟩,h.pr,fun v=>Nat.le_succ_of_le (h.le v),h.cy⟩
theorem kA.start (m:Nat->Nat->Option Rat):kA m 1 (fun _ _=>False) ⟨fun _=>0,fun _=>0,fun _=>0⟩ :=
 ⟨fun a b _=>⟨Nat.le_refl _,fun hf=>hf.elim⟩,fun v hv=>absurd hv (Nat.not_succ_le_zero 0),fun v=>Nat.zero_le _,fun k v hc=>absurd (hc.set 0 hc.pos) (Nat.not_succ_le_zero 0)⟩
theorem Cm:∀ (n:Nat) (L:List Nat),L.Nodup->(∀ x∈L,x < n)->L.length<=n
 | 0,L,_,h=>by
  cases L with
  | nil=>exact Nat.le_refl _
  | cons x L=>exact absurd (h x (List.mem_cons_self ..)) (Nat.not_lt_zero _)
 | n+1,L,hn,h=>by
  have ih:=Cm n (L.erase n) (hn.erase n) fun x hx=>by
   have h1:=h x (List.mem_of_mem_erase hx);have h2:x≠n:=fun e=>by
    subst e;exact (List.Nodup.mem_erase_iff hn).1 hx |>.1 rfl
   omega
  rw [List.length_erase] at ih;split at ih<;>omega
theorem N9 {n:Nat}{f:Nat->Nat} (h:∀ i,i<=n->f i < n):∃ i j,i < j/\j<=n/\f i=f j:=Classical.byContradiction fun hno=>by
 have hnd:((List.range (n+1)).map f).Nodup:=by
  rw [List.nodup_iff_pairwise_ne,List.pairwise_map];refine List.Pairwise.imp_of_mem (R:=(· < ·)) (fun {a b} ha hb hab e=>hno ⟨a,b,hab,by have:=List.mem_range.1 hb;omega,e⟩) List.pairwise_lt_range
 have:=Cm n _ hnd fun x hx=>by
  obtain ⟨i,hi,rfl⟩:=List.mem_map.1 hx;exact h i (by have:=List.mem_range.1 hi;omega)
 rw [List.length_map,List.length_range] at this;omega
theorem kA.cycle {m:Nat->Nat->Option Rat}{n:Nat}{P:Nat->Nat->Prop}{s:BF} (h:kA m (n+1) P s) (hm:∀ a b,(m a b).isSome=true->a < n/\b < n) {v:Nat} (hv:s.u v=n+1):(∀ i,itP s.p i v < n/\1<=s.u (itP s.p i v))/\∃ k,k<=n/\Cyc s.p s.u k (itP s.p n v)/\wsP m s.p k (itP s.p n v) < 0:=by
 have h1:∀ i,i<=n->n+1<=s.u (itP s.p i v)+i:=fun i=>by
  induction i with
  | zero=>exact fun _=>Nat.le_of_eq hv.symm
  | succ i ih =>
   intro hi;have:=ih om;obtain ⟨_,_,_,_,h4⟩:=h.pr (itP s.p i v) om;rw [nK];omega
 have hlt:∀ x,1<=s.u x->x < n:=fun x hx=>by
  obtain ⟨w,h2,_⟩:=h.pr x hx;exact (hm _ _ (by rw [h2];rfl)).2
 obtain ⟨i,j,hij,hj,e⟩:=N9 (n:=n) (f:=fun i=>itP s.p i v) fun i hi=>hlt _ (by have:=h1 i hi;omega)
 have hper:∀ t,j<=t->itP s.p t v=itP s.p (t-(j-i)) v:=fun t ht=>by
  have a1:itP s.p t v=itP s.p (t-j) (itP s.p j v):=by rw [<- gL];congr 1;omega
  have a2:itP s.p (t-(j-i)) v=itP s.p (t-j) (itP s.p i v):=by rw [<- gL];congr 1;omega
  rw [a1,a2];exact congrArg _ e.symm
 have hall:∀ t,1<=s.u (itP s.p t v):=fun t=>by
  induction t using Nat.strongRecOn with
  | _ t ih =>
   by_cases ht:t<=n
   ·have:=h1 t ht;omega
   ·rw [hper t om]
    exact ih _ om
 refine ⟨fun t=>⟨hlt _ (hall t),hall t⟩,?_⟩
 have hback:itP s.p (j-i) (itP s.p n v)=itP s.p n v:=by
  rw [<- gL,hper (n+(j-i)) om];congr 1;omega
 have hex:∃ k,1<=k/\k<=j-i/\itP s.p k (itP s.p n v)=itP s.p n v/\∀ i',0 < i'->i' < k->itP s.p i' (itP s.p n v)≠itP s.p n v:=by
  have:∀ N k,k<=N->1<=k->k<=j-i->itP s.p k (itP s.p n v)=itP s.p n v->∃ k,1<=k/\k<=j-i/\itP s.p k (itP s.p n v)=itP s.p n v/\∀ i',0 < i'->i' < k->itP s.p i' (itP s.p n v)≠itP s.p n v:=fun N=>by
   induction N with
   | zero=>exact fun k hk h1=>by omega
   | succ N ih =>
    intro k hk k1 k2 k3;by_cases hno:∃ i',0 < i'/\i' < k/\itP s.p i' (itP s.p n v)=itP s.p n v
    ·obtain ⟨i',q1,q2,q3⟩:=hno
     exact ih i' om q1 om q3
    ·exact ⟨k,k1,k2,k3,fun i' q1 q2 q3=>hno ⟨i',q1,q2,q3⟩⟩
  exact this (j-i) (j-i) (Nat.le_refl _) om (Nat.le_refl _) hback
 obtain ⟨k,k1,k2,k3,k4⟩:=hex;have hc:Cyc s.p s.u k (itP s.p n v):=⟨k1,k3,k4,fun i' _=>by rw [<- gL];exact hall _⟩
 exact ⟨k,by omega,hc,h.cy k _ hc⟩
def iS (f:Nat->Int):Nat->Int
 | 0=>0
 | n+1=>iS f n+f n
def rS' (f:Nat->Rat):Nat->Rat
 | 0=>0
 | n+1=>rS' f n+f n
theorem eI {f g:Nat->Int}:∀ {n},(∀ i,i < n->f i=g i)->iS f n=iS g n
 | 0,_=>rfl
 | n+1,h=>by rw [iS,iS,eI fun i hi=>h i om,h n om]
theorem qG (f g:Nat->Int):∀ n,iS (fun i=>f i+g i) n=iS f n+iS g n
 | 0=>rfl
 | n+1=>by rw [iS,iS,iS,qG f g n];omega
theorem oL:∀ n,iS (fun _=>0) n=0
 | 0=>rfl
 | n+1=>by rw [iS,oL n];rfl
theorem qH (a:Nat) (m:Int):∀ {n},iS (fun i=>if i=a then m else 0) n=if a < n then m else 0
 | 0=>by rw [if_neg (Nat.not_lt_zero _)];rfl
 | n+1=>by
  rw [iS,qH a m (n:=n)];by_cases e:n=a
  ·rw [if_neg om,if_pos e,if_pos om];omega
  ·rw [if_neg e]
   by_cases h:a < n
   ·rw [if_pos h,if_pos om];omega
   ·rw [if_neg h,if_neg om];rfl
theorem qI {f:Nat->Int}:∀ {n},(∀ i,i < n->0<=f i)->0<=iS f n
 | 0,_=>Int.le_refl _
 | n+1,h=>by
  have:=qI (n:=n) fun i hi=>h i om
  have:=h n om;rw [iS];omega
theorem fZ {f:Nat->Int}:∀ {n},(∀ i,i < n->0<=f i)->∀ i,i < n->f i<=iS f n
 | 0,_,i,hi=>absurd hi (Nat.not_lt_zero _)
 | n+1,h,i,hi=>by
  have h1:=qI (n:=n) fun i hi=>h i om
  have h2:=h n om;rw [iS];by_cases e:i=n
  ·subst e;omega
  ·have:=fZ (n:=n) (fun i hi=>h i om) i om
   omega
theorem aU {f g:Nat->Rat}:∀ {n},(∀ i,i < n->f i=g i)->rS' f n=rS' g n
 | 0,_=>rfl
 | n+1,h=>by rw [rS',rS',aU fun i hi=>h i om,h n om]
theorem jH (f g:Nat->Rat):∀ n,rS' (fun i=>f i+g i) n=rS' f n+rS' g n
 | 0=>by rw [rS',rS',rS'];grind
 | n+1=>by rw [rS',rS',rS',jH f g n];grind
theorem oM (c:Rat) (f:Nat->Rat):∀ n,rS' (fun i=>c*f i) n=c*rS' f n
 | 0=>by rw [rS',rS',Rat.mul_zero]
 | n+1=>by rw [rS',rS',oM c f n];grind
theorem vA:∀ n,rS' (fun _=>0) n=0
 | 0=>rfl
 | n+1=>by rw [rS',vA n];grind
theorem tL (a:Nat) (m:Rat):∀ {n},rS' (fun i=>if i=a then m else 0) n=if a < n then m else 0
 | 0=>by rw [if_neg (Nat.not_lt_zero _)];rfl
 | n+1=>by
  rw [rS',tL a m (n:=n)];by_cases e:n=a
  ·rw [if_neg om,if_pos e,if_pos om];grind
  ·rw [if_neg e]
   by_cases h:a < n
   ·rw [if_pos h,if_pos om];grind
   ·rw [if_neg h,if_neg om];grind
theorem Co {f g:Nat->Rat}:∀ {n},(∀ i,i < n->f i<=g i)->rS' f n<=rS' g n
 | 0,_=>Rat.le_refl
 | n+1,h=>by
  have h1:=Co (n:=n) fun i hi=>h i om
  have h2:=h n om;rw [rS',rS'];grind
theorem Dx (f:Nat->Nat->Rat) (m:Nat):∀ n,rS' (fun i=>rS' (fun j=>f i j) m) n=rS' (fun j=>rS' (fun i=>f i j) n) m
 | 0=>by
  rw [rS']
  have:rS' (fun j=>rS' (fun i=>f i j) 0) m=rS' (fun _=>0) m:=rfl
  rw [this,vA]
 | n+1=>by
  rw [rS',Dx f m n,<- jH];rfl
theorem mM (f:Nat->Int):∀ n,rS' (fun i=>(f i:Rat)) n=(iS f n:Rat)
 | 0=>rfl
 | n+1=>by rw [rS',iS,mM f n,Rat.intCast_add]
theorem LE {n:Nat}{x y:Nat->Int}{g:Nat->Rat} (hx:∀ c,c < n->0<=x c) (hy:∀ c,c < n->0<=y c) (hs:iS x n=iS y n) (hg:∀ c,c < n->0 < x c->∀ d,d < n->g c<=g d):rS' (fun c=>(x c:Rat)*g c) n<=rS' (fun c=>(y c:Rat)*g c) n:=by
 by_cases hex:∃ a,a < n/\0 < x a
 ·obtain ⟨a,ha,hxa⟩:=hex
  have hm:=hg a ha hxa;have e1:rS' (fun c=>(x c:Rat)*g c) n=rS' (fun c=>(x c:Rat)*g a) n:=aU fun c hc=>by
   by_cases h0:0 < x c
   ·have h1:=hg c hc h0 a ha
    have h2:=hm c hc;rw [Rat.le_antisymm h1 h2]
   ·have:x c=0:=by have:=hx c hc;omega
    rw [this];grind
  have e2:rS' (fun c=>(x c:Rat)*g a) n=g a*(iS x n:Rat):=by
   rw [<- mM,<- oM];exact aU fun c _=>Rat.mul_comm _ _
  have e3:rS' (fun c=>(y c:Rat)*g a) n=g a*(iS y n:Rat):=by
   rw [<- mM,<- oM];exact aU fun c _=>Rat.mul_comm _ _
  rw [e1,e2,hs,<- e3];exact Co fun c hc=>Rat.mul_le_mul_of_nonneg_left (hm c hc) (Rat.intCast_nonneg.2 (hy c hc))
 ·have hx0:∀ c,c < n->x c=0:=fun c hc=>by
   have:=hx c hc
   have:¬ 0 < x c:=fun h=>hex ⟨c,hc,h⟩
   omega
  have hsx:iS x n=0:=by rw [eI hx0,oL]
  have hy0:∀ c,c < n->y c=0:=fun c hc=>by
   have h1:=fZ hy c hc;have h2:=hy c hc;rw [<- hs,hsx] at h1;omega
  rw [aU (g:=fun c=>(y c:Rat)*g c) fun c hc=>by rw [hx0 c hc,hy0 c hc]]
  exact Rat.le_refl
structure kX (S n:Nat) (row col:Nat->Int) (x:Nat->Nat->Int):Prop where
 nn:∀ s c,s < S->c < n->0<=x s c
 row:∀ s,s < S->iS (x s) n=row s
 col:∀ c,c < n->iS (fun s=>x s c) S=col c
def cW (S n:Nat) (cost:Nat->Nat->Rat) (x:Nat->Nat->Int):Rat:=rS' (fun s=>rS' (fun c=>(x s c:Rat)*cost s c) n) S
theorem JH {S n:Nat}{row col:Nat->Int}{cost:Nat->Nat->Rat}{x y:Nat->Nat->Int} (hx:kX S n row col x) (hy:kX S n row col y) (d:Nat->Rat) (hd:∀ s a b,s < S->a < n->b < n->0 < x s a->d b-d a<=cost s b-cost s a):cW S n cost x<=cW S n cost y:=by
 have hrow:∀ s,s < S->rS' (fun c=>(x s c:Rat)*(cost s c-d c)) n<=rS' (fun c=>(y s c:Rat)*(cost s c-d c)) n:=fun s hs =>
  LE (hx.nn s · hs) (hy.nn s · hs) ((hx.row s hs).trans (hy.row s hs).symm) fun c hc h0 b hb=>by
   have:=hd s c b hs hc hb h0;grind
 have hsum:=Co hrow;have key:∀ z:Nat->Nat->Int,kX S n row col z->rS' (fun s=>rS' (fun c=>(z s c:Rat)*(cost s c-d c)) n) S=cW S n cost z-rS' (fun c=>d c*(col c:Rat)) n:=fun z hz=>by
  have e1:rS' (fun s=>rS' (fun c=>(z s c:Rat)*cost s c) n) S=rS' (fun s=>rS' (fun c=>(z s c:Rat)*(cost s c-d c)) n+rS' (fun c=>(z s c:Rat)*d c) n) S:=aU fun s _=>by
   rw [<- jH];exact aU fun c _=>by grind
  have e2:rS' (fun s=>rS' (fun c=>(z s c:Rat)*d c) n) S=rS' (fun c=>d c*(col c:Rat)) n:=by
   rw [Dx];refine aU fun c hc=>?_
   rw [<- hz.col c hc,<- mM,<- oM];exact aU fun s _=>Rat.mul_comm _ _
  unfold cW;rw [e1,jH,e2];grind
 rw [key x hx,key y hy] at hsum;grind
def lS (x:Nat->Nat->Int) (m:Int) (s a b:Nat):Nat->Nat->Int:=fun s' c=>if s'=s then x s' c+((if c=b then m else 0)-if c=a then m else 0) else x s' c
def oN (p:Nat->Nat) (sg:Nat->Nat->Nat) (m:Int):Nat->Nat->(Nat->Nat->Int)->Nat->Nat->Int
 | 0,_,x=>x
 | k+1,v,x=>oN p sg m k (p v) (lS x m (sg (p v) v) (p v) v)
theorem JI {x:Nat->Nat->Int}{m:Int}{s a b n:Nat} (ha:a < n) (hb:b < n) (s':Nat):iS (lS x m s a b s') n=iS (x s') n:=by
 unfold lS;by_cases e:s'=s
 ·simp only [if_pos e]
  rw [qG (fun c=>x s' c) (fun c=>(if c=b then m else 0)-if c=a then m else 0)]
  have:iS (fun c=>(if c=b then m else 0)-if c=a then m else 0) n=0:=by
   have e1:=qG (fun c=>(if c=b then m else 0)-if c=a then m else 0) (fun c=>if c=a then m else 0) n
   have e2:iS (fun c=>((if c=b then m else 0)-if c=a then m else 0)+if c=a then m else 0) n=iS (fun c=>if c=b then m else 0) n:=eI fun c _=>by omega
   rw [e2,qH,qH,if_pos ha,if_pos hb] at e1;omega
  rw [this,Int.add_zero]
 ·simp only [if_neg e]
theorem JJ {x:Nat->Nat->Int}{m:Int}{s a b S:Nat} (hs:s < S) (c:Nat):iS (fun s'=>lS x m s a b s' c) S=iS (fun s'=>x s' c) S+((if c=b then m else 0)-if c=a then m else 0):=by
 have e:iS (fun s'=>lS x m s a b s' c) S=iS (fun s'=>x s' c+if s'=s then ((if c=b then m else 0)-if c=a then m else 0) else 0) S:=eI fun s' _=>by
  unfold lS;split
  ·rfl
  ·rw [Int.add_zero]
 rw [e,qG,qH,if_pos hs]
theorem Is {x:Nat->Nat->Int}{m:Int}{s a b S n:Nat} (cost:Nat->Nat->Rat) (hs:s < S) (ha:a < n) (hb:b < n):cW S n cost (lS x m s a b)=cW S n cost x+(m:Rat)*(cost s b-cost s a):=by
 have e1:∀ s',s' < S->rS' (fun c=>(lS x m s a b s' c:Rat)*cost s' c) n=rS' (fun c=>(x s' c:Rat)*cost s' c) n+if s'=s then (m:Rat)*(cost s b-cost s a) else 0:=fun s' _=>by
  by_cases e:s'=s
  ·subst e
   rw [if_pos rfl];have e2:rS' (fun c=>(lS x m s' a b s' c:Rat)*cost s' c) n=rS' (fun c=>((x s' c:Rat)*cost s' c+(if c=b then (m:Rat)*cost s' b else 0))+if c=a then -((m:Rat)*cost s' a) else 0) n:=aU fun c _=>by
    unfold lS;rw [if_pos rfl];by_cases cb:c=b
    ·by_cases ca:c=a
     ·subst cb;subst ca
      rw [if_pos rfl,if_pos rfl,if_pos rfl,Int.sub_self,Int.add_zero];grind
     ·subst cb
      rw [if_pos rfl,if_neg ca,if_pos rfl,if_neg ca,Int.sub_zero,Rat.intCast_add];grind
    ·by_cases ca:c=a
     ·subst ca
      rw [if_neg cb,if_pos rfl,if_neg cb,if_pos rfl,Int.zero_sub,Rat.intCast_add,Rat.intCast_neg];grind
     ·rw [if_neg cb,if_neg ca,if_neg cb,if_neg ca,Int.sub_zero,Int.add_zero];grind
   rw [e2,jH,jH,tL,tL,if_pos ha,if_pos hb];grind
  ·rw [if_neg e,Rat.add_zero]
   refine aU fun c _=>?_
   unfold lS;rw [if_neg e]
 unfold cW;rw [aU e1,jH,tL,if_pos hs]
theorem ED {p:Nat->Nat}{sg:Nat->Nat->Nat}{m:Int}{n:Nat}:∀ (k v:Nat) (x:Nat->Nat->Int),(∀ i,i<=k->itP p i v < n)->∀ s',iS (oN p sg m k v x s') n=iS (x s') n
 | 0,_,_,_,_=>rfl
 | k+1,v,x,h,s'=>by
  have h0:v < n:=h 0 (Nat.zero_le _);have h1:p v < n:=h 1 om;show iS (oN p sg m k (p v) (lS x m (sg (p v) v) (p v) v) s') n=_
  rw [ED k (p v) _ (fun i hi=>h (i+1) om) s',JI h1 h0]
theorem EE {p:Nat->Nat}{sg:Nat->Nat->Nat}{m:Int}{S:Nat}:∀ (k v:Nat) (x:Nat->Nat->Int),(∀ i,i < k->sg (itP p (i+1) v) (itP p i v) < S)->∀ c,iS (fun s'=>oN p sg m k v x s' c) S=iS (fun s'=>x s' c) S+((if c=v then m else 0)-if c=itP p k v then m else 0)
 | 0,v,x,_,c=>by
  show iS (fun s'=>x s' c) S=_+((if c=v then m else 0)-if c=v then m else 0)
  omega
 | k+1,v,x,h,c=>by
  have h0:sg (p v) v < S:=h 0 (Nat.succ_pos _);show iS (fun s'=>oN p sg m k (p v) (lS x m (sg (p v) v) (p v) v) s' c) S=_+((if c=v then m else 0)-if c=itP p k (p v) then m else 0)
  rw [EE k (p v) _ (fun i hi=>h (i+1) om) c,JJ h0 c]
  omega
theorem Cp {p:Nat->Nat}{sg:Nat->Nat->Nat}{m:Int}{S n:Nat} (cost:Nat->Nat->Rat) {w:Nat->Nat->Option Rat}:∀ (k v:Nat) (x:Nat->Nat->Int),(∀ i,i<=k->itP p i v < n)->(∀ i,i < k->sg (itP p (i+1) v) (itP p i v) < S/\w (itP p (i+1) v) (itP p i v)=some (cost (sg (itP p (i+1) v) (itP p i v)) (itP p i v)-cost (sg (itP p (i+1) v) (itP p i v)) (itP p (i+1) v)))->cW S n cost (oN p sg m k v x)=cW S n cost x+(m:Rat)*wsP w p k v
 | 0,v,x,_,_=>by
  show cW S n cost x=cW S n cost x+(m:Rat)*0
  grind
 | k+1,v,x,h,hw=>by
  have h0:v < n:=h 0 (Nat.zero_le _);have h1:p v < n:=h 1 om;obtain ⟨q1,q2⟩:=hw 0 (Nat.succ_pos _);have q1':sg (p v) v < S:=q1;have q2':w (p v) v=some (cost (sg (p v) v) v-cost (sg (p v) v) (p v)):=q2;show cW S n cost (oN p sg m k (p v) (lS x m (sg (p v) v) (p v) v))=cW S n cost x+(m:Rat)*((w (p v) v).getD 0+wsP w p k (p v))
  rw [Cp cost k (p v) _ (fun i hi=>h (i+1) om) (fun i hi=>hw (i+1) om),Is cost q1' h1 h0,q2']
  show cW S n cost x+(m:Rat)*(cost (sg (p v) v) v-cost (sg (p v) v) (p v))+(m:Rat)*wsP w p k (p v)=cW S n cost x+(m:Rat)*(cost (sg (p v) v) v-cost (sg (p v) v) (p v)+wsP w p k (p v))
  grind
theorem Hm {p:Nat->Nat}{sg:Nat->Nat->Nat}{m:Int} (hm:0<=m):∀ (k v:Nat) (x:Nat->Nat->Int),(∀ i j,i < j->j < k->itP p (i+1) v≠itP p (j+1) v)->∀ s c,(∀ i,i < k->itP p (i+1) v=c->sg (itP p (i+1) v) (itP p i v)=s->m<=x s c)->(0<=x s c)->0<=oN p sg m k v x s c
 | 0,_,_,_,_,_,_,h0=>h0
 | k+1,v,x,hd,s,c,hx,h0=>by
  show 0<=oN p sg m k (p v) (lS x m (sg (p v) v) (p v) v) s c
  have e:lS x m (sg (p v) v) (p v) v s c=if s=sg (p v) v then x s c+((if c=v then m else 0)-if c=p v then m else 0) else x s c:=rfl
  refine Hm hm k (p v) _ (fun i j hij hj=>hd (i+1) (j+1) om om) s c (fun i hi hc hs=>?_) ?_
  ·have hne:c≠p v:=fun q=>hd 0 (i+1) om om (q.symm.trans hc.symm)
   have h1:=hx (i+1) om hc hs;rw [e,if_neg hne];split
   ·split<;>omega
   ·exact h1
  ·rw [e]
   split
   ·rename_i hs
    by_cases hc:c=p v
    ·have h1:=hx 0 (Nat.succ_pos _) hc.symm hs.symm
     rw [if_pos hc];split<;>omega
    ·rw [if_neg hc]
     split<;>omega
   ·exact h0
theorem FU {S n:Nat}{row col:Nat->Int}{cost:Nat->Nat->Rat}{x:Nat->Nat->Int} (hx:kX S n row col x) {w:Nat->Nat->Option Rat}{sg:Nat->Nat->Nat} (hw:∀ a b r,w a b=some r->sg a b < S/\r=cost (sg a b) b-cost (sg a b) a) {p u:Nat->Nat}{k v:Nat} (hc:Cyc p u k v) (hn:∀ i,itP p i v < n) (hs:∀ i,(w (itP p (i+1) v) (itP p i v)).isSome=true) {m:Int} (hm:0 < m) (hle:∀ i,i < k->m<=x (sg (itP p (i+1) v) (itP p i v)) (itP p (i+1) v)) (hneg:wsP w p k v < 0) :
  kX S n row col (oN p sg m k v x)/\cW S n cost (oN p sg m k v x) < cW S n cost x:=by
 have hw':∀ i,i < k->sg (itP p (i+1) v) (itP p i v) < S/\w (itP p (i+1) v) (itP p i v)=some (cost (sg (itP p (i+1) v) (itP p i v)) (itP p i v)-cost (sg (itP p (i+1) v) (itP p i v)) (itP p (i+1) v)):=fun i _=>by
  have:=hs i;cases e:w (itP p (i+1) v) (itP p i v) with
  | none=>rw [e] at this;cases this
  | some r =>
   obtain ⟨q1,q2⟩:=hw _ _ _ e;exact ⟨q1,by rw [q2]⟩
 refine ⟨⟨fun s c hs' hc'=>?_,fun s hs'=>?_,fun c hc'=>?_⟩,?_⟩
 ·refine Hm (Int.le_of_lt hm) k v x (fun i j hij hj e=>?_) s c (fun i hi e1 e2=>?_) (hx.nn s c hs' hc')
  ·by_cases hjk:j+1 < k
   ·exact hc.inj (i:=i+1) (j:=j+1) om hjk e
   ·have ej:j+1=k:=by omega
    rw [ej,hc.back] at e;exact hc.once (i+1) (Nat.succ_pos _) om e
  ·have:=hle i hi
   rw [e1,] at this;rw [e1] at e2
   rwa [e2] at this
 ·rw [ED k v x fun i _=>hn i];exact hx.row s hs'
 ·rw [EE k v x fun i hi=>(hw' i hi).1,hc.back,hx.col c hc']
  omega
 ·rw [Cp cost k v x (fun i _=>hn i) hw']
  have h1:(0:Rat) < (m:Rat):=by
   have:=Rat.intCast_le_intCast.2 (show (1:Int)<=m by omega)
   have h2:((1:Int):Rat)=1:=rfl;grind
  have h2:=Rat.mul_lt_mul_of_pos_right hneg h1;grind
def LG (S n:Nat) (cost:Nat->Nat->Rat) (D:Rat) (K:Int) (x:Nat->Nat->Int):Nat:=(((cW S n cost x)*D).num+K).toNat
theorem Hn {S n:Nat}{cost:Nat->Nat->Rat}{D:Rat} (hD:∀ s c,s < S->c < n->∃ N:Int,cost s c*D=(N:Rat)) (x:Nat->Nat->Int):∃ N:Int,cW S n cost x*D=(N:Rat):=by
 have one:∀ s,s < S->∃ N:Int,rS' (fun c=>(x s c:Rat)*cost s c) n*D=(N:Rat):=fun s hs=>by
  have:∀ j,j<=n->∃ N:Int,rS' (fun c=>(x s c:Rat)*cost s c) j*D=(N:Rat):=fun j=>by
   induction j with
   | zero=>exact fun _=>⟨0,by rw [rS',Rat.zero_mul];rfl⟩
   | succ j ih =>
    intro hj;obtain ⟨N,hN⟩:=ih om;obtain ⟨M,hM⟩:=hD s j hs om;refine ⟨N+x s j*M,?_⟩;rw [rS',Rat.intCast_add,Rat.intCast_mul,<- hN,<- hM];grind
  exact this n (Nat.le_refl _)
 have:∀ j,j<=S->∃ N:Int,rS' (fun s=>rS' (fun c=>(x s c:Rat)*cost s c) n) j*D=(N:Rat):=fun j=>by
  induction j with
  | zero=>exact fun _=>⟨0,by rw [rS',Rat.zero_mul];rfl⟩
  | succ j ih =>
   intro hj;obtain ⟨N,hN⟩:=ih om;obtain ⟨M,hM⟩:=one j om;exact ⟨N+M,by rw [rS',Rat.intCast_add,<- hN,<- hM];grind⟩
 exact this S (Nat.le_refl _)
theorem NA {S n:Nat}{cost:Nat->Nat->Rat}{D:Rat} (hDp:0 < D) (hD:∀ s c,s < S->c < n->∃ N:Int,cost s c*D=(N:Rat)) {K:Int}{x y:Nat->Nat->Int} (hy:-(K:Rat)<=cW S n cost y*D) (hlt:cW S n cost y < cW S n cost x):LG S n cost D K y < LG S n cost D K x:=by
 obtain ⟨N,hN⟩:=Hn hD x;obtain ⟨M,hM⟩:=Hn hD y;have h1:=Rat.mul_lt_mul_of_pos_right hlt hDp;rw [hN,hM] at h1;have h2:M < N:=by
  refine Int.not_le.1 fun h=>?_
  have:=Rat.intCast_le_intCast.2 h;grind
 rw [hM] at hy;have h3:-K<=M:=by
  refine Rat.intCast_le_intCast.1 ?_;rw [Rat.intCast_neg];exact hy
 unfold LG;rw [hN,hM,Rat.num_intCast,Rat.num_intCast];omega
def iN (L:List (Nat×Nat)) (s c:Nat):Int:=(L.count (s,c):Nat)
def JK (g:Nat->Nat->Rat):List (Nat×Nat)->Rat
 | []=>0
 | y::L=>g y.1 y.2+JK g L
theorem rR (y:Nat×Nat) (L:List (Nat×Nat)) (s c:Nat):iN (y::L) s c=(if s=y.1 then (if c=y.2 then 1 else 0) else 0)+iN L s c:=by
 unfold iN;rw [List.count_cons];obtain ⟨a,b⟩:=y;by_cases h1:s=a
 ·by_cases h2:c=b
  ·subst h1;subst h2
   rw [if_pos rfl,if_pos rfl,if_pos (by simp)];omega
  ·rw [if_pos h1,if_neg h2,if_neg (by simp;intro _ e;exact h2 e.symm)];omega
 ·rw [if_neg h1,if_neg (by simp;intro e;exact absurd e.symm h1)];omega
theorem Ho {S n:Nat} (g:Nat->Nat->Rat):∀ {L:List (Nat×Nat)},(∀ y∈L,y.1 < S/\y.2 < n)->JK g L=cW S n g (iN L)
 | [],_=>by
  unfold cW
  have:∀ s,rS' (fun c=>(iN [] s c:Rat)*g s c) n=0:=fun s=>by
   rw [aU (g:=fun _=>0) fun c _=>by show ((0:Int):Rat)*g s c=0;rw [show ((0:Int):Rat)=0 from rfl,Rat.zero_mul],vA]
  rw [aU (g:=fun _=>0) fun s _=>this s,vA];rfl
 | y::L,h=>by
  obtain ⟨h1,h2⟩:=h y (List.mem_cons_self ..);have ih:=Ho (S:=S) (n:=n) g (L:=L) fun z hz=>h z (mC _ hz)
  rw [JK,ih];unfold cW;have e:∀ s,s < S->rS' (fun c=>(iN (y::L) s c:Rat)*g s c) n=rS' (fun c=>(iN L s c:Rat)*g s c) n+if s=y.1 then g y.1 y.2 else 0:=fun s _=>by
   by_cases hs:s=y.1
   ·rw [if_pos hs]
    have e2:rS' (fun c=>(iN (y::L) s c:Rat)*g s c) n=rS' (fun c=>(iN L s c:Rat)*g s c+if c=y.2 then g y.1 y.2 else 0) n:=aU fun c _=>by
     rw [rR,if_pos hs];by_cases hc:c=y.2
     ·rw [if_pos hc,if_pos hc,Rat.intCast_add,show ((1:Int):Rat)=1 from rfl,hs,hc];grind
     ·rw [if_neg hc,if_neg hc,Int.zero_add];grind
    rw [e2,jH,tL,if_pos h2]
   ·rw [if_neg hs,Rat.add_zero]
    refine aU fun c _=>?_
    rw [rR,if_neg hs,Int.zero_add]
  rw [aU e,jH,tL,if_pos h1];grind
theorem Dy {n:Nat} (s:Nat):∀ {L:List (Nat×Nat)},(∀ y∈L,y.2 < n)->iS (iN L s) n=((L.map (·.1)).count s:Nat)
 | [],_=>by
  have:iS (iN [] s) n=iS (fun _=>0) n:=rfl
  rw [this,oL];rfl
 | y::L,h=>by
  have ih:=Dy (n:=n) s (L:=L) fun z hz=>h z (mC _ hz)
  have e:iS (iN (y::L) s) n=iS (fun c=>(if c=y.2 then (if s=y.1 then 1 else 0) else 0)+iN L s c) n:=eI fun c _=>by
   rw [rR];split<;>split<;>rfl
  rw [e,qG,qH,if_pos (h y (List.mem_cons_self ..)),ih,List.map_cons,List.count_cons];by_cases hs:s=y.1
  ·rw [if_pos hs,if_pos (by simp [hs])];omega
  ·rw [if_neg hs,if_neg (by simp;exact fun e=>hs e.symm)];omega
theorem Hp {S:Nat} (c:Nat):∀ {L:List (Nat×Nat)},(∀ y∈L,y.1 < S)->iS (fun s=>iN L s c) S=((L.map (·.2)).count c:Nat)
 | [],_=>by
  have:iS (fun s=>iN [] s c) S=iS (fun _=>0) S:=rfl
  rw [this,oL];rfl
 | y::L,h=>by
  have ih:=Hp (S:=S) c (L:=L) fun z hz=>h z (mC _ hz)
  have e:iS (fun s=>iN (y::L) s c) S=iS (fun s=>(if s=y.1 then (if c=y.2 then 1 else 0) else 0)+iN L s c) S:=eI fun s _=>rR y L s c
  rw [e,qG,qH,if_pos (h y (List.mem_cons_self ..)),ih,List.map_cons,List.count_cons];by_cases hc:c=y.2
  ·rw [if_pos hc,if_pos (by simp [hc])];omega
  ·rw [if_neg hc,if_neg (by simp;exact fun e=>hc e.symm)];omega
theorem JL {S n:Nat}{row col:Nat->Int}{L:List (Nat×Nat)} (h:∀ y∈L,y.1 < S/\y.2 < n) (hr:∀ s,s < S->(((L.map (·.1)).count s:Nat):Int)=row s) (hc:∀ c,c < n->(((L.map (·.2)).count c:Nat):Int)=col c):kX S n row col (iN L) :=
 ⟨fun s c _ _=>by unfold iN;omega,fun s hs=>(Dy s fun y hy=>(h y hy).2).trans (hr s hs),fun c hc'=>(Hp c fun y hy=>(h y hy).1).trans (hc c hc')⟩
def tlQ (q:Nat->List Nat) (c:Nat):Nat->List Nat:=fun d=>if d=c then (q c).tail else q d
def pC:List Nat->(Nat->List Nat)->List Nat
 | [],_=>[]
 | c::K,q=>(q c).headD 0::pC K (tlQ q c)
theorem A7:∀ (K:List Nat) (q:Nat->List Nat),(pC K q).length=K.length
 | [],_=>rfl
 | c::K,q=>by rw [pC,List.length_cons,List.length_cons,A7 K]
theorem A8 (s c:Nat):∀ (K:List Nat) (q:Nat->List Nat),(∀ d,K.count d<=(q d).length)->((pC K q).zip K).count (s,c)=((q c).take (K.count c)).count s
 | [],q,_=>by rw [List.count_nil,List.take_zero];rfl
 | d::K,q,h=>by
  have hd:=h d;rw [List.count_cons_self] at hd;obtain ⟨x,t,hq⟩:∃ x t,q d=x::t:=by
   cases e:q d with
   | nil=>rw [e] at hd;simp at hd
   | cons x t=>exact ⟨x,t,rfl⟩
  have ht:tlQ q d d=t:=by unfold tlQ;rw [if_pos rfl,hq];rfl
  have ho:∀ e,e≠d->tlQ q d e=q e:=fun e he=>by unfold tlQ;rw [if_neg he]
  have ih:=A8 s c K (tlQ q d) fun e=>by
   by_cases he:e=d
   ·subst he
    rw [ht];rw [hq,List.length_cons] at hd;omega
   ·rw [ho e he]
    have:=h e;rw [List.count_cons_of_ne (Ne.symm he)] at this;exact this
  rw [pC,List.zip_cons_cons,List.count_cons,ih,hq];show _+(if ((x,d) == (s,c))=true then 1 else 0)=_
  by_cases hc:c=d
  ·subst hc
   rw [ht,hq,List.count_cons_self,List.take_succ_cons,List.count_cons];congr 1;by_cases hx:x=s
   ·rw [if_pos (by simp [hx]),if_pos (by simp [hx])]
   ·rw [if_neg (by simp [hx]),if_neg (by simp [hx])]
  ·rw [ho c hc,List.count_cons_of_ne (Ne.symm hc),if_neg (by simp;exact fun _ e=>hc e.symm),Nat.add_zero]
def gR (x:Nat->Nat->Int) (c:Nat):Nat->List Nat
 | 0=>[]
 | s+1=>gR x c s++List.replicate (x s c).toNat s
theorem A9 (x:Nat->Nat->Int) (c s:Nat):∀ S,(gR x c S).count s=if s < S then (x s c).toNat else 0
 | 0=>by rw [if_neg (Nat.not_lt_zero _)];rfl
 | S+1=>by
  rw [gR,List.count_append,A9 x c s S,List.count_replicate];by_cases e:S=s
  ·subst e
   rw [if_neg (Nat.lt_irrefl _),if_pos (by simp),if_pos (Nat.lt_succ_self _)];omega
  ·have hb:(S == s)=false:=by simp [e]
   rw [hb];by_cases h:s < S
   ·rw [if_pos h,if_neg Bool.false_ne_true,if_pos om];omega
   ·rw [if_neg h,if_neg Bool.false_ne_true,if_neg om]
theorem nM (x:Nat->Nat->Int) (c:Nat):∀ S,(∀ s,s < S->0<=x s c)->((gR x c S).length:Int)=iS (fun s=>x s c) S
 | 0,_=>rfl
 | S+1,h=>by
  have ih:=nM x c S fun s hs=>h s om
  have:=h S om;rw [gR,List.length_append,List.length_replicate,iS];omega
theorem NB {S n:Nat}{row col:Nat->Int}{x:Nat->Nat->Int} (hx:kX S n row col x) {K:List Nat} (hK:∀ c∈K,c < n) (hc:∀ c,c < n->((K.count c:Nat):Int)=col c):∀ s c,s < S->c < n->iN ((pC K fun c=>gR x c S).zip K) s c=x s c:=fun s c hs hcn=>by
 have hl:∀ d,K.count d<=((fun c=>gR x c S) d).length:=fun d=>by
  by_cases hd:d < n
  ·have h1:=nM x d S fun s hs=>hx.nn s d hs hd
   have h2:=hc d hd;rw [hx.col d hd] at h1;show K.count d<=(gR x d S).length
   omega
  ·have:K.count d=0:=List.count_eq_zero.2 fun hm=>hd (hK d hm)
   omega
 have h1:=nM x c S fun s hs=>hx.nn s c hs hcn
 rw [hx.col c hcn] at h1;have h2:=hc c hcn;unfold iN;rw [A8 s c K _ hl];show (((List.take (K.count c) (gR x c S)).count s:Nat):Int)=x s c
 rw [List.take_of_length_le om,A9,if_pos hs];have:=hx.nn s c hs hcn;omega
end Go.Proofs.YtjcecdmbfmccoaaGreatDoor
/-
 Plain: curves do not fall;of the stages of a gap one of both ends costs least;dual bounds.
-/
namespace Go.Proofs.YtjcecdmbfmccoaaGreatDoor
open Go.Num
structure qJ (l:List Pnt):Prop extends oE l where
 nn:∀ k (h:k < l.length),0<=qR l[k].2
 mo:∀ k (h:k+1 < l.length),qR l[k].2<=qR l[k+1].2
theorem Hq {a w x:Rat} (hw:0 < w):a / w<=x ↔ a<=x*w:=by
 have e:a / w*w=a:=Rat.div_mul_cancel (by grind)
 constructor
 ·intro h
  have:=Rat.mul_le_mul_of_nonneg_right h (Rat.le_of_lt hw)
  rwa [e] at this
 ·intro h
  refine Rat.not_lt.1 fun h2=>?_
  have:=Rat.mul_lt_mul_of_pos_right h2 hw;rw [e] at this;grind
theorem Hr {a w x:Rat} (hw:0 < w):x<=a / w ↔ x*w<=a:=by
 have e:a / w*w=a:=Rat.div_mul_cancel (by grind)
 constructor
 ·intro h
  have:=Rat.mul_le_mul_of_nonneg_right h (Rat.le_of_lt hw)
  rwa [e] at this
 ·intro h
  refine Rat.not_lt.1 fun h2=>?_
  have:=Rat.mul_lt_mul_of_pos_right h2 hw;rw [e] at this;grind
theorem Hs {x:Rat} (h:¬ dR x < 0):0<=x:=by
 refine Rat.not_lt.1 fun hx=>h ?_
 unfold dR;rw [if_neg (by grind),if_pos hx]
 decide
theorem NC {q:Q3} (h:¬ q.neg=true):0<=qR q:=by
 have h0:q.neg=false:=by cases e:q.neg<;>simp_all
 rw [qR];split
 ·split
  ·exact Rat.le_refl
  ·rw [ofF,h0,sg]
   simp only [Bool.false_eq_true,if_false];by_cases hd:vB q.den=0
   ·rw [hd,Rat.mkRat_zero];exact Rat.le_refl
   ·rw [Rat.mkRat_eq_div]
    rw [Hr (by
     have:(0:Int) < (vB q.den:Nat):=by omega
     have h1:=Rat.intCast_le_intCast.2 (show (1:Int)<=((vB q.den:Nat):Int) by omega)
     have h2:((1:Int):Rat)=1:=rfl;have h3:(((vB q.den:Nat):Int):Rat)=((vB q.den:Nat):Rat):=rfl;grind),Rat.zero_mul]
    exact Rat.intCast_nonneg.2 om
 ·exact Rat.le_refl
theorem wO {prev:Option Pnt}:∀ {l:List Pnt},iL prev l=0->(∀ p∈l,0<=qR p.2)/\(∀ q,prev=some q->∀ p,l[0]?=some p->qR q.2<=qR p.2)/\∀ k (h:k+1 < l.length),qR (l[k]'om).2<=qR l[k+1].2
 | [],_=>⟨by simp,by simp,by simp⟩
 | p::r,h=>by
  rw [iL.eq_def] at h
  dsimp only at h
  split at h
  ·cases h
  split at h
  ·cases h
  rename_i c1 c2;have c3:0<=qR p.2:=NC fun e=>c2 (.inr e)
  cases prev with
  | none =>
   obtain ⟨i1,i2,i3⟩:=wO (l:=r) h;refine ⟨fun x hx=>?_,by simp,fun k hk=>?_⟩
   ·rcases List.mem_cons.1 hx with rfl|hx
    ·exact c3
    ·exact i1 x hx
   ·cases k with
    | zero=>exact i2 p rfl _ (gE (by simpa using hk))
    | succ j=>exact i3 j (by simpa using hk)
  | some q =>
   dsimp only at h
   split at h
   ·cases h
   rename_i c4;have c5:qR q.2<=qR p.2:=by
    have:=Hs fun e=>c4 (.inr e)
    grind
   obtain ⟨i1,i2,i3⟩:=wO (l:=r) h;refine ⟨fun x hx=>?_,fun x hx y hy=>?_,fun k hk=>?_⟩
   ·rcases List.mem_cons.1 hx with rfl|hx
    ·exact c3
    ·exact i1 x hx
   ·cases hx;cases hy;exact c5
   ·cases k with
    | zero=>exact i2 p rfl _ (gE (by simpa using hk))
    | succ j=>exact i3 j (by simpa using hk)
theorem ND {l:List Pnt} (h:bM l=0):qJ l:=by
 have hr:=Dh h;rw [bM] at h
 split at h
 ·cases h
 obtain ⟨h1,_,h3⟩:=wO h;exact ⟨hr,fun k hk=>h1 _ (gM hk),h3⟩
theorem qJ.fle {l:List Pnt} (h:qJ l):∀ d i (hj:i+d < l.length),qR (l[i]'om).2<=qR l[i+d].2
 | 0,i,hj=>Rat.le_refl
 | d+1,i,hj=>by
  have h1:=h.fle d i om;have h2:=h.mo (i+d) hj;exact Rat.le_trans h1 h2
theorem btw {p q:Pnt} (h1:p.1 < q.1) (h2:qR p.2<=qR q.2) {s:Int} (hs:p.1<=s) (hs2:s<=q.1):qR p.2<=jD p q s/\jD p q s<=qR q.2:=by
 have hd:(0:Rat) < ((q.1-p.1:Int):Rat):=by
  have:=Rat.intCast_le_intCast.2 (show (1:Int)<=q.1-p.1 by omega)
  have h2:((1:Int):Rat)=1:=rfl;grind
 have a1:(0:Rat)<=((s-p.1:Int):Rat) / ((q.1-p.1:Int):Rat):=by
  rw [Hr hd,Rat.zero_mul];exact Rat.intCast_nonneg.2 om
 have a2:((s-p.1:Int):Rat) / ((q.1-p.1:Int):Rat)<=1:=by
  rw [Hq hd,Rat.one_mul];exact Rat.intCast_le_intCast.2 om
 have a3:0<=qR q.2-qR p.2:=by grind
 unfold jD;generalize ((s-p.1:Int):Rat) / ((q.1-p.1:Int):Rat)=x at *;have b1:=Rat.mul_nonneg a1 a3;have b2:=Rat.mul_le_mul_of_nonneg_right a2 a3;rw [Rat.one_mul] at b2;constructor<;>grind
theorem JM {p q:Pnt} (h1:p.1 < q.1) (h2:qR p.2<=qR q.2) {s t:Int} (hst:s<=t):jD p q s<=jD p q t:=by
 have hd:(0:Rat) < ((q.1-p.1:Int):Rat):=by
  have:=Rat.intCast_le_intCast.2 (show (1:Int)<=q.1-p.1 by omega)
  have h2:((1:Int):Rat)=1:=rfl;grind
 have a3:0<=qR q.2-qR p.2:=by grind
 have a4:((s-p.1:Int):Rat) / ((q.1-p.1:Int):Rat)<=((t-p.1:Int):Rat) / ((q.1-p.1:Int):Rat):=by
  rw [Hq hd,Rat.div_mul_cancel (by grind)]
  exact Rat.intCast_le_intCast.2 om
 have:=Rat.mul_le_mul_of_nonneg_right a4 a3;unfold jD;grind
theorem NE {l:List Pnt} (h:qJ l) {s:Int}:∀ (i:Nat) (hi:i < l.length),nx l s=i->cG l s<=qR l[i].2
 | 0,hi,e=>by
  rw [cG,e];exact h.nn _ _
 | n+1,hi,e=>by
  have hn:n < l.length:=by omega
  have g1:=xS (l:=l) (s:=s) (i:=n) om;have g2:=Es (l:=l) (s:=s) om;simp only [e] at g2;rw [cG,e];dsimp only;rw [gE hn,gE hi];exact (btw (h.lt n hi) (h.mo n hi) g1 (Int.le_of_lt g2)).2
theorem OG {l:List Pnt} (h:qJ l) {s:Int} (hn:nx l s < l.length):cG l s<=qR (l[nx l s]'hn).2:=NE h _ hn rfl
theorem OH {l:List Pnt} (h:qJ l) {s:Int}{n:Nat} (e:nx l s=n+1) (hn:n < l.length):qR l[n].2<=cG l s:=by
 rw [cG,e];dsimp only;rw [gE hn];dsimp only;by_cases hn':n+1 < l.length
 ·rw [gE hn']
  dsimp only;have g1:=xS (l:=l) (s:=s) (i:=n) om;have g2:=Es (l:=l) (s:=s) om;simp only [e] at g2;exact (btw (h.lt n hn') (h.mo n hn') g1 (Int.le_of_lt g2)).1
 ·rw [List.getElem?_eq_none om]
  exact Rat.le_refl
theorem LH {l:List Pnt} (h:qJ l) {s t:Int} (hst:s<=t):nx l s<=nx l t:=by
 refine Nat.not_lt.1 fun hlt=>?_
 have hl:=xR l s;have h1:=xS (l:=l) (s:=s) (i:=nx l t) hlt;have h2:=Es (l:=l) (s:=t) om;omega
theorem AA {l:List Pnt} (h:qJ l) {s t:Int} (hst:s<=t):cG l s<=cG l t:=by
 have hm:=LH h hst;have hl:=xR l t;by_cases e:nx l s=nx l t
 ·rw [cG,cG,e]
  cases e2:nx l t with
  | zero=>exact Rat.le_refl
  | succ n =>
   dsimp only;rw [gE (show n < l.length by omega)]
   dsimp only;by_cases hn':n+1 < l.length
   ·rw [gE hn']
    exact JM (h.lt n hn') (h.mo n hn') hst
   ·rw [List.getElem?_eq_none om]
    exact Rat.le_refl
 ·obtain ⟨d,hd⟩:∃ d,nx l t=nx l s+d+1:=⟨nx l t-nx l s-1,by omega⟩
  have h1:=OG h (s:=s) om;have h2:=h.fle d (nx l s) om;have h3:=OH h hd om;exact Rat.le_trans h1 (Rat.le_trans h2 h3)
theorem It {s:Spn} (h:aQ s) {lo hi t:Int} (h1:lo<=t) (h2:t<=hi):(bC s lo<=bC s t/\bC s t<=bC s hi)∨(bC s hi<=bC s t/\bC s t<=bC s lo):=by
 have hF:=ND h.2.2;have c:∀ x,dO s.pts x=cG s.pts x:=fun x=>by rw [dO,if_pos h.2.2]
 have m1:=AA hF (show lo+s.dat<=t+s.dat by omega)
 have m2:=AA hF (show t+s.dat<=hi+s.dat by omega)
 unfold bC;rw [c,c,c];by_cases hw:0<=qR s.wt
 ·exact .inl ⟨Rat.mul_le_mul_of_nonneg_left m1 hw,Rat.mul_le_mul_of_nonneg_left m2 hw⟩
 ·have hw':0<=-qR s.wt:=by grind
  have a1:=Rat.mul_le_mul_of_nonneg_left m1 hw';have a2:=Rat.mul_le_mul_of_nonneg_left m2 hw';right;constructor<;>grind
def vC (S n:Nat) (row col:Nat->Int) (u v:Nat->Rat):Rat:=rS' (fun s=>(row s:Rat)*u s) S+rS' (fun c=>(col c:Rat)*v c) n
theorem Ht {S n:Nat}{row col:Nat->Int}{x:Nat->Nat->Int} (hx:kX S n row col x) (u v:Nat->Rat):vC S n row col u v=cW S n (fun s c=>u s+v c) x:=by
 have e1:∀ s,s < S->rS' (fun c=>(x s c:Rat)*(u s+v c)) n=(row s:Rat)*u s+rS' (fun c=>(x s c:Rat)*v c) n:=fun s hs=>by
  rw [<- hx.row s hs,<- mM,Rat.mul_comm,<- oM,<- jH];exact aU fun c _=>by grind
 unfold cW vC;rw [aU e1,jH,Dx];congr 1;refine aU fun c hc=>?_
 rw [<- hx.col c hc,<- mM,Rat.mul_comm,<- oM];exact aU fun s _=>Rat.mul_comm _ _
theorem FV {S n:Nat}{row col:Nat->Int}{g:Nat->Nat->Rat}{x:Nat->Nat->Int} (hx:kX S n row col x) {u v:Nat->Rat} (h:∀ s c,s < S->c < n->0 < x s c->u s+v c=g s c):vC S n row col u v=cW S n g x:=by
 rw [Ht hx];refine aU fun s hs=>aU fun c hc=>?_
 by_cases h0:0 < x s c
 ·show (x s c:Rat)*(u s+v c)=_
  rw [h s c hs hc h0]
 ·have:x s c=0:=by have:=hx.nn s c hs hc;omega
  rw [this];show (0:Rat)*_=(0:Rat)*_;rw [Rat.zero_mul,Rat.zero_mul]
end Go.Proofs.YtjcecdmbfmccoaaGreatDoor
/-
 Plain: potentials that are lowered one by one come to an end,and prove the least cost.
-/
namespace Go.Proofs.YtjcecdmbfmccoaaGreatDoor
structure mV (n:Nat) (th:Nat->Nat->Prop) (g:Nat->Nat->Rat) (D:Rat) (K:Int) (pi v:Nat->Rat):Prop where
 pot:∀ a b s,a < n->b < n->th a s->pi b<=pi a+(g s b-g s a)
 low:∀ b,b < n->(K:Rat)<=pi b*D
 ge:∀ b,b < n->pi b<=v b
 iq:∀ b,b < n->∃ N:Int,v b*D=(N:Rat)
def LI (n:Nat) (D:Rat) (K:Int) (v:Nat->Rat):Nat:=(iS (fun b=>((v b*D).num-K)) n).toNat
def oO (v:Nat->Rat) (b:Nat) (x:Rat):Nat->Rat:=fun c=>if c=b then x else v c
section
variable {n:Nat}{th:Nat->Nat->Prop}{g:Nat->Nat->Rat}{D:Rat}{K:Int}{pi v:Nat->Rat}
theorem mV.num (h:mV n th g D K pi v) (hD:0 < D) {b:Nat} (hb:b < n):K<=(v b*D).num:=by
 obtain ⟨N,hN⟩:=h.iq b hb;have h1:=Rat.mul_le_mul_of_nonneg_right (h.ge b hb) (Rat.le_of_lt hD);have h2:=h.low b hb;rw [hN,Rat.num_intCast];refine Rat.intCast_le_intCast.1 ?_;rw [<- hN];exact Rat.le_trans h2 h1
theorem MM {f f':Nat->Int}:∀ {n b:Nat},b < n->(∀ c,c < n->f' c<=f c)->f' b < f b->iS f' n < iS f n
 | 0,b,hb,_,_=>absurd hb (Nat.not_lt_zero _)
 | n+1,b,hb,hle,hlt=>by
  rw [iS,iS];by_cases e:b=n
  ·subst e
   have:iS f' b<=iS f b:=by
    have hh:∀ m,m<=b->iS f' m<=iS f m:=fun m=>by
     induction m with
     | zero=>exact fun _=>Int.le_refl _
     | succ m ih =>
      intro hm;have:=ih om;have:=hle m om;rw [iS,iS];omega
    exact hh b (Nat.le_refl _)
   omega
  ·have:=MM (n:=n) (b:=b) om (fun c hc=>hle c om) hlt
   have:=hle n om;omega
theorem mV.step (h:mV n th g D K pi v) (hD:0 < D) (hg:∀ s c,c < n->(∃ a,a < n/\th a s)->∃ N:Int,g s c*D=(N:Rat)) {a b s:Nat} (ha:a < n) (hb:b < n) (hs:th a s) (hlt:v a+(g s b-g s a) < v b) :
  mV n th g D K pi (oO v b (v a+(g s b-g s a)))/\LI n D K (oO v b (v a+(g s b-g s a))) < LI n D K v:=by
 obtain ⟨Na,hNa⟩:=h.iq a ha;obtain ⟨N1,hN1⟩:=hg s b hb ⟨a,ha,hs⟩;obtain ⟨N2,hN2⟩:=hg s a ha ⟨a,ha,hs⟩;have hx:(v a+(g s b-g s a))*D=((Na+(N1-N2):Int):Rat):=by
  rw [Rat.intCast_add,Rat.intCast_sub,<- hNa,<- hN1,<- hN2];grind
 have hI:mV n th g D K pi (oO v b (v a+(g s b-g s a))):=by
  refine ⟨h.pot,h.low,fun c hc=>?_,fun c hc=>?_⟩
  ·unfold oO
   split
   ·rename_i e
    subst e;have:=h.pot a c s ha hc hs;have:=h.ge a ha;grind
   ·exact h.ge c hc
  ·unfold oO
   split
   ·exact ⟨_,hx⟩
   ·exact h.iq c hc
 refine ⟨hI,?_⟩;have hnn:0<=iS (fun c=>((oO v b (v a+(g s b-g s a)) c*D).num-K)) n:=qI fun c hc=>by
  have:=hI.num hD hc;omega
 have hl:iS (fun c=>((oO v b (v a+(g s b-g s a)) c*D).num-K)) n < iS (fun c=>((v c*D).num-K)) n:=by
  have hlow:((v a+(g s b-g s a))*D).num < (v b*D).num:=by
   obtain ⟨Nb,hNb⟩:=h.iq b hb;have h1:=Rat.mul_lt_mul_of_pos_right hlt hD;rw [hx,hNb] at h1 ⊢;rw [Rat.num_intCast,Rat.num_intCast];refine Int.not_le.1 fun q=>?_
   have:=Rat.intCast_le_intCast.2 q;grind
  refine MM hb (fun c _=>?_) ?_
  ·unfold oO
   split
   ·rename_i e;subst e;omega
   ·exact Int.le_refl _
  ·unfold oO
   rw [if_pos rfl];omega
 unfold LI;omega
end
def iO (g:Nat->Nat->Rat) (v:Nat->Rat) (s:Nat):Nat->Rat
 | 0=>g s 0-v 0
 | c+1=>if g s c-v c < iO g v s c then g s c-v c else iO g v s c
theorem rS (g:Nat->Nat->Rat) (v:Nat->Rat) (s:Nat):∀ n,(∀ c,c < n->iO g v s n<=g s c-v c)/\(0 < n->∃ c,c < n/\iO g v s n=g s c-v c)/\iO g v s n<=g s 0-v 0
 | 0=>⟨fun c hc=>absurd hc (Nat.not_lt_zero _),fun h=>absurd h (Nat.lt_irrefl _),Rat.le_refl⟩
 | n+1=>by
  obtain ⟨h1,h2,h3⟩:=rS g v s n;rw [iO];by_cases hc:g s n-v n < iO g v s n
  ·rw [if_pos hc]
   refine ⟨fun c hc'=>?_,fun _=>⟨n,Nat.lt_succ_self _,rfl⟩,by grind⟩
   by_cases e:c=n
   ·subst e;exact Rat.le_refl
   ·have:=h1 c om
    grind
  ·rw [if_neg hc]
   refine ⟨fun c hc'=>?_,fun _=>?_,h3⟩
   ·by_cases e:c=n
    ·subst e;grind
    ·exact h1 c om
   ·by_cases h0:0 < n
    ·obtain ⟨c,q1,q2⟩:=h2 h0
     exact ⟨c,by omega,q2⟩
    ·have hn:n=0:=by omega
     subst hn;exact ⟨0,by omega,rfl⟩
theorem Iu {S n:Nat}{row col:Nat->Int}{g:Nat->Nat->Rat}{x:Nat->Nat->Int} (hx:kX S n row col x) (hn:0 < n) {v:Nat->Rat} (hv:∀ s a b,s < S->a < n->b < n->0 < x s a->v b<=v a+(g s b-g s a)) :
  (∀ s c,s < S->c < n->iO g v s n+v c<=g s c)/\vC S n row col (fun s=>iO g v s n) v=cW S n g x:=by
 refine ⟨fun s c _ hc=>by have:=(rS g v s n).1 c hc;grind,FV hx fun s c hs hc h0=>?_⟩
 obtain ⟨d,hd,e⟩:=(rS g v s n).2.1 hn;have h1:=(rS g v s n).1 c hc;have h2:=hv s c d hs hc hd h0;show iO g v s n+v c=g s c
 grind
end Go.Proofs.YtjcecdmbfmccoaaGreatDoor
/-
 Plain: the classes of a run,how many ticks are in which,and the class of a tick.
-/
namespace Go.Proofs.YtjcecdmbfmccoaaGreatDoor
open Go.RowKit Go.Sl Go.Num
def ovC (r:Rn) (s:Spn):Int:=min r.to_ s.to_-max r.from_ s.from_
def iA (r:Rn) (l:List Spn):Nat->List (Int×Int)
 | 0=>[]
 | k+1=>iA r l k++match l[k]? with
  | none=>[]
  | some s=>if 0 < ovC r s then [((k:Int),ovC r s)] else []
def gU:List (Int×Int)->Int
 | []=>0
 | x::l=>x.2+gU l
def jI (r:Rn) (l:List Spn):Int:=r.to_-r.from_-gU (iA r l l.length)
def aD (r:Rn) (l:List Spn):List (Int×Int):=iA r l l.length++if 0 < jI r l then [(-1,jI r l)] else []
theorem nN:∀ a b:List (Int×Int),gU (a++b)=gU a+gU b
 | [],b=>by rw [List.nil_append,gU,Int.zero_add]
 | x::a,b=>by rw [List.cons_append,gU,gU,nN a b,Int.add_assoc]
theorem yT {r:Rn}{l:List Spn}{x:Int×Int}:∀ {k},x∈iA r l k ↔ ∃ (i:Nat) (s:Spn),i < k/\l[i]?=some s/\0 < ovC r s/\x=((i:Int),ovC r s)
 | 0=>by simp [iA]
 | k+1=>by
  rw [iA,List.mem_append,yT (k:=k)];constructor
  ·rintro (⟨i,s,h1,h2⟩|h)
   ·exact ⟨i,s,by omega,h2⟩
   ·cases hk:l[k]? with
    | none=>rw [hk] at h;cases h
    | some s =>
     rw [hk] at h
     dsimp only at h
     split at h
     ·rename_i h1
      exact ⟨k,s,by omega,hk,h1,by simpa using h⟩
     ·cases h
  ·rintro ⟨i,s,h1,h2,h3,rfl⟩
   by_cases e:i=k
   ·subst e
    refine .inr ?_;rw [h2];dsimp only;rw [if_pos h3];exact List.mem_singleton.2 rfl
   ·exact .inl ⟨i,s,by omega,h2,h3,rfl⟩
theorem JN (r:Rn) (l:List Spn):∀ k,(iA r l k).Pairwise fun x y=>x.1 < y.1
 | 0=>List.Pairwise.nil
 | k+1=>by
  rw [iA,List.pairwise_append];refine ⟨JN r l k,?_,fun x hx y hy=>?_⟩
  ·split
   ·exact List.Pairwise.nil
   ·split
    ·exact List.pairwise_singleton _ _
    ·exact List.Pairwise.nil
  ·obtain ⟨i,s,h1,_,_,rfl⟩:=yT.1 hx
   split at hy
   ·cases hy
   ·split at hy
    ·rw [List.mem_singleton.1 hy];dsimp only;omega
    ·cases hy
theorem lT {r:Rn}{l:List Spn}{x:Int×Int}:x∈aD r l ↔ (∃ (i:Nat) (s:Spn),l[i]?=some s/\0 < ovC r s/\x=((i:Int),ovC r s))∨(0 < jI r l/\x=(-1,jI r l)):=by
 rw [aD,List.mem_append,yT];refine or_congr ⟨fun ⟨i,s,_,h⟩=>⟨i,s,h⟩,fun ⟨i,s,h⟩=>⟨i,s,(List.getElem?_eq_some_iff.1 h.1).1,h⟩⟩ ?_
 split
 ·rename_i h;simp [h]
 ·rename_i h;simp [h]
theorem LJ (r:Rn) (l:List Spn):(aD r l).Pairwise fun x y=>x.1≠y.1:=by
 rw [aD,List.pairwise_append];refine ⟨(JN r l _).imp fun h=>by omega,?_,fun x hx y hy=>?_⟩
 ·split
  ·exact List.pairwise_singleton _ _
  ·exact List.Pairwise.nil
 ·obtain ⟨i,s,h1,_,_,rfl⟩:=yT.1 hx
  split at hy
  ·rw [List.mem_singleton.1 hy];dsimp only;omega
  ·cases hy
theorem vD {r:Rn}{l:List Spn}:∀ x∈aD r l,0 < x.2:=fun x hx=>by
 rcases lT.1 hx with ⟨i,s,_,h,rfl⟩|⟨h,rfl⟩
 ·exact h
 ·exact h
def nP (P:Int->Bool):Int->Nat->Int
 | _,0=>0
 | f,N+1=>(if P f=true then 1 else 0)+nP P (f+1) N
def kF (ix:Int->Nat):Int->Nat->List Nat
 | _,0=>[]
 | f,N+1=>ix f::kF ix (f+1) N
theorem JP (ix:Int->Nat):∀ (N:Nat) (f:Int),(kF ix f N).length=N
 | 0,_=>rfl
 | N+1,f=>by rw [kF,List.length_cons,JP ix N]
theorem FW (ix:Int->Nat):∀ {N:Nat}{f:Int}{j:Nat},j < N->(kF ix f N)[j]?=some (ix (f+j))
 | 0,_,j,h=>absurd h (Nat.not_lt_zero _)
 | N+1,f,0,_=>by rw [kF];simp
 | N+1,f,j+1,h=>by rw [kF,List.getElem?_cons_succ,FW ix om];congr 2;omega
theorem JQ {ix:Int->Nat}{c:Nat}:∀ {N:Nat}{f:Int},c∈kF ix f N->∃ t,f<=t/\t < f+N/\c=ix t
 | 0,_,h=>by cases h
 | N+1,f,h=>by
  rcases List.mem_cons.1 h with rfl|h
  ·exact ⟨f,Int.le_refl _,by omega,rfl⟩
  ·obtain ⟨t,h1,h2,h3⟩:=JQ h
   exact ⟨t,by omega,by omega,h3⟩
theorem JR {ix:Int->Nat}{P:Int->Bool}{c:Nat}:∀ {N:Nat}{f:Int},(∀ t,f<=t->t < f+N->(ix t=c ↔ P t=true))->(((kF ix f N).count c:Nat):Int)=nP P f N
 | 0,_,_=>rfl
 | N+1,f,h=>by
  rw [kF,List.count_cons,nP,<- JR (ix:=ix) (c:=c) fun t h1 h2=>h t om om]
  have:=h f (Int.le_refl _) om;by_cases e:ix f=c
  ·rw [if_pos (by simpa using e),if_pos (this.1 e)];omega
  ·rw [if_neg (by simpa using e),if_neg fun h=>e (this.2 h)];omega
theorem JS {s:Spn} (hs:s.from_ < s.to_):∀ (N:Nat) (f:Int),nP (fun t=>inS t s) f N=max 0 (min (f+N) s.to_-max f s.from_)
 | 0,f=>by rw [nP];omega
 | N+1,f=>by
  rw [nP,JS hs N (f+1)];simp only [inS,Bool.and_eq_true,decide_eq_true_eq];split<;>omega
theorem JT (P:Int->Bool):∀ (N:Nat) (f:Int),0<=nP P f N
 | 0,_=>Int.le_refl _
 | N+1,f=>by
  have:=JT P N (f+1);rw [nP];split<;>omega
theorem JU {P:Int->Bool}{t:Int} (ht:P t=true):∀ {N:Nat}{f:Int},f<=t->t < f+N->0 < nP P f N
 | 0,f,h1,h2=>by omega
 | N+1,f,h1,h2=>by
  have:=JT P N (f+1);rw [nP];by_cases e:f=t
  ·rw [e,if_pos ht];rw [e] at this;omega
  ·have:=JU ht (N:=N) (f:=f+1) om om
   split<;>omega
theorem vE {P Q:Int->Bool} (h:∀ t,P t=Q t):∀ (N:Nat) (f:Int),nP P f N=nP Q f N
 | 0,_=>rfl
 | N+1,f=>by rw [nP,nP,h,vE h N]
theorem JV (ix:Int->Nat) (m:Nat) (h:∀ t,ix t<=m):∀ (N:Nat) (f:Int),iS (fun i=>nP (fun t=>decide (ix t=i)) f N) m+nP (fun t=>decide (ix t=m)) f N=N
 | 0,f=>by
  have:iS (fun i=>nP (fun t=>decide (ix t=i)) f 0) m=iS (fun _=>0) m:=rfl
  rw [this,oL,nP];rfl
 | N+1,f=>by
  have ih:=JV ix m h N (f+1);have e:iS (fun i=>nP (fun t=>decide (ix t=i)) f (N+1)) m=iS (fun i=>(if i=ix f then 1 else 0)+nP (fun t=>decide (ix t=i)) (f+1) N) m:=eI fun i _=>by
   rw [nP];by_cases e:ix f=i
   ·rw [if_pos (by simpa using e),if_pos e.symm]
   ·rw [if_neg (by simpa using e),if_neg fun h=>e h.symm]
  rw [e,qG,qH,nP];have:=h f;by_cases e:ix f=m
  ·rw [if_neg om,if_pos (by simpa using e)];omega
  ·rw [if_pos om,if_neg (by simpa using e)];omega
theorem aR.at {l:List Spn}{t:Int}:∀ {x:Int} (_:aR x l) {i:Nat} (hi:i < l.length),bW l t=i ↔ inS t l[i]=true:=by
 induction l with
 | nil=>intro x h i hi;exact absurd hi (Nat.not_lt_zero _)
 | cons s r ih =>
  intro x h i hi;have e:bW (s::r) t=if inS t s=true then 0 else bW r t+1:=by
   unfold bW;rw [List.findIdx_cons];cases inS t s<;>rfl
  rw [e];cases i with
  | zero =>
   rw [List.getElem_cons_zero];split
   ·rename_i h1;exact ⟨fun _=>h1,fun _=>rfl⟩
   ·rename_i h1;exact ⟨fun h=>absurd h om,fun h=>absurd h h1⟩
  | succ i =>
   rw [List.getElem_cons_succ,<- ih h.2.2 (by simpa using hi)]
   split
   ·rename_i h1
    have h1:s.from_<=t/\t < s.to_:=by simpa [inS] using h1
    have h2:=h.2.2.none h1.2
    have:i < r.length:=by simpa using hi
    omega
   ·omega
theorem aR.lt {l:List Spn}:∀ {x:Int} (_:aR x l) {i:Nat} (hi:i < l.length),l[i].from_ < l[i].to_:=by
 induction l with
 | nil=>intro x h i hi;exact absurd hi (Nat.not_lt_zero _)
 | cons s r ih =>
  intro x h i hi;cases i with
  | zero=>exact h.2.1
  | succ i=>exact ih h.2.2 (by simpa using hi)
section
variable {r:Rn}{l:List Spn}{x:Int}
theorem Hu (hl:aR x l) (hr:r.from_ < r.to_):∀ k,k<=l.length->gU (iA r l k)=iS (fun i=>nP (fun t=>decide (bW l t=i)) r.from_ (r.to_-r.from_).toNat) k
 | 0,_=>rfl
 | k+1,hk=>by
  have hk':k < l.length:=by omega
  rw [iA,nN,Hu hl hr k om,iS,gE hk'];congr 1;have e:∀ t,decide (bW l t=k)=inS t l[k]:=fun t=>by
   rw [Bool.eq_iff_iff,decide_eq_true_eq];exact hl.at hk'
  rw [vE e,JS (hl.lt hk')];dsimp only;have e2:ovC r l[k]=min (r.from_+((r.to_-r.from_).toNat:Int)) l[k].to_-max r.from_ l[k].from_:=by unfold ovC;omega
  split
  ·rw [gU,gU];omega
  ·rw [gU];omega
theorem AB (hl:aR x l) (hr:r.from_ < r.to_):jI r l=nP (fun t=>decide (bW l t=l.length)) r.from_ (r.to_-r.from_).toNat:=by
 have h1:=Hu hl hr l.length (Nat.le_refl _);have h2:=JV (bW l) l.length (lE l) (r.to_-r.from_).toNat r.from_;unfold jI;rw [h1];omega
def dG (r:Rn) (l:List Spn) (t:Int):Nat:=(aD r l).findIdx fun c=>decide (c.1=bO l t)
def aG (r:Rn) (l:List Spn) (c:Nat):Int:=((aD r l).getD c (-1,0)).1
def aT (r:Rn) (l:List Spn) (c:Nat):Int:=((aD r l).getD c (-1,0)).2
theorem tM (hl:aR x l) (hr:r.from_ < r.to_) {t:Int} (h1:r.from_<=t) (h2:t < r.to_):dG r l t < (aD r l).length/\aG r l (dG r l t)=bO l t:=by
 have key:∃ c∈aD r l,c.1=bO l t:=by
  unfold bO;split
  ·rename_i hs
   have h3:=wI hs;refine ⟨_,lT.2 (.inl ⟨bW l t,l[bW l t],gE hs,?_,rfl⟩),rfl⟩;simp only [inS,Bool.and_eq_true,decide_eq_true_eq] at h3;unfold ovC;omega
  ·rename_i hs
   refine ⟨_,lT.2 (.inr ⟨?_,rfl⟩),rfl⟩;rw [AB hl hr];exact JU (t:=t) (by have:=lE l t;simp;omega) h1 om
 obtain ⟨c,hc,e⟩:=key;have hlt:dG r l t < (aD r l).length:=List.findIdx_lt_length_of_exists ⟨c,hc,by simpa using e⟩
 refine ⟨hlt,?_⟩;have h3:decide ((aD r l)[dG r l t].1=bO l t)=true:=List.findIdx_getElem (w:=hlt);unfold aG;rw [gD,gE hlt,Option.getD_some];exact of_decide_eq_true h3
theorem Dz {a b:Nat} (ha:a < (aD r l).length) (hb:b < (aD r l).length) (h:aG r l a=aG r l b):a=b:=by
 have hp:=List.pairwise_iff_getElem.1 (LJ r l);simp only [aG,gD,gE ha,gE hb,Option.getD_some] at h
 rcases Nat.lt_trichotomy a b with h1|h1|h1
 ·exact absurd h (hp a b ha hb h1)
 ·exact h1
 ·exact absurd h.symm (hp b a hb ha h1)
def kL (r:Rn) (l:List Spn):List Nat:=kF (dG r l) r.from_ (r.to_-r.from_).toNat
theorem Cq (hl:aR x l) (hr:r.from_ < r.to_):∀ c∈kL r l,c < (aD r l).length:=fun c hc=>by
 obtain ⟨t,h1,h2,rfl⟩:=JQ hc;exact (tM hl hr h1 om).1
theorem wP (hl:aR x l) (hr:r.from_ < r.to_) {c:Nat} (hc:c < (aD r l).length):(((kL r l).count c:Nat):Int)=aT r l c:=by
 have h0:∀ t,r.from_<=t->t < r.from_+((r.to_-r.from_).toNat:Int)->(dG r l t=c ↔ decide (bO l t=aG r l c)=true):=fun t h1 h2=>by
  have:=tM hl hr h1 (t:=t) om;rw [decide_eq_true_eq,<- this.2];exact ⟨fun e=>by rw [e],fun e=>Dz this.1 hc e⟩
 rw [kL,JR h0];have hm:=gM hc;have e1:aG r l c=(aD r l)[c].1:=by rw [aG,gD,gE hc,Option.getD_some]
 have e2:aT r l c=(aD r l)[c].2:=by rw [aT,gD,gE hc,Option.getD_some]
 rcases lT.1 hm with ⟨i,s,h1,h2,h3⟩|⟨h1,h3⟩
 ·obtain ⟨hi,rfl⟩:=List.getElem?_eq_some_iff.1 h1
  rw [e2,h3,e1,h3];have e:∀ t,decide (bO l t=((i:Int),ovC r l[i]).1)=inS t l[i]:=fun t=>by
   rw [Bool.eq_iff_iff,decide_eq_true_eq,<- hl.at hi];unfold bO;have:=lE l t;dsimp only;split<;>omega
  rw [vE e,JS (hl.lt hi)];unfold ovC at h2 ⊢;dsimp only;omega
 ·rw [e2,h3,e1,h3]
  have e:∀ t,decide (bO l t=((-1:Int),jI r l).1)=decide (bW l t=l.length):=fun t=>by
   rw [Bool.eq_iff_iff,decide_eq_true_eq,decide_eq_true_eq];unfold bO;have:=lE l t;dsimp only;split<;>omega
  rw [vE e,AB hl hr]
theorem iB (hl:aR x l) (hr:r.from_ < r.to_):0 < (aD r l).length:=by
 have:=(tM hl hr (Int.le_refl _) hr).1;omega
theorem kB (hl:aR x l) (hr:r.from_ < r.to_):gU (aD r l)=r.to_-r.from_:=by
 have h:=AB hl hr;have h2:=JT (fun t=>decide (bW l t=l.length)) (r.to_-r.from_).toNat r.from_
 rw [aD,nN];by_cases e:0 < jI r l
 ·rw [if_pos e,gU,gU];unfold jI at *;omega
 ·rw [if_neg e,gU];unfold jI at *;omega
theorem vF (r:Rn) (l:List Spn):∀ k,(iA r l k).length<=k
 | 0=>Nat.le_refl _
 | k+1=>by
  have:=vF r l k;rw [iA,List.length_append];split
  ·simp;omega
  ·split<;>simp<;>omega
theorem Hv (r:Rn) (l:List Spn):(aD r l).length<=l.length+1:=by
 have:=vF r l l.length;rw [aD,List.length_append];split<;>simp<;>omega
end
def aS (l:List Spn) (p st:Int):Rat:=if p < 0 then 0 else match l[p.toNat]? with
 | none=>0
 | some s=>bC s st
theorem Cr (l:List Spn) (t st:Int):bH l t st=aS l (bO l t) st:=by
 unfold bH aS bO;by_cases h:bW l t < l.length
 ·rw [if_pos h,if_neg om,Int.toNat_natCast,gE h]
 ·rw [if_neg h,if_pos om,List.getElem?_eq_none om]
def sgR (t:Bool) (x:Rat):Rat:=if t=true then -x else x
theorem iF (t:Bool) (x y:Rat):sgR t (x+y)=sgR t x+sgR t y:=by
 cases t
 ·rfl
 ·show -(x+y)=-x+-y;grind
theorem yU (t:Bool) (x y:Rat):sgR t (x-y)=sgR t x-sgR t y:=by
 cases t
 ·rfl
 ·show -(x-y)=-x - -y;grind
theorem yV (t:Bool) (c x:Rat):sgR t (c*x)=c*sgR t x:=by
 cases t
 ·rfl
 ·show -(c*x)=c*-x;grind
theorem lU (t:Bool):sgR t 0=0:=by cases t<;>rfl
theorem oP (t:Bool) (x:Rat):sgR t (sgR t x)=x:=by
 cases t
 ·rfl
 ·show - -x=x;grind
theorem LK {t:Bool}{x y:Rat} (h:sgR t x=sgR t y):x=y:=by rw [<- oP t x,h,oP]
theorem rT (t:Bool) (f:Nat->Rat):∀ n,rS' (fun i=>sgR t (f i)) n=sgR t (rS' f n)
 | 0=>(lU t).symm
 | n+1=>by rw [rS',rS',rT t f n,iF]
theorem nO (t:Bool) (S n:Nat) (g:Nat->Nat->Rat) (x:Nat->Nat->Int):cW S n (fun s c=>sgR t (g s c)) x=sgR t (cW S n g x):=by
 unfold cW;rw [<- rT];refine aU fun s _=>?_
 rw [<- rT];exact aU fun c _=>(yV t _ _).symm
def yI (b:Nat->Rat):List Nat->Rat
 | []=>0
 | c::K=>b c+yI b K
theorem EF {n:Nat} (b:Nat->Rat):∀ {K:List Nat},(∀ c∈K,c < n)->yI b K=rS' (fun c=>(((K.count c:Nat):Int):Rat)*b c) n
 | [],_=>by
  rw [aU (g:=fun _=>0) fun c _=>by show ((0:Int):Rat)*b c=0;rw [show ((0:Int):Rat)=0 from rfl,Rat.zero_mul],vA];rfl
 | k::K,h=>by
  rw [yI,EF b (K:=K) fun c hc=>h c (mC _ hc)]
  have e:rS' (fun c=>(((k::K).count c:Nat):Int)*b c) n=rS' (fun c=>(((K.count c:Nat):Int):Rat)*b c+if c=k then b k else 0) n:=aU fun c _=>by
   rw [List.count_cons];by_cases e:c=k
   ·subst e
    rw [if_pos (by simp),if_pos rfl,Int.natCast_add,Rat.intCast_add,show (((1:Nat):Int):Rat)=1 from rfl]
    grind
   ·rw [if_neg (by simpa using fun h=>e h.symm),if_neg e];grind
  rw [e,jH,tL,if_pos (h k (List.mem_cons_self ..)),Rat.add_comm]
theorem JW {l:List Spn}{ix:Int->Nat}{cl:Nat->Int}{sI:Int->Nat}{tb:Nat->Int}:∀ {A:List Int}{f:Int},(∀ t,f<=t->t < f+A.length->cl (ix t)=bO l t)->(∀ x∈A,tb (sI x)=x) ->
  aI l f A=JK (fun s c=>aS l (cl c) (tb s)) ((A.map sI).zip (kF ix f A.length))
 | [],f,_,_=>rfl
 | x::A,f,h1,h2=>by
  rw [aI,List.map_cons,List.length_cons,kF,List.zip_cons_cons,JK,h1 f (Int.le_refl _) (by rw [List.length_cons];omega),h2 x (List.mem_cons_self ..),<- Cr,
   JW (ix:=ix) (cl:=cl) (sI:=sI) (tb:=tb) (A:=A) (f:=f+1) (fun t a b=>h1 t om (by rw [List.length_cons];omega)) fun y hy=>h2 y (mC _ hy)]
theorem JX {l:List Spn}{ix:Int->Nat}{b:Nat->Rat}{t:Bool}:∀ {A:List Int}{f:Int},(∀ (j:Nat) (hj:j < A.length),b (ix (f+j))<=sgR t (bH l (f+j) A[j])) ->
  yI b (kF ix f A.length)<=sgR t (aI l f A)
 | [],f,_=>by rw [aI,lU];exact Rat.le_refl
 | x::A,f,h=>by
  have h0:=h 0 (by simp)
  have ih:=JX (l:=l) (ix:=ix) (b:=b) (t:=t) (A:=A) (f:=f+1) fun j hj=>by
   have:=h (j+1) (by simpa using hj)
   rw [List.getElem_cons_succ] at this;rw [show f+1+(j:Int)=f+((j+1:Nat):Int) from by omega];exact this
  rw [aI,List.length_cons,kF,yI,iF];simp only [List.getElem_cons_zero,Int.natCast_zero,Int.add_zero] at h0;exact Std.le_trans (Rat.add_le_add_right.2 h0) (Rat.add_le_add_left.2 ih)
theorem JY {l:List Spn}{ix:Int->Nat}{b:Nat->Rat}:∀ {A:List Int}{f:Int},(∀ (j:Nat) (hj:j < A.length),b (ix (f+j))=bH l (f+j) A[j]) ->
  yI b (kF ix f A.length)=aI l f A
 | [],f,_=>rfl
 | x::A,f,h=>by
  have h0:=h 0 (by simp)
  have ih:=JY (l:=l) (ix:=ix) (b:=b) (A:=A) (f:=f+1) fun j hj=>by
   have:=h (j+1) (by simpa using hj)
   rw [List.getElem_cons_succ] at this;rw [show f+1+(j:Int)=f+((j+1:Nat):Int) from by omega];exact this
  simp only [List.getElem_cons_zero,Int.natCast_zero,Int.add_zero] at h0;rw [aI,List.length_cons,kF,yI,h0,ih]
def tbS (r:Rn) (s:Nat):Int:=(r.tab.getD s (0,0)).1
def tbT (r:Rn) (s:Nat):Int:=(r.tab.getD s (0,0)).2
def sIx (r:Rn) (st:Int):Nat:=r.tab.findIdx fun h=>decide (h.1=st)
theorem Hw:∀ (t:List (Int×Int)) (q:Option (Int×Int)),cJ q t=true->(t.map (·.1)).Nodup/\∀ p,q=some p->∀ x∈t,p.1 < x.1
 | [],_,_=>⟨List.nodup_nil,fun _ _ x hx=>by cases hx⟩
 | y::t,q,h=>by
  have h:((match q with|none=>true|some q=>decide (q.1 < y.1)) && cJ (some y) t)=true:=by cases q<;>exact h
  rw [Bool.and_eq_true] at h
  obtain ⟨h1,h2⟩:=Hw t (some y) h.2;refine ⟨List.nodup_cons.2 ⟨fun hm=>?_,h1⟩,fun p hp x hx=>?_⟩
  ·obtain ⟨z,hz,e⟩:=List.mem_map.1 hm
   have:=h2 y rfl z hz;dsimp only at e;omega
  ·subst hp
   have h3:p.1 < y.1:=of_decide_eq_true h.1;rcases List.mem_cons.1 hx with rfl|hx
   ·exact h3
   ·have:=h2 y rfl x hx
    omega
theorem OkR.tab {r:Rn} (h:OkR r) (h0:r.tab.length≠0):(r.tab.map (·.1)).Nodup/\(∀ x∈r.tab,1<=x.2)/\iM r.tab=r.to_-r.from_/\∀ x∈r.tab,0<=x.1/\x.1<=1000:=by
 obtain ⟨h2,h3,h4⟩:=fR h.2 h0;exact ⟨(Hw _ none h3).1,fun p hp=>(h2 p hp).2.1,h4.1,fun p hp=>(h2 p hp).1⟩
theorem tN:∀ (t:List (Int×Int)),(t.map (·.1)).Nodup->(∀ x∈t,1<=x.2)->∀ x∈t,(((pB t).count x.1:Nat):Int)=x.2
 | [],_,_,x,hx=>by cases hx
 | y::t,h,h1,x,hx=>by
  rw [List.map_cons,List.nodup_cons] at h
  rw [rM,List.count_append,List.count_replicate];have hy:=h1 y (List.mem_cons_self ..);rcases List.mem_cons.1 hx with rfl|hx
  ·have:(pB t).count x.1=0:=List.count_eq_zero.2 fun hm=>by
    obtain ⟨m,hm⟩:=jG hm;exact h.1 (List.mem_map.2 ⟨_,hm,rfl⟩)
   rw [this,if_pos (by simp)];omega
  ·have ne:y.1≠x.1:=fun e=>h.1 (List.mem_map.2 ⟨x,hx,e.symm⟩)
   rw [if_neg (by simpa using ne)]
   have:=tN t h.2 (fun z hz=>h1 z (mC _ hz)) x hx
   omega
section
variable {r:Rn}{l:List Spn}{x:Int}
theorem wQ {st:Int} (h:∃ m,(st,m)∈r.tab):sIx r st < r.tab.length/\tbS r (sIx r st)=st:=by
 obtain ⟨m,hm⟩:=h;have hlt:sIx r st < r.tab.length:=List.findIdx_lt_length_of_exists ⟨_,hm,by simp⟩
 refine ⟨hlt,?_⟩;have h3:decide ((r.tab[sIx r st]).1=st)=true:=List.findIdx_getElem (w:=hlt);rw [tbS,gD,gE hlt,Option.getD_some];exact of_decide_eq_true h3
theorem D0 (h:(r.tab.map (·.1)).Nodup) {a b:Nat} (ha:a < r.tab.length) (hb:b < r.tab.length) (e:tbS r a=tbS r b):a=b:=by
 have hp:=List.pairwise_iff_getElem.1 h;simp only [tbS,gD,gE ha,gE hb,Option.getD_some] at e;rcases Nat.lt_trichotomy a b with h1|h1|h1
 ·exact absurd (by rw [List.getElem_map,List.getElem_map];exact e) (hp a b (by simpa using ha) (by simpa using hb) h1)
 ·exact h1
 ·exact absurd (by rw [List.getElem_map,List.getElem_map];exact e.symm) (hp b a (by simpa using hb) (by simpa using ha) h1)
theorem eZ {s:Nat} (hs:s < r.tab.length):(tbS r s,tbT r s)∈r.tab:=by
 rw [tbS,tbT,gD,gE hs,Option.getD_some];exact gM hs
def prL (r:Rn) (l:List Spn) (A:List Int):List (Nat×Nat):=(A.map (sIx r)).zip (kL r l)
theorem rU {α β:Type}:∀ {a:List α}{b:List β}{y:α×β},y∈a.zip b->y.1∈a/\y.2∈b
 | [],_,y,h=>by simp at h
 | _::_,[],y,h=>by simp at h
 | p::a,q::b,y,h=>by
  rw [List.zip_cons_cons] at h
  rcases List.mem_cons.1 h with rfl|h
  ·exact ⟨List.mem_cons_self ..,List.mem_cons_self ..⟩
  ·exact ⟨mC _ (rU h).1,mC _ (rU h).2⟩
theorem AgP.len' {A:List Int} (h:OkR r) (ha:AgP r A):A.length=(r.to_-r.from_).toNat:=by
 have:=ha.len h;omega
theorem AgP.tabm {A:List Int} (h0:r.tab.length≠0) (ha:AgP r A):A.Perm (pB r.tab):=by
 unfold AgP at ha;rwa [if_neg h0] at ha
theorem JZ {A:List Int} (h:OkR r) (h0:r.tab.length≠0) (hl:aR x l) (ha:AgP r A):∀ y∈prL r l A,y.1 < r.tab.length/\y.2 < (aD r l).length:=fun y hy=>by
 obtain ⟨h1,h2⟩:=rU hy;obtain ⟨st,hst,e⟩:=List.mem_map.1 h1;exact ⟨e ▸ (wQ (jG ((ha.tabm h0).mem_iff.1 hst))).1,Cq hl h.rng.2.1 _ h2⟩
theorem vG {A:List Int} (h:OkR r) (h0:r.tab.length≠0) (hl:aR x l) (ha:AgP r A):aI l r.from_ A=cW r.tab.length (aD r l).length (fun s c=>aS l (aG r l c) (tbS r s)) (iN (prL r l A)):=by
 rw [<- Ho (fun s c=>aS l (aG r l c) (tbS r s)) (JZ h h0 hl ha),prL,kL,<- ha.len' h]
 have hr:=h.rng;have hlen:=ha.len h;exact JW (fun t h1 h2=>(tM hl hr.2.1 h1 om).2) fun y hy=>(wQ (jG ((ha.tabm h0).mem_iff.1 hy))).2
theorem D1 {α β:Type}:∀ {a:List α}{b:List β},a.length=b.length->(a.zip b).map (·.1)=a
 | [],_,_=>by simp
 | _::_,[],h=>by simp at h
 | p::a,q::b,h=>by rw [List.zip_cons_cons,List.map_cons,D1 (by simpa using h)]
theorem Hx {α β:Type}:∀ {a:List α}{b:List β},a.length=b.length->(a.zip b).map (·.2)=b
 | [],b,h=>by cases b<;>simp at *
 | _::_,[],h=>by simp at h
 | p::a,q::b,h=>by rw [List.zip_cons_cons,List.map_cons,Hx (by simpa using h)]
theorem FX:(kL r l).length=(r.to_-r.from_).toNat:=JP _ _ _
theorem qK {A:List Int} (h:OkR r) (h0:r.tab.length≠0) (hl:aR x l) (ha:AgP r A):kX r.tab.length (aD r l).length (tbT r) (aT r l) (iN (prL r l A)):=by
 have e:(A.map (sIx r)).length=(kL r l).length:=by rw [List.length_map,FX,ha.len' h]
 obtain ⟨n1,n2,-⟩:=h.tab h0;refine JL (JZ h h0 hl ha) (fun s hs=>?_) fun c hc=>?_
 ·rw [prL,D1 e]
  have hp:=ha.tabm h0;have e2:(A.map (sIx r)).count s=A.count (tbS r s):=by
   rw [List.count_eq_countP,List.countP_map,List.count_eq_countP];refine List.countP_congr fun y hy=>?_
   have:=wQ (r:=r) (jG (hp.mem_iff.1 hy));simp only [Function.comp,beq_iff_eq];exact ⟨fun e=>by rw [<- e];exact this.2.symm,fun e=>D0 n1 this.1 hs (by rw [this.2,e])⟩
  rw [e2,hp.count_eq];exact tN _ n1 n2 _ (eZ hs)
 ·rw [prL,Hx e]
  exact wP hl h.rng.2.1 hc
def oY (r:Rn) (l:List Spn) (X:Nat->Nat->Int):List Int:=(pC (kL r l) fun c=>gR X c r.tab.length).map (tbS r)
theorem LL {X:Nat->Nat->Int}{c:Nat}:∀ {S s},s∈gR X c S->s < S:=fun {S s} h=>by
 have:=List.count_pos_iff.2 h;rw [A9] at this;split at this
 ·assumption
 ·exact absurd this (Nat.lt_irrefl _)
theorem Ka {K:List Nat}:∀ {q:Nat->List Nat}{S:Nat},(∀ d,K.count d<=(q d).length)->(∀ d,∀ s∈q d,s < S)->∀ s∈pC K q,s < S:=fun {q S} h1 h2 s hs=>by
 obtain ⟨i,hi,e⟩:=List.mem_iff_getElem.1 hs;have hz:(pC K q).length=K.length:=A7 K q;have hm:(s,K[i]'om)∈(pC K q).zip K:=List.mem_iff_getElem.2 ⟨i,by rw [List.length_zip];omega,by rw [List.getElem_zip,e]⟩
 have h3:=List.count_pos_iff.2 hm;rw [A8 s _ K q h1] at h3;exact h2 _ s (List.mem_of_mem_take (List.count_pos_iff.1 h3))
theorem wR (h:OkR r) (h0:r.tab.length≠0) (hl:aR x l) {X:Nat->Nat->Int} (hx:kX r.tab.length (aD r l).length (tbT r) (aT r l) X):∀ d,(kL r l).count d<=(gR X d r.tab.length).length:=fun d=>by
 by_cases hd:d < (aD r l).length
 ·have h1:=wP hl h.rng.2.1 hd
  have h2:=nM X d r.tab.length fun s hs=>hx.nn s d hs hd
  rw [hx.col d hd] at h2;omega
 ·have:(kL r l).count d=0:=List.count_eq_zero.2 fun hm=>hd (Cq hl h.rng.2.1 _ hm)
  omega
theorem LM (h:OkR r) (h0:r.tab.length≠0) (hl:aR x l) {X:Nat->Nat->Int} (hx:kX r.tab.length (aD r l).length (tbT r) (aT r l) X) :
  AgP r (oY r l X)/\(∀ s c,s < r.tab.length->c < (aD r l).length->iN (prL r l (oY r l X)) s c=X s c)/\aI l r.from_ (oY r l X)=cW r.tab.length (aD r l).length (fun s c=>aS l (aG r l c) (tbS r s)) X:=by
 have hf:=wR h h0 hl hx;have hm:∀ s∈pC (kL r l) fun c=>gR X c r.tab.length,s < r.tab.length:=Ka hf fun d s hs=>LL hs
 obtain ⟨n1,n2,-⟩:=h.tab h0;have hdx:=NB hx (K:=kL r l) (Cq hl h.rng.2.1) (fun c hc=>wP hl h.rng.2.1 hc)
 have hlen:(pC (kL r l) fun c=>gR X c r.tab.length).length=(kL r l).length:=A7 _ _
 have hsx:(oY r l X).map (sIx r)=pC (kL r l) fun c=>gR X c r.tab.length:=by
  rw [oY,List.map_map];refine (List.map_congr_left fun s hs=>?_).trans (List.map_id _)
  have hs:=hm s hs;have:=wQ (r:=r) ⟨_,eZ hs⟩;exact D0 n1 this.1 hs this.2
 have hpr:prL r l (oY r l X)=(pC (kL r l) fun c=>gR X c r.tab.length).zip (kL r l):=by rw [prL,hsx]
 have hcnt:∀ s,s < r.tab.length->(((pC (kL r l) fun c=>gR X c r.tab.length).count s:Nat):Int)=tbT r s:=fun s hs=>by
  rw [<- hx.row s hs,<- eI fun c hc=>hdx s c hs hc]
  rw [Dy s (fun y hy=>Cq hl h.rng.2.1 _ (rU hy).2),D1 hlen]
 have hag:AgP r (oY r l X):=by
  unfold AgP;rw [if_neg h0,List.perm_iff_count];intro st;by_cases e:∃ m,(st,m)∈r.tab
  ·obtain ⟨h1,h2⟩:=wQ e
   have h3:=tN _ n1 n2 _ (eZ h1);rw [h2] at h3;have h4:=hcnt _ h1;have h5:(oY r l X).count st=(pC (kL r l) fun c=>gR X c r.tab.length).count (sIx r st):=by
    rw [oY,List.count_eq_countP,List.countP_map,List.count_eq_countP];refine List.countP_congr fun s hs=>?_
    simp only [Function.comp,beq_iff_eq];exact ⟨fun e=>D0 n1 (hm s hs) h1 (by rw [e,h2]),fun e=>by rw [e,h2]⟩
   dsimp only at h3;omega
  ·rw [List.count_eq_zero.2,List.count_eq_zero.2]
   ·exact fun hm=>e (jG hm)
   ·intro hm'
    obtain ⟨s,hs,e2⟩:=List.mem_map.1 hm';exact e ⟨_,e2 ▸ eZ (hm s hs)⟩
 have hc:∀ s c,s < r.tab.length->c < (aD r l).length->iN (prL r l (oY r l X)) s c=X s c:=fun s c hs hc=>by rw [hpr];exact hdx s c hs hc
 refine ⟨hag,hc,?_⟩;rw [vG h h0 hl hag];unfold cW;exact aU fun s hs=>aU fun c hcn=>by rw [hc s c hs hcn]
end
end Go.Proofs.YtjcecdmbfmccoaaGreatDoor
/-
 Plain: what proofs prove: bounds of all volumes,and the ends of the interval if they come from potentials.
-/
namespace Go.Proofs.YtjcecdmbfmccoaaGreatDoor
open Go.RowKit Go.Sl Go.Num
structure Prf where
 st:List Q3
 cl:List Q3
 sa:Option Addr
 sc:Nat
 ca:Option Addr
 cc:Nat
def uP (p:Prf) (s:Nat):Rat:=qR (p.st.getD s aY)
def vP (p:Prf) (c:Nat):Rat:=qR (p.cl.getD c aY)
def gT (l:List Spn) (r:Rn) (s c:Nat):Rat:=aS l (aG r l c) (tbS r s)
def qL (t:Bool) (a b:Rat):Rat:=if sgR t b < sgR t a then b else a
def gV (t:Bool) (l:List Spn) (r:Rn) (c:Nat):Rat:=qL t (aS l (aG r l c) r.lo) (aS l (aG r l c) r.hi)
def sL (t:Bool) (l:List Spn) (r:Rn):Rat:=rS' (fun c=>(aT r l c:Rat)*gV t l r c) (aD r l).length
def BK (l:List Spn) (r:Rn) (p:Prf):Rat:=vC r.tab.length (aD r l).length (tbT r) (aT r l) (uP p) (vP p)
def kC (t:Bool) (l:List Spn) (r:Rn) (p:Prf):Rat:=if r.tab.length=0 then sL t l r else BK l r p
def bP (l:List Spn) (r:Rn) (p:Prf):Bool:=if r.tab.length=0 then decide (p.st.length+p.cl.length=0) else decide (p.st.length=r.tab.length) && decide (p.cl.length=(aD r l).length) && (p.st.all fun a=>decide (aP a)) && p.cl.all fun a=>decide (aP a)
def dJ (t:Bool) (l:List Spn) (r:Rn) (p:Prf):Bool:=decide (r.tab.length=0) || (List.range (aD r l).length).all fun c=>(List.range r.tab.length).all fun s=>decide (sgR t (uP p s+vP p c)<=sgR t (gT l r s c))
def eQ (t:Bool) (l:List Spn):List Rn->List Prf->Rat
 | r::rs,p::ps=>kC t l r p+eQ t l rs ps
 | _,_=>0
def cU (rs:List Rn) (l:List Spn):Int:=if aX rs≠0 then aX rs else if aZ l≠0 then aZ l else if 0 < l.length/\(rs.length=0∨(l.head?.map (·.from_)).getD 0 < (bI rs).from_∨(bX rs).to_ < (l.getLast?.map (·.to_)).getD 0) then 19 else 0
def bF (t:Bool) (rs:List Rn) (l:List Spn) (ps:List Prf):Q3×Int :=
 if cU rs l≠0 then (aY,cU rs l) else if ps.length≠rs.length then (aY,1) else if ((rs.zip ps).all fun x=>bP l x.1 x.2)=false then (aY,1) else if ((rs.zip ps).all fun x=>dJ t l x.1 x.2)=false then (aY,22) else (rQ (eQ t l rs ps),0)
theorem fB {rs:List Rn}{l:List Spn} (h:cU rs l=0):aX rs=0/\aZ l=0:=by
 unfold cU at h
 split at h
 ·rename_i h1;exact absurd h h1
 ·rename_i h1
  split at h
  ·rename_i h2;exact absurd h h2
  ·rename_i h2;exact ⟨Decidable.not_not.1 h1,Decidable.not_not.1 h2⟩
theorem qM {t:Bool}{rs:List Rn}{l:List Spn}{ps:List Prf} (h:(bF t rs l ps).2=0):cU rs l=0/\ps.length=rs.length/\(∀ x∈rs.zip ps,bP l x.1 x.2=true)/\(∀ x∈rs.zip ps,dJ t l x.1 x.2=true)/\bF t rs l ps=(rQ (eQ t l rs ps),0):=by
 unfold bF at h ⊢
 split at h
 ·rename_i h1;exact absurd h h1
 rename_i h1;split at h
 ·cases h
 rename_i h2;split at h
 ·cases h
 rename_i h3;split at h
 ·cases h
 rename_i h4;rw [if_neg h1,if_neg h2,if_neg h3,if_neg h4];exact ⟨Decidable.not_not.1 h1,Decidable.not_not.1 h2,List.all_eq_true.1 (by simpa using h3),List.all_eq_true.1 (by simpa using h4),rfl⟩
theorem AC {t:Bool}{rs:List Rn}{l:List Spn}{ps:List Prf} (h1:cU rs l=0) (h2:ps.length=rs.length) (h3:∀ x∈rs.zip ps,bP l x.1 x.2=true) (h4:∀ x∈rs.zip ps,dJ t l x.1 x.2=true):bF t rs l ps=(rQ (eQ t l rs ps),0):=by
 unfold bF;rw [if_neg om,if_neg om,if_neg (by rw [List.all_eq_true.2 h3];simp),if_neg (by rw [List.all_eq_true.2 h4];simp)]
theorem nQ {t:Bool}{l:List Spn}{r:Rn}{p:Prf}:dJ t l r p=true ↔ (r.tab.length≠0->∀ s c,s < r.tab.length->c < (aD r l).length->sgR t (uP p s+vP p c)<=sgR t (gT l r s c)):=by
 unfold dJ;rw [Bool.or_eq_true,decide_eq_true_eq,List.all_eq_true];constructor
 ·rintro (h|h) h0 s c hs hc
  ·exact absurd h h0
  ·exact of_decide_eq_true (List.all_eq_true.1 (h c (List.mem_range.2 hc)) s (List.mem_range.2 hs))
 ·intro h
  by_cases h0:r.tab.length=0
  ·exact .inl h0
  ·exact .inr fun c hc=>List.all_eq_true.2 fun s hs=>dT (h h0 s c (List.mem_range.1 hs) (List.mem_range.1 hc))
theorem AD {r:Rn}{l:List Spn}{x:Int} (hl:aR x l) (hr:r.from_ < r.to_) {t st:Int} (h1:r.from_<=t) (h2:t < r.to_):aS l (aG r l (dG r l t)) st=bH l t st:=by
 rw [Cr,(tM hl hr h1 h2).2]
theorem Kb (t:Bool) {l:List Spn} (hR:∀ s∈l,aQ s) {p lo hi st:Int} (h1:lo<=st) (h2:st<=hi):sgR t (qL t (aS l p lo) (aS l p hi))<=sgR t (aS l p st):=by
 have key:(aS l p lo<=aS l p st/\aS l p st<=aS l p hi)∨(aS l p hi<=aS l p st/\aS l p st<=aS l p lo):=by
  unfold aS;by_cases hp:p < 0
  ·rw [if_pos hp,if_pos hp,if_pos hp];exact .inl ⟨Rat.le_refl,Rat.le_refl⟩
  ·rw [if_neg hp,if_neg hp,if_neg hp]
   cases hs:l[p.toNat]? with
   | none=>exact .inl ⟨Rat.le_refl,Rat.le_refl⟩
   | some s=>exact It (hR s (List.mem_of_getElem? hs)) h1 h2
 unfold qL;generalize aS l p lo=a at key ⊢;generalize aS l p hi=b at key ⊢;generalize aS l p st=c at key ⊢;cases t<;>simp only [sgR]<;>split<;>grind
section
variable {t:Bool}{r:Rn}{l:List Spn}{x:Int}
theorem Hy (h:OkR r) (hl:aR x l):sL t l r=yI (gV t l r) (kL r l):=by
 rw [EF _ (Cq hl h.rng.2.1),sL];exact aU fun c hc=>by rw [wP hl h.rng.2.1 hc]
theorem sgK (b:Nat->Rat):∀ K,yI (fun c=>sgR t (b c)) K=sgR t (yI b K)
 | []=>(lU t).symm
 | c::K=>by rw [yI,yI,sgK b K,iF]
theorem Kc (h:OkR r) (h0:r.tab.length=0) (hl:aR x l) (hR:∀ s∈l,aQ s) {A:List Int} (ha:AgP r A):sgR t (sL t l r)<=sgR t (aI l r.from_ A):=by
 have hlen:=ha.len' h;have hag:=ha;unfold AgP at hag;rw [if_pos h0] at hag;rw [Hy h hl,<- sgK,kL,<- hlen];have hr:=h.rng;refine JX fun j hj=>?_
 have hm:=hag.2 _ (gM hj);rw [<- AD hl hr.2.1 (t:=r.from_+j) om om];exact Kb t hR hm.1 hm.2
theorem LN (h:OkR r) (hl:aR x l) {A:List Int} (hlen:A.length=(r.to_-r.from_).toNat) (ha:∀ (j:Nat) (hj:j < A.length),gV t l r (dG r l (r.from_+j))=bH l (r.from_+j) A[j]):aI l r.from_ A=sL t l r:=by
 rw [Hy h hl,kL,<- hlen];exact (JY ha).symm
theorem NF (h:OkR r) (h0:r.tab.length≠0) (hl:aR x l) {p:Prf} (hc:dJ t l r p=true) {A:List Int} (ha:AgP r A):sgR t (BK l r p)<=sgR t (aI l r.from_ A):=by
 rw [vG h h0 hl ha,<- nO,BK,Ht (qK h h0 hl ha),<- nO];have hf:=qK h h0 hl ha;refine Co fun s hs=>Co fun c hcn=>?_
 exact Rat.mul_le_mul_of_nonneg_left (nQ.1 hc h0 s c hs hcn) (Rat.intCast_nonneg.2 (hf.nn s c hs hcn))
theorem NG (h:OkR r) (hl:aR x l) (hR:∀ s∈l,aQ s) {p:Prf} (hc:dJ t l r p=true) {A:List Int} (ha:AgP r A):sgR t (kC t l r p)<=sgR t (aI l r.from_ A):=by
 unfold kC;split
 ·rename_i h0;exact Kc h h0 hl hR ha
 ·rename_i h0;exact NF h h0 hl hc ha
def nR (t:Bool) (l:List Spn) (r:Rn) (A:List Int):Prop:=AgP r A/\(r.tab.length=0->aI l r.from_ A=sL t l r) /\
 (r.tab.length≠0->∃ pi:Nat->Rat,(∀ b,b < (aD r l).length->aH 10000000 (rQ (pi b)))/\∀ s a b,s < r.tab.length->a < (aD r l).length->b < (aD r l).length->0 < iN (prL r l A) s a->pi b<=pi a+(sgR t (gT l r s b)-sgR t (gT l r s a)))
theorem nR.le (h:OkR r) (hl:aR x l) (hR:∀ s∈l,aQ s) {A B:List Int} (ha:nR t l r A) (hb:AgP r B):sgR t (aI l r.from_ A)<=sgR t (aI l r.from_ B):=by
 obtain ⟨h1,h2,h3⟩:=ha;by_cases h0:r.tab.length=0
 ·rw [h2 h0];exact Kc h h0 hl hR hb
 ·obtain ⟨pi,-,hp⟩:=h3 h0
  rw [vG h h0 hl h1,vG h h0 hl hb,<- nO,<- nO];exact JH (qK h h0 hl h1) (qK h h0 hl hb) pi fun s a b hs ha hb h=>by
   have:=hp s a b hs ha hb h;show _<=sgR t (gT l r s b)-sgR t (gT l r s a)
   grind
theorem LO (h:OkR r) (h0:r.tab.length≠0) (hl:aR x l) {A:List Int} (ha:AgP r A) {v:Nat->Rat}{p:Prf}
  (hv:∀ s a b,s < r.tab.length->a < (aD r l).length->b < (aD r l).length->0 < iN (prL r l A) s a->sgR t (v b)<=sgR t (v a)+(sgR t (gT l r s b)-sgR t (gT l r s a)))
  (h1:∀ c,c < (aD r l).length->vP p c=v c) (h2:∀ s,s < r.tab.length->sgR t (uP p s)=iO (fun s c=>sgR t (gT l r s c)) (fun c=>sgR t (v c)) s (aD r l).length) :
  dJ t l r p=true/\BK l r p=aI l r.from_ A:=by
 have hf:=qK h h0 hl ha;obtain ⟨q1,q2⟩:=Iu (g:=fun s c=>sgR t (gT l r s c)) (v:=fun c=>sgR t (v c)) hf (iB hl h.rng.2.1) hv
 refine ⟨nQ.2 fun _ s c hs hc=>?_,?_⟩
 ·rw [iF,h2 s hs,h1 c hc]
  exact q1 s c hs hc
 ·refine LK (t:=t) ?_
  rw [vG h h0 hl ha,<- nO];refine Eq.trans ?_ q2;unfold BK vC;rw [iF,<- rT,<- rT];congr 1
  ·exact aU fun s hs=>by rw [yV,h2 s hs]
  ·exact aU fun c hc=>by rw [yV,h1 c hc]
end
def iR (t:Bool) (l:List Spn):List Rn->List Int->Prop
 | [],S=>S=[]
 | r::rs,S=>∃ A B,S=A++B/\nR t l r A/\iR t l rs B
theorem iR.ag {t:Bool}{l:List Spn}:∀ {rs:List Rn}{S:List Int},iR t l rs S->AgS rs S
 | [],_,h=>h
 | _::_,_,⟨A,B,h1,h2,h3⟩=>⟨A,B,h1,h2.1,h3.ag⟩
section
variable {t:Bool}{l:List Spn}{x:Int}
theorem Cs (hl:aR x l) (hR:∀ s∈l,aQ s):∀ {rs:List Rn}{ps:List Prf}{f e:Int}{S:List Int},Cn f rs e->(∀ r∈rs,OkR r)->ps.length=rs.length->(∀ y∈rs.zip ps,dJ t l y.1 y.2=true)->AgS rs S->sgR t (eQ t l rs ps)<=sgR t (aI l f S)
 | [],ps,f,e,S,_,_,_,_,ha=>by rw [show S=[] from ha,aI,show eQ t l [] ps=0 from by cases ps<;>rfl];exact Rat.le_refl
 | r::rs,[],f,e,S,_,_,h,_,_=>by simp at h
 | r::rs,p::ps,f,e,S,hc,ho,hn,hcert,⟨A,B,e1,h1,h2⟩=>by
  subst e1;obtain ⟨rfl,hc2⟩:=hc;have hr:=ho r (List.mem_cons_self ..);have ih:=Cs hl hR (rs:=rs) (ps:=ps) hc2 (fun r hr=>ho r (mC _ hr)) (by simpa using hn) (fun y hy=>hcert y (by rw [List.zip_cons_cons];exact mC _ hy)) h2
  have i1:=NG hr hl hR (hcert (r,p) (by rw [List.zip_cons_cons];exact List.mem_cons_self ..)) h1
  have hlen:=h1.len hr;rw [eQ,fM,iF,iF,show r.from_+(A.length:Int)=r.to_ from by omega]
  exact Std.le_trans (Rat.add_le_add_right.2 i1) (Rat.add_le_add_left.2 ih)
theorem iR.le (hl:aR x l) (hR:∀ s∈l,aQ s):∀ {rs:List Rn}{f e:Int}{S T:List Int},Cn f rs e->(∀ r∈rs,OkR r)->iR t l rs S->AgS rs T->sgR t (aI l f S)<=sgR t (aI l f T)
 | [],f,e,S,T,_,_,h1,h2=>by rw [show S=[] from h1,show T=[] from h2];exact Rat.le_refl
 | r::rs,f,e,S,T,hc,ho,⟨A,B,e1,h1,h2⟩,⟨A',B',e2,h3,h4⟩=>by
  subst e1 e2;obtain ⟨rfl,hc2⟩:=hc;have hr:=ho r (List.mem_cons_self ..);have ih:=iR.le hl hR (rs:=rs) hc2 (fun r hr=>ho r (mC _ hr)) h2 h4
  have i1:=h1.le hr hl hR h3;have hlen:=h1.1.len hr;have hlen':=h3.len hr;rw [fM,fM,iF,iF,show r.from_+(A.length:Int)=r.to_ from by omega,show r.from_+(A'.length:Int)=r.to_ from by omega]
  exact Std.le_trans (Rat.add_le_add_right.2 i1) (Rat.add_le_add_left.2 ih)
theorem EG (hl:aR x l):∀ {rs:List Rn}{ps:List Prf}{f e:Int}{S:List Int},Cn f rs e->(∀ r∈rs,OkR r)->ps.length=rs.length->iR t l rs S ->
  (∀ A r p,(r,p)∈rs.zip ps->r.tab.length≠0->AgP r A->(∃ B C,S=B++A++C/\f+B.length=r.from_)->BK l r p=aI l r.from_ A)->eQ t l rs ps=aI l f S
 | [],ps,f,e,S,_,_,_,h,_=>by rw [show S=[] from h,aI];cases ps<;>rfl
 | r::rs,[],f,e,S,_,_,h,_,_=>by simp at h
 | r::rs,p::ps,f,e,S,hc,ho,hn,⟨A,B,e1,h1,h2⟩,hp=>by
  subst e1;obtain ⟨rfl,hc2⟩:=hc;have hr:=ho r (List.mem_cons_self ..);have hlen:=h1.1.len hr;have ih:=EG hl (rs:=rs) (ps:=ps) hc2 (fun r hr=>ho r (mC _ hr)) (by simpa using hn) h2 fun A' r' p' hm h0 ha ⟨B',C',e3,e4⟩=>hp A' r' p' (by rw [List.zip_cons_cons];exact mC _ hm) h0 ha ⟨A++B',C',by rw [e3];simp,by rw [List.length_append];omega⟩
  rw [eQ,fM,show r.from_+(A.length:Int)=r.to_ from by omega,ih]
  congr 1
  unfold kC;split
  ·rename_i h0;exact (h1.2.1 h0).symm
  ·rename_i h0;exact hp A r p (by rw [List.zip_cons_cons];exact List.mem_cons_self ..) h0 h1.1 ⟨[],B,by simp,by simp⟩
end
end Go.Proofs.YtjcecdmbfmccoaaGreatDoor
/-
 Plain: the cheapest moves between classes,common denominators,and where the searches begin and end.
-/
namespace Go.Proofs.YtjcecdmbfmccoaaGreatDoor
open Go.RowKit Go.Sl Go.Num
def pN (f:Nat->Nat):Nat->Nat
 | 0=>1
 | n+1=>pN f n*f n
theorem qN (f:Nat->Nat):∀ {n i},i < n->f i ∣ pN f n
 | 0,_,h=>absurd h (Nat.not_lt_zero _)
 | n+1,i,h=>by
  rw [pN];by_cases e:i=n
  ·subst e;exact Nat.dvd_mul_left _ _
  ·exact Nat.dvd_trans (qN f om) (Nat.dvd_mul_right _ _)
theorem wS {f:Nat->Nat}:∀ {n},(∀ i,i < n->0 < f i)->0 < pN f n
 | 0,_=>Nat.one_pos
 | n+1,h=>Nat.mul_pos (wS fun i hi=>h i om) (h n om)
theorem Ct {f:Nat->Nat}{B:Nat}:∀ {n},(∀ i,i < n->f i<=B)->pN f n<=B ^ n
 | 0,_=>Nat.le_refl _
 | n+1,h=>by
  rw [pN,Nat.pow_succ];exact Nat.mul_le_mul (Ct fun i hi=>h i om) (h n om)
def Iv (g:Nat->Nat->Rat) (S n:Nat):Nat:=pN (fun s=>pN (fun c=>(g s c).den) n) S
theorem AE (g:Nat->Nat->Rat) (S n:Nat):0 < Iv g S n:=wS fun s _=>wS fun c _=>(g s c).den_pos
theorem FY (q:Rat):q*((q.den:Int):Rat)=(q.num:Rat):=by
 have h:mkRat q.num q.den=q:=Rat.mkRat_self q;rw [Rat.mkRat_eq_div,Rat.div_def] at h
 have hd:((q.den:Int):Rat)≠0:=by
  intro e;have:=Rat.intCast_inj.1 (e.trans (show (0:Rat)=((0:Int):Rat) from rfl))
  have:=q.den_pos;omega
 have e:((q.den:Nat):Rat)=((q.den:Int):Rat):=rfl;rw [e] at h
 have:=Rat.mul_inv_cancel _ hd
 conv=>lhs;rw [<- h]
 grind
theorem NJ (q:Rat) {D:Nat} (h:q.den ∣ D):∃ N:Int,q*((D:Int):Rat)=(N:Rat):=by
 obtain ⟨k,rfl⟩:=h;refine ⟨q.num*(k:Int),?_⟩;rw [Int.natCast_mul,Rat.intCast_mul,Rat.intCast_mul,<- Rat.mul_assoc];congr 1;exact FY q
theorem Hz (g:Nat->Nat->Rat) {S n s c:Nat} (hs:s < S) (hc:c < n):∃ N:Int,g s c*((Iv g S n:Int):Rat)=(N:Rat) :=
 NJ _ (Nat.dvd_trans (qN (fun c=>(g s c).den) hc) (qN (fun s=>pN (fun c=>(g s c).den) n) hs))
theorem NK (y:Rat):∃ K:Int,y<=(K:Rat):=⟨y.ceil,Rat.le_ceil⟩
theorem MN {f h:Nat->Rat}{n:Nat} (H:∀ i,i < n->-(h i)<=f i):-(rS' h n)<=rS' f n:=by
 have h1:=Co (f:=fun i=>-(h i)) (g:=f) (n:=n) H
 have h2:rS' (fun i=>-(h i)) n=-(rS' h n):=by
  have:=oM (-1) h n;rw [aU (g:=fun i=>-1*h i) fun i _=>by grind,this];grind
 rw [<- h2];exact h1
theorem Kd {S n:Nat}{row col:Nat->Int} (g:Nat->Nat->Rat) {D:Rat} (hD:0 < D):∃ K:Int,∀ x,kX S n row col x->-(K:Rat)<=cW S n g x*D:=by
 obtain ⟨K,hK⟩:=NK (rS' (fun s=>rS' (fun c=>(row s:Rat)*(if g s c < 0 then -(g s c) else 0)) n) S*D)
 refine ⟨K,fun x hx=>?_⟩
 have h1:-(rS' (fun s=>rS' (fun c=>(row s:Rat)*(if g s c < 0 then -(g s c) else 0)) n) S)<=cW S n g x:=by
  refine MN fun s hs=>MN fun c hc=>?_
  have h0:=hx.nn s c hs hc;have h1:x s c<=row s:=by rw [<- hx.row s hs];exact fZ (fun c hc=>hx.nn s c hs hc) c hc
  split
  ·rename_i hg
   have h2:=Rat.mul_le_mul_of_nonneg_right (a:=(x s c:Rat)) (b:=(row s:Rat)) (c:=-(g s c)) (Rat.intCast_le_intCast.2 h1) (by grind)
   grind
  ·rename_i hg
   have h2:0<=(x s c:Rat)*g s c:=Rat.mul_nonneg (Rat.intCast_nonneg.2 h0) (by grind)
   grind
 have h2:=Rat.mul_le_mul_of_nonneg_right h1 (Rat.le_of_lt hD);grind
def mvF (x:Nat->Nat->Int) (g:Nat->Nat->Rat) (a b:Nat):Nat->Option (Nat×Rat)
 | 0=>none
 | s+1=>if 0 < x s a then (match mvF x g a b s with
  | none=>some (s,g s b-g s a)
  | some q=>if g s b-g s a < q.2 then some (s,g s b-g s a) else some q) else mvF x g a b s
section
variable {x:Nat->Nat->Int}{g:Nat->Nat->Rat}{a b:Nat}
theorem qO {q:Nat×Rat}:∀ {s},mvF x g a b s=some q->q.1 < s/\0 < x q.1 a/\q.2=g q.1 b-g q.1 a
 | 0,h=>by cases h
 | s+1,h=>by
  rw [mvF] at h
  split at h
  ·rename_i h0
   cases e:mvF x g a b s with
   | none=>rw [e] at h;cases h;exact ⟨Nat.lt_succ_self _,h0,rfl⟩
   | some p =>
    rw [e] at h
    dsimp only at h
    split at h
    ·cases h;exact ⟨Nat.lt_succ_self _,h0,rfl⟩
    ·cases h
     obtain ⟨h1,h2⟩:=qO e;exact ⟨by omega,h2⟩
  ·obtain ⟨h1,h2⟩:=qO h
   exact ⟨by omega,h2⟩
theorem Ke {t:Nat}:∀ {s},t < s->0 < x t a->∃ q,mvF x g a b s=some q/\q.2<=g t b-g t a
 | 0,h,_=>absurd h (Nat.not_lt_zero _)
 | s+1,h,h0=>by
  rw [mvF];by_cases e:t=s
  ·subst e
   rw [if_pos h0];cases mvF x g a b t with
   | none=>exact ⟨_,rfl,Rat.le_refl⟩
   | some q =>
    dsimp only;split
    ·exact ⟨_,rfl,Rat.le_refl⟩
    ·exact ⟨_,rfl,by grind⟩
  ·obtain ⟨q,h1,h2⟩:=Ke (s:=s) om h0
   rw [h1];split
   ·dsimp only
    split
    ·exact ⟨_,rfl,by grind⟩
    ·exact ⟨_,rfl,h2⟩
   ·exact ⟨q,rfl,h2⟩
end
def mE (S n:Nat) (x:Nat->Nat->Int) (g:Nat->Nat->Rat) (a b:Nat):Option Rat:=if a < n/\b < n then (mvF x g a b S).map (·.2) else none
def mS (S:Nat) (x:Nat->Nat->Int) (g:Nat->Nat->Rat) (a b:Nat):Nat:=((mvF x g a b S).getD (0,0)).1
section
variable {S n:Nat}{x:Nat->Nat->Int}{g:Nat->Nat->Rat}{a b:Nat}
theorem oQ {r:Rat} (h:mE S n x g a b=some r):a < n/\b < n/\mvF x g a b S=some (mS S x g a b,r)/\mS S x g a b < S/\0 < x (mS S x g a b) a/\r=g (mS S x g a b) b-g (mS S x g a b) a:=by
 unfold mE at h
 split at h
 ·rename_i hab
  cases e:mvF x g a b S with
  | none=>rw [e] at h;cases h
  | some q =>
   rw [e] at h
   cases h;have h1:=qO e;have h2:mS S x g a b=q.1:=by rw [mS,e];rfl
   rw [h2];exact ⟨hab.1,hab.2,rfl,h1⟩
 ·cases h
theorem Kf {d:Nat->Rat} (h:∀ a b,a < n->b < n->yA (mE S n x g) d a b):∀ s a b,s < S->a < n->b < n->0 < x s a->d b<=d a+(g s b-g s a):=fun s a b hs ha hb h0=>by
 by_cases e:a=b
 ·subst e;grind
 ·obtain ⟨q,h1,h2⟩:=Ke (g:=g) (b:=b) hs h0
  have:=h a b ha hb q.2 (by unfold mE;rw [if_pos ⟨ha,hb⟩,h1];rfl) e
  grind
end
theorem kA.Q5 (m:Nat->Nat->Option Rat) (p:Nat->Nat):kA m 1 (fun _ _=>False) ⟨fun _=>0,p,fun _=>0⟩ :=
 ⟨fun a b _=>⟨Nat.le_refl _,fun hf=>hf.elim⟩,fun v hv=>absurd hv (Nat.not_succ_le_zero 0),fun v=>Nat.zero_le _,fun k v hc=>absurd (hc.set 0 hc.pos) (Nat.not_succ_le_zero 0)⟩
theorem Iw {n:Nat}{th:Nat->Nat->Prop}{g:Nat->Nat->Rat}{D:Rat} (hD:0 < D) {pi:Nat->Rat}{B:Int} (hB:∀ b,b < n->-(B:Rat)<=pi b/\pi b<=(B:Rat)) {E:Int} (hE:D<=(E:Rat)) (hB0:0<=B) (hp:∀ a b s,a < n->b < n->th a s->pi b<=pi a+(g s b-g s a)) :
  mV n th g D (-(2*B*E)) (fun b=>pi b-(B:Rat)) (fun _=>0):=by
 have hB0':(0:Rat)<=(B:Rat):=Rat.intCast_nonneg.2 hB0;refine ⟨fun a b s ha hb hs=>?_,fun b hb=>?_,fun b hb=>?_,fun b _=>⟨0,by rw [Rat.zero_mul];rfl⟩⟩
 ·have:=hp a b s ha hb hs
  grind
 ·have h1:-(2*(B:Rat))<=pi b-(B:Rat):=by have:=(hB b hb).1;grind
  have h2:=Rat.mul_le_mul_of_nonneg_right h1 (Rat.le_of_lt hD);have h3:=Rat.mul_le_mul_of_nonneg_left hE (c:=2*(B:Rat)) (by grind)
  have e:((-(2*B*E):Int):Rat)=-(2*(B:Rat)*(E:Rat)):=by rw [Rat.intCast_neg,Rat.intCast_mul,Rat.intCast_mul];rfl
  rw [e];grind
 ·have:=(hB b hb).2
  grind
theorem AG {t:Bool}{l:List Spn}:∀ {a b:List Rn}{p q:List Prf},a.length=p.length->eQ t l (a++b) (p++q)=eQ t l a p+eQ t l b q
 | [],b,[],q,_=>by rw [List.nil_append,List.nil_append];exact (Rat.zero_add _).symm
 | [],_,_::_,_,h=>by simp at h
 | _::_,_,[],_,h=>by simp at h
 | r::a,b,p::ps,q,h=>by
  rw [List.cons_append,List.cons_append,eQ,eQ,AG (by simpa using h),Rat.add_assoc]
theorem Cn.rng:∀ {rs:List Rn}{f e:Int},Cn f rs e->(∀ r∈rs,OkR r)->f<=e/\∀ r∈rs,f<=r.from_/\r.to_<=e
 | [],f,e,h,_=>⟨by cases h;exact Int.le_refl _,fun r hr=>by cases hr⟩
 | r::rs,f,e,⟨h1,h2⟩,ho=>by
  obtain ⟨a,b⟩:=Cn.rng h2 fun r hr=>ho r (mC _ hr)
  have hr:=(ho r (List.mem_cons_self ..)).rng;refine ⟨by omega,fun x hx=>?_⟩
  rcases List.mem_cons.1 hx with rfl|hx
  ·exact ⟨by omega,a⟩
  ·have:=b x hx;exact ⟨by omega,this.2⟩
theorem kY (r:Rn):iS (tbT r) r.tab.length=iM r.tab:=by
 have key:∀ (T:List (Int×Int)) ,iS (fun s=>(T.getD s (0,0)).2) T.length=iM T:=fun T=>by
  have h1:∀ k,k<=T.length->iS (fun s=>(T.getD s (0,0)).2) k=iM (T.take k):=fun k=>by
   induction k with
   | zero=>exact fun _=>by rw [List.take_zero];rfl
   | succ k ih =>
    intro hk;have hk':k < T.length:=by omega
    have app:∀ a b:List (Int×Int),iM (a++b)=iM a+iM b:=fun a b=>by
     induction a with
     | nil=>rw [List.nil_append];exact (Int.zero_add _).symm
     | cons x a ih=>rw [List.cons_append,iM,iM,ih];omega
    rw [iS,ih om,List.take_succ_eq_append_getElem hk',app,gD,gE hk'];show _=_+(T[k].2+0)
    rw [Int.add_zero];rfl
  have:=h1 T.length (Nat.le_refl _)
  rwa [List.take_length] at this
 exact key r.tab
theorem mN (r:Rn) (l:List Spn):iS (aT r l) (aD r l).length=gU (aD r l):=by
 have key:∀ (T:List (Int×Int)) ,iS (fun s=>(T.getD s (-1,0)).2) T.length=gU T:=fun T=>by
  have h1:∀ k,k<=T.length->iS (fun s=>(T.getD s (-1,0)).2) k=gU (T.take k):=fun k=>by
   induction k with
   | zero=>exact fun _=>by rw [List.take_zero];rfl
   | succ k ih =>
    intro hk;have hk':k < T.length:=by omega
    rw [iS,ih om,List.take_succ_eq_append_getElem hk',nN,gD,gE hk'];show _=_+(T[k].2+0)
    rw [Int.add_zero];rfl
  have:=h1 T.length (Nat.le_refl _)
  rwa [List.take_length] at this
 exact key (aD r l)
end Go.Proofs.YtjcecdmbfmccoaaGreatDoor
/-
 Plain: a first assignment: stages in order,classes in order.
-/
namespace Go.Proofs.YtjcecdmbfmccoaaGreatDoor
theorem Kg (f:Nat->Int) (a:Nat) (k:Int) (n:Nat):iS (fun c=>f c+if c=a then k else 0) n=iS f n+if a < n then k else 0:=by rw [qG,qH]
theorem LP {f:Nat->Int} (h:∀ i,0<=f i):∀ {a b},a<=b->iS f a<=iS f b:=fun {a b} hab=>by
 induction b with
 | zero=>rw [Nat.le_zero.1 hab];exact Int.le_refl _
 | succ b ih =>
  by_cases e:a=b+1
  ·subst e;exact Int.le_refl _
  ·have:=ih om
   have:=h b;rw [iS];omega
theorem H0 {f:Nat->Int}{n:Nat} (h:∀ i,i < n->f i=0):iS f n=0:=by rw [eI (g:=fun _=>0) h,oL]
structure NH (S n:Nat) (row col:Nat->Int) (s a:Nat) (lf:Nat->Int) (x:Nat->Nat->Int):Prop where
 nn:∀ s c,0<=x s c
 lnn:∀ c,c < n->0<=lf c
 done:∀ t,t < s->iS (x t) n=row t
 later:∀ t c,s<=t->x t c=0
 col:∀ c,c < n->iS (fun t=>x t c) S=col c-lf c
 zero:∀ c,c < a->c < n->lf c=0
 tot:iS lf n+iS row s=iS row S
structure NI (S n:Nat) (row col:Nat->Int) (s:Nat) (m:Int) (a:Nat) (lf:Nat->Int) (x:Nat->Nat->Int):Prop where
 nn:∀ s c,0<=x s c
 lnn:∀ c,c < n->0<=lf c
 done:∀ t,t < s->iS (x t) n=row t
 cur:iS (x s) n=row s-m
 later:∀ t c,s < t->x t c=0
 col:∀ c,c < n->iS (fun t=>x t c) S=col c-lf c
 zero:∀ c,c < a->c < n->lf c=0
 tot:iS lf n+(iS row s+(row s-m))=iS row S
 mn:0<=m
section
variable {S n:Nat}{row col:Nat->Int}{s a:Nat}{m:Int}{lf:Nat->Int}{x:Nat->Nat->Int}
theorem NH.start (h:iS col n=iS row S) (hc:∀ c,c < n->0<=col c):NH S n row col 0 0 col (fun _ _=>0) :=
 ⟨fun _ _=>Int.le_refl _,hc,fun t ht=>absurd ht (Nat.not_lt_zero _),fun _ _ _=>rfl,fun c _=>by rw [oL];omega,fun c hc=>absurd hc (Nat.not_lt_zero _),by rw [h];show _+0=_;omega⟩
theorem NH.inner (h:NH S n row col s a lf x) (hr:0<=row s):NI S n row col s (row s) a lf x :=
 ⟨h.nn,h.lnn,h.done,by rw [H0 fun c _=>h.later s c (Nat.le_refl _)];omega,fun t c ht=>h.later t c om,h.col,h.zero,by have:=h.tot;omega,hr⟩
theorem NI.next (h:NI S n row col s 0 a lf x):NH S n row col (s+1) a lf x :=
 ⟨h.nn,h.lnn,fun t ht=>by
  by_cases e:t=s
  ·subst e;have:=h.cur;omega
  ·exact h.done t om,fun t c ht=>h.later t c om,h.col,h.zero,by have:=h.tot;rw [iS];omega⟩
theorem NI.lt (h:NI S n row col s m a lf x) (hs:s < S) (hr:∀ t,0<=row t) (hm:0 < m):a < n:=Nat.lt_of_not_le fun hge=>by
 have h0:=H0 (n:=n) fun c hc=>h.zero c om hc
 have h1:=h.tot;have h2:=LP hr (a:=s+1) (b:=S) hs;rw [iS] at h2;omega
theorem NI.skip (h:NI S n row col s m a lf x) (h0:lf a=0):NI S n row col s m (a+1) lf x :=
 ⟨h.nn,h.lnn,h.done,h.cur,h.later,h.col,fun c hc hn=>(Nat.lt_or_eq_of_le (Nat.le_of_lt_succ hc)).elim (fun h1=>h.zero c h1 hn) fun e=>by rw [e];exact h0,h.tot,h.mn⟩
def D2 (x:Nat->Nat->Int) (s a:Nat) (k:Int):Nat->Nat->Int:=fun t c=>if t=s then x t c+(if c=a then k else 0) else x t c
def yB (lf:Nat->Int) (a:Nat) (k:Int):Nat->Int:=fun c=>lf c+if c=a then -k else 0
theorem NI.take (h:NI S n row col s m a lf x) (hs:s < S) (ha:a < n) {k:Int} (hk:0<=k) (h1:k<=m) (h2:k<=lf a):NI S n row col s (m-k) a (yB lf a k) (D2 x s a k):=by
 have hrow:∀ t,iS (D2 x s a k t) n=iS (x t) n+if t=s then k else 0:=fun t=>by
  unfold D2;by_cases e:t=s
  ·subst e
   rw [if_pos rfl,eI (g:=fun c=>x t c+if c=a then k else 0) fun c _=>by rw [if_pos rfl],Kg,if_pos ha]
  ·rw [if_neg e,eI (g:=x t) fun c _=>by rw [if_neg e]];omega
 refine ⟨fun t c=>?_,fun c hc=>?_,fun t ht=>?_,?_,fun t c ht=>?_,fun c hc=>?_,fun c hc hn=>?_,?_,by omega⟩
 ·have:=h.nn t c
  unfold D2;split
  ·split<;>omega
  ·exact this
 ·have:=h.lnn c hc
  unfold yB;by_cases e:c=a
  ·subst e;rw [if_pos rfl];omega
  ·rw [if_neg e];omega
 ·rw [hrow,if_neg om,h.done t ht];omega
 ·rw [hrow,if_pos rfl,h.cur];omega
 ·unfold D2;rw [if_neg om];exact h.later t c ht
 ·have e:iS (fun t=>D2 x s a k t c) S=iS (fun t=>x t c+if t=s then (if c=a then k else 0) else 0) S:=eI fun t _=>by
   unfold D2;by_cases e:t=s
   ·rw [if_pos e,if_pos e]
   ·rw [if_neg e,if_neg e];omega
  rw [e,Kg,if_pos hs,h.col c hc];unfold yB;split<;>omega
 ·unfold yB
  rw [if_neg om,h.zero c hc hn];rfl
 ·have e:iS (yB lf a k) n=iS lf n+-k:=by unfold yB;rw [Kg,if_pos ha]
  rw [e];have:=h.tot;omega
theorem NH.feas (h:NH S n row col S a lf x):kX S n row col x:=by
 have h0:=h.tot;refine ⟨fun s c _ _=>h.nn s c,h.done,fun c hc=>?_⟩
 have h1:=fZ h.lnn c hc;have h2:=h.lnn c hc;rw [h.col c hc];omega
end
end Go.Proofs.YtjcecdmbfmccoaaGreatDoor
/-
 Plain: the rounds of a search,pair by pair.
-/
namespace Go.Proofs.YtjcecdmbfmccoaaGreatDoor
theorem kA.sub {m:Nat->Nat->Option Rat}{r:Nat}{P Q:Nat->Nat->Prop}{s:BF} (h:kA m r P s) (hq:∀ a b,Q a b->P a b):kA m r Q s:=⟨fun a b hn=>⟨(h.un a b hn).1,fun h1=>(h.un a b hn).2 (hq a b h1)⟩,h.pr,h.le,h.cy⟩
def MO (a b:Nat) (x y:Nat):Prop:=x < a∨(x=a/\y < b)
structure RI (m:Nat->Nat->Option Rat) (n r a b:Nat) (s:BF) (ch:Option Nat):Prop where
 inv:kA m r (MO a b) s
 fine:ch=none->∀ x y,MO a b x y->y < n->yA m s.d x y
 last:∀ c,ch=some c->c < n/\s.u c=r
section
variable {m:Nat->Nat->Option Rat}{n r a b:Nat}{s:BF}{ch:Option Nat}
theorem RI.skip (h:RI m n r a b s ch) (hf:yA m s.d a b):RI m n r a (b+1) s ch :=
 ⟨(h.inv.skip hf).sub fun x y h=>by
  rcases h with h|⟨h,h'⟩
  ·exact .inl (.inl h)
  ·by_cases e:y=b
   ·exact .inr ⟨h,e⟩
   ·exact .inl (.inr ⟨h,by omega⟩),fun hc x y h1 hy=>by
  by_cases e:x=a/\y=b
  ·rw [e.1,e.2];exact hf
  ·refine h.fine hc x y ?_ hy
   rcases h1 with h1|⟨h1,h2⟩
   ·exact .inl h1
   ·exact .inr ⟨h1,by omega⟩,h.last⟩
theorem RI.relax (h:RI m n r a b s ch) (hr:1<=r) (hb:b < n) {w:Rat} (hm:m a b=some w) (hab:a≠b) (hlt:s.d a+w < s.d b):RI m n r a (b+1) (uZ s r a b w) (some b) :=
 ⟨(h.inv.relax hr hm hab hlt).sub fun x y h=>by
  rcases h with h|⟨h,h'⟩
  ·exact .inl (.inl h)
  ·by_cases e:y=b
   ·exact .inr ⟨h,e⟩
   ·exact .inl (.inr ⟨h,by omega⟩),fun hc=>by (cases hc),fun c hc=>by
  cases hc;exact ⟨hb,if_pos rfl⟩⟩
theorem RI.row (h:RI m n r a n s ch) (hm:∀ x y,(m x y).isSome=true->x < n/\y < n):RI m n r (a+1) 0 s ch :=
 ⟨⟨fun x y hn=>⟨(h.inv.un x y hn).1,fun h1=>by
  refine (h.inv.un x y hn).2 ?_;have hy:y < n:=by
   refine Classical.byContradiction fun hy=>hn fun w hw=>?_
   have:=hm x y (by rw [hw];rfl)
   omega
  rcases h1 with h1|⟨_,h1⟩
  ·by_cases e:x=a
   ·exact .inr ⟨e,hy⟩
   ·exact .inl om
  ·exact absurd h1 (Nat.not_lt_zero _)⟩,h.inv.pr,h.inv.le,h.inv.cy⟩,fun hc x y h1 hy=>by
  refine h.fine hc x y ?_ hy;rcases h1 with h1|⟨_,h1⟩
  ·by_cases e:x=a
   ·exact .inr ⟨e,hy⟩
   ·exact .inl om
  ·exact absurd h1 (Nat.not_lt_zero _),h.last⟩
theorem RI.start (h:kA m r (fun _ _=>False) s):RI m n r 0 0 s none :=
 ⟨h.sub fun x y h=>by (rcases h with h|⟨_,h⟩<;>exact absurd h (Nat.not_lt_zero _)),fun _ x y h=>by (rcases h with h|⟨_,h⟩<;>exact absurd h (Nat.not_lt_zero _)),fun c hc=>by (cases hc)⟩
theorem RI.again (h:RI m n r n 0 s ch) (hm:∀ x y,(m x y).isSome=true->x < n/\y < n):kA m (r+1) (fun _ _=>False) s:=h.inv.round (n:=n) fun a b hs=>.inl (hm a b hs).1
theorem RI.stop (h:RI m n r n 0 s none):∀ a b,a < n->b < n->yA m s.d a b:=fun a b ha hb=>h.fine rfl a b (.inl ha) hb
end
def mvV (q:Option (Nat×Rat)):Int×Rat:=match q with
 | none=>(-1,0)
 | some q=>(q.1,q.2)
theorem MP {S n:Nat}{x:Nat->Nat->Int}{g:Nat->Nat->Rat}:∀ a b,(mE S n x g a b).isSome=true->a < n/\b < n:=fun a b h=>by
 cases e:mE S n x g a b with
 | none=>rw [e] at h;cases h
 | some r=>exact ⟨(oQ e).1,(oQ e).2.1⟩
end Go.Proofs.YtjcecdmbfmccoaaGreatDoor
/-
 Plain: the history that is dealt out of the stages of each class is a best one.
-/
namespace Go.Proofs.YtjcecdmbfmccoaaGreatDoor
open Go.RowKit Go.Sl Go.Num
def tlI (q:Nat->List Int) (c:Nat):Nat->List Int:=fun d=>if d=c then (q c).tail else q d
def qP:List Nat->(Nat->List Int)->List Int
 | [],_=>[]
 | c::K,q=>(q c).headD 0::qP K (tlI q c)
theorem Cu {f:Nat->Int}:∀ (K:List Nat) (q:Nat->List Nat),(∀ d,K.count d<=(q d).length)->qP K (fun c=>(q c).map f)=(pC K q).map f
 | [],_,_=>rfl
 | c::K,q,h=>by
  have hc:=h c;rw [List.count_cons,if_pos (by simp)] at hc
  have hq:∀ d,K.count d<=(tlQ q c d).length:=fun d=>by
   have:=h d;rw [List.count_cons] at this;unfold tlQ;by_cases e:d=c
   ·subst e
    rw [if_pos rfl,List.length_tail];rw [if_pos (by simp)] at this
    omega
   ·rw [if_neg e];omega
  have ih:=Cu (f:=f) K (tlQ q c) hq;have e:tlI (fun c=>(q c).map f) c=fun d=>(tlQ q c d).map f:=funext fun d=>by
   unfold tlI tlQ;split
   ·rw [List.map_tail]
   ·rfl
  rw [qP,e,ih,pC,List.map_cons];congr 1;cases hq:q c with
  | nil=>rw [hq] at hc;simp at hc
  | cons a b=>rfl
theorem Cv {b:Nat->Int}:∀ (K:List Nat) (m:Nat->Nat),(∀ d,K.count d<=m d)->qP K (fun c=>List.replicate (m c) (b c))=K.map b
 | [],_,_=>rfl
 | c::K,m,h=>by
  have hc:=h c;rw [List.count_cons,if_pos (by simp)] at hc
  have e:tlI (fun c=>List.replicate (m c) (b c)) c=fun d=>List.replicate ((fun d=>if d=c then m d-1 else m d) d) (b d):=funext fun d=>by
   unfold tlI;by_cases e:d=c
   ·subst e
    rw [if_pos rfl];dsimp only;rw [if_pos rfl,List.tail_replicate]
   ·rw [if_neg e]
    dsimp only;rw [if_neg e]
  rw [qP,e,Cv K _ fun d=>?_,List.map_cons]
  ·congr 1
   cases hm:m c with
   | zero=>omega
   | succ k=>rfl
  ·have:=h d
   rw [List.count_cons] at this;by_cases e:d=c
   ·subst e
    rw [if_pos rfl];rw [if_pos (by simp)] at this
    omega
   ·rw [if_neg e];omega
theorem Cw:∀ (K:List Nat) (q:Nat->List Int),(qP K q).length=K.length
 | [],_=>rfl
 | c::K,q=>by rw [qP,List.length_cons,List.length_cons,Cw K]
def fN (t:Bool) (l:List Spn) (r:Rn) (c:Nat):Int:=if sgR t (aS l (aG r l c) r.hi) < sgR t (aS l (aG r l c) r.lo) then r.hi else r.lo
theorem EH (t:Bool) (l:List Spn) (r:Rn) (c:Nat):aS l (aG r l c) (fN t l r c)=gV t l r c:=by
 unfold fN gV qL;split<;>rfl
def jL (t:Bool) (l:List Spn) (r:Rn) (X:Nat->Nat->Int) (c:Nat):List Int:=if r.tab.length=0 then List.replicate (aT r l c).toNat (fN t l r c) else (gR X c r.tab.length).map (tbS r)
def sM (t:Bool) (l:List Spn) (r:Rn) (X:Nat->Nat->Int):List Int:=qP (kL r l) (jL t l r X)
section
variable {t:Bool}{r:Rn}{l:List Spn}{x:Int}{X:Nat->Nat->Int}
theorem OI (h:OkR r) (hl:aR x l) (d:Nat):(kL r l).count d<=(aT r l d).toNat:=by
 by_cases hd:d < (aD r l).length
 ·have:=wP hl h.rng.2.1 hd;omega
 ·have:(kL r l).count d=0:=List.count_eq_zero.2 fun hm=>hd (Cq hl h.rng.2.1 _ hm)
  omega
theorem LQ (h:OkR r) (h0:r.tab.length=0) (hl:aR x l):sM t l r X=(kL r l).map (fN t l r):=by
 unfold sM;have e:jL t l r X=fun c=>List.replicate (aT r l c).toNat (fN t l r c):=funext fun c=>by unfold jL;rw [if_pos h0]
 rw [e,Cv _ _ (OI h hl)]
theorem LR (h:OkR r) (h0:r.tab.length≠0) (hl:aR x l) (hx:kX r.tab.length (aD r l).length (tbT r) (aT r l) X):sM t l r X=oY r l X:=by
 unfold sM oY;have e:jL t l r X=fun c=>(gR X c r.tab.length).map (tbS r):=funext fun c=>by unfold jL;rw [if_neg h0]
 rw [e,Cu _ _ (wR h h0 hl hx)]
theorem Kh (h:OkR r) (h0:r.tab.length=0) (hl:aR x l):nR t l r (sM t l r X)/\aI l r.from_ (sM t l r X)=sL t l r:=by
 rw [LQ h h0 hl];have hg:=h.gap h0;have hr:=h.rng;have hlen:((kL r l).map (fN t l r)).length=(r.to_-r.from_).toNat:=by rw [List.length_map,FX]
 have hv:aI l r.from_ ((kL r l).map (fN t l r))=sL t l r:=LN h hl hlen fun j hj=>by
  have hj':j < (r.to_-r.from_).toNat:=by rw [<- hlen];exact hj
  have hk:(kL r l)[j]?=some (dG r l (r.from_+j)):=FW _ hj';obtain ⟨h1,h2⟩:=List.getElem?_eq_some_iff.1 hk;rw [List.getElem_map,h2,<- EH,AD hl hr.2.1 om om]
 refine ⟨⟨?_,fun _=>hv,fun h=>absurd h0 h⟩,hv⟩
 unfold AgP;rw [if_pos h0];refine ⟨hlen,fun y hy=>?_⟩
 obtain ⟨c,_,rfl⟩:=List.mem_map.1 hy;unfold fN;split<;>omega
theorem Ki (h:OkR r) (h0:r.tab.length≠0) (hl:aR x l) (hx:kX r.tab.length (aD r l).length (tbT r) (aT r l) X) {pi:Nat->Rat} (hf:∀ b,b < (aD r l).length->aH 10000000 (rQ (pi b)))
  (hp:∀ s a b,s < r.tab.length->a < (aD r l).length->b < (aD r l).length->0 < X s a->pi b<=pi a+(sgR t (gT l r s b)-sgR t (gT l r s a))) :
  nR t l r (sM t l r X)/\sgR t (aI l r.from_ (sM t l r X))=cW r.tab.length (aD r l).length (fun s c=>sgR t (gT l r s c)) X:=by
 rw [LR h h0 hl hx];obtain ⟨h1,h2,h3⟩:=LM h h0 hl hx;refine ⟨⟨h1,fun e=>absurd e h0,fun _=>⟨pi,hf,fun s a b hs ha hb hpos=>hp s a b hs ha hb ?_⟩⟩,?_⟩
 ·rw [h2 s a hs ha] at hpos;exact hpos
 ·rw [h3,nO];rfl
end
end Go.Proofs.YtjcecdmbfmccoaaGreatDoor
/-
 Plain: the potentials of a proof: which stages are in which class,how great the numbers are,and what they prove at the end.
-/
namespace Go.Proofs.YtjcecdmbfmccoaaGreatDoor
open Go.RowKit Go.Sl Go.Num
theorem rV {k:Nat}{x:Rat} (h:aH k (rQ x)):x.num.natAbs<=256 ^ k/\x.den<=256 ^ k:=by
 rw [rQ] at h
 split at h
 ·rename_i h0
  have hx:x=0:=Rat.num_eq_zero.1 h0;subst hx;exact ⟨Nat.zero_le _,Nat.pos_of_ne_zero (by simp)⟩
 ·exact ⟨Nat.le_of_lt (lD h.1),Nat.le_of_lt (lD h.2)⟩
theorem LS {k:Nat}{x:Rat} (h:aH k (rQ x)):-((((256 ^ k:Nat):Int):Rat))<=x/\x<=(((256 ^ k:Nat):Int):Rat):=by
 obtain ⟨h1,h2⟩:=rV h;generalize 256 ^ k=B at *;have hd:(1:Rat)<=((x.den:Int):Rat):=by
  have:=x.den_pos;exact Rat.intCast_le_intCast (a:=1).2 om
 have hB:(0:Rat)<=((B:Int):Rat):=Rat.intCast_nonneg.2 om;have e:=FY x;have n1:-(((B:Int)):Rat)<=(x.num:Rat):=by
  rw [<- Rat.intCast_neg];exact Rat.intCast_le_intCast.2 om
 have n2:(x.num:Rat)<=((B:Int):Rat):=Rat.intCast_le_intCast.2 om;have m1:=Rat.mul_le_mul_of_nonneg_left hd hB;have hd0:(0:Rat) < ((x.den:Int):Rat):=by grind
 constructor
 ·refine Rat.not_lt.1 fun hlt=>?_
  have:=Rat.mul_lt_mul_of_pos_right hlt hd0;grind
 ·refine Rat.not_lt.1 fun hlt=>?_
  have:=Rat.mul_lt_mul_of_pos_right hlt hd0;grind
theorem LT {g:Nat->Nat->Rat}{S n B:Nat} (h:∀ s c,s < S->c < n->(g s c).den<=B):Iv g S n<=B ^ (n*S):=by
 rw [Nat.pow_mul];exact Ct fun s hs=>Ct fun c hc=>h s c hs hc
theorem Kj {x:Rat}{D k:Nat}{N:Int} (h:x*((D:Int):Rat)=(N:Rat)) (h0:0 < D) (hD:D < 256 ^ k) (hN:N.natAbs < 256 ^ k):aH k (rQ x):=by
 have hd:((D:Int):Rat)≠0:=fun e=>by
  have:=Rat.intCast_inj.1 (show ((D:Int):Rat)=((0:Int):Rat) from e)
  omega
 have hx:x=ofF (decide (N < 0)) N.natAbs D:=by
  rw [ofF,CM,Rat.mkRat_eq_div,<- h,Rat.div_def];have:=Rat.mul_inv_cancel _ hd;have e:((D:Nat):Rat)=((D:Int):Rat):=rfl;rw [e];grind
 rw [hx];exact pW om (iY hN) (iY hD)
def thS (r:Rn) (l:List Spn) (A:List Int) (a:Nat) (s:Int):Prop:=∃ j:Nat,A[j]?=some s/\(kL r l)[j]?=some a
section
variable {t:Bool}{r:Rn}{l:List Spn}{x:Int}{A:List Int}
theorem NL {a:Nat}{s:Int} (h:thS r l A a s):0 < iN (prL r l A) (sIx r s) a:=by
 obtain ⟨j,h1,h2⟩:=h;unfold iN
 have:0 < (prL r l A).count (sIx r s,a):=by
  refine List.count_pos_iff.2 (List.mem_of_getElem? (i:=j) ?_);rw [prL,List.getElem?_zip_eq_some];exact ⟨by rw [List.getElem?_map,h1];rfl,h2⟩
 omega
theorem NM {a s:Nat} (h:0 < iN (prL r l A) s a):∃ st,thS r l A a st/\sIx r st=s:=by
 unfold iN at h
 have h1:0 < (prL r l A).count (s,a):=by omega
 obtain ⟨j,hj,e⟩:=List.mem_iff_getElem.1 (List.count_pos_iff.1 h1);have e2:(prL r l A)[j]?=some (s,a):=by rw [gE hj,e]
 rw [prL,List.getElem?_zip_eq_some] at e2;obtain ⟨e3,e4⟩:=e2;rw [List.getElem?_map] at e3;cases e5:A[j]? with
 | none=>rw [e5] at e3;cases e3
 | some st =>
  rw [e5] at e3;exact ⟨st,⟨j,e5,e4⟩,by simpa using e3⟩
theorem AH (h0:r.tab.length≠0) (ha:AgP r A) {a:Nat}{s:Int} (h:thS r l A a s):sIx r s < r.tab.length/\tbS r (sIx r s)=s:=by
 obtain ⟨j,h1,_⟩:=h;exact wQ (jG ((ha.tabm h0).mem_iff.1 (List.mem_of_getElem? h1)))
def gS (t:Bool) (r:Rn) (l:List Spn) (s c:Nat):Rat:=sgR t (aS l (aG r l c) (s:Int))
theorem MQ (h0:r.tab.length≠0) (ha:AgP r A) {a c:Nat}{s:Nat} (h:thS r l A a s):gS t r l s c=sgR t (gT l r (sIx r s) c):=by
 rw [gS,gT,(AH h0 ha h).2]
def dM (t:Bool) (r:Rn) (l:List Spn):Nat:=Iv (fun s c=>sgR t (gT l r s c)) r.tab.length (aD r l).length
theorem Kk (hb:nR t l r A) (h:OkR r) (h0:r.tab.length≠0) (hl:aR x l) :
  ∃ pi,mV (aD r l).length (fun a s=>thS r l A a s) (gS t r l) ((dM t r l:Int):Rat) (-(2*((256 ^ 10000000:Nat):Int)*(dM t r l:Int))) pi (fun _=>0):=by
 obtain ⟨ha,_,hp⟩:=hb;obtain ⟨pi,hf,hp⟩:=hp h0;refine ⟨_,Iw (pi:=pi) (Rat.intCast_pos.2 (by have:=AE (fun s c=>sgR t (gT l r s c)) r.tab.length (aD r l).length;unfold dM;omega)) (fun b hb=>LS (hf b hb)) Rat.le_refl (Int.natCast_nonneg _) fun a b s hac hbc hs=>?_⟩
 have hg:=fun c=>MQ (t:=t) (c:=c) h0 ha hs
 rw [hg,hg];exact hp _ a b (AH h0 ha hs).1 hac hbc (NL hs)
theorem NN (h0:r.tab.length≠0) (ha:AgP r A):∀ s c,c < (aD r l).length->(∃ a,a < (aD r l).length/\thS r l A a (s:Nat))->∃ N:Int,gS t r l s c*((dM t r l:Int):Rat)=(N:Rat):=fun s c hc ⟨a,_,hs⟩=>by
 rw [MQ h0 ha hs];exact Hz (fun s c=>sgR t (gT l r s c)) (AH h0 ha hs).1 hc
theorem LU {k:Nat}{pi v:Nat->Rat}{th:Nat->Nat->Prop}{g:Nat->Nat->Rat}{n D:Nat}{B:Nat} (hI:mV n th g ((D:Int):Rat) (-(2*(B:Int)*(D:Int))) pi v) (h0:0 < D) (hD:D < 256 ^ k) (hB:2*B*D < 256 ^ k) {b:Nat} (hb:b < n) (hv:v b<=0):aH k (rQ (v b)):=by
 obtain ⟨N,hN⟩:=hI.iq b hb;have hD0:(0:Rat) < ((D:Int):Rat):=Rat.intCast_pos.2 om;have h1:=hI.num hD0 hb;rw [hN,Rat.num_intCast] at h1;have h2:N<=0:=by
  have:=Rat.mul_le_mul_of_nonneg_right hv (Rat.le_of_lt hD0);rw [hN,Rat.zero_mul] at this;exact Rat.intCast_le_intCast.1 (show (N:Rat)<=((0:Int):Rat) from this)
 refine Kj hN h0 hD ?_;have e:(((2*B*D:Nat):Int))=2*(B:Int)*(D:Int):=by rw [Int.natCast_mul,Int.natCast_mul];rfl
 omega
theorem LV (h:OkR r) (h0:r.tab.length≠0) (hl:aR x l) (ha:AgP r A) {v:Nat->Rat}{p:Prf}
  (hv:∀ a b s,a < (aD r l).length->b < (aD r l).length->thS r l A a s->¬ sgR t (v a+aS l (aG r l b) s-aS l (aG r l a) s) < sgR t (v b))
  (h1:∀ c,c < (aD r l).length->vP p c=v c) (h2:∀ s,s < r.tab.length->sgR t (uP p s)=iO (fun s c=>sgR t (gT l r s c)) (fun c=>sgR t (v c)) s (aD r l).length) :
  dJ t l r p=true/\BK l r p=aI l r.from_ A:=by
 refine LO h h0 hl ha (fun s a b hs hac hbc hpos=>?_) h1 h2
 obtain ⟨st,hst,e⟩:=NM hpos;have h3:=hv a b st hac hbc hst;have h4:=(AH h0 ha hst).2;rw [yU,iF] at h3;rw [<- e,gT,gT,h4];grind
end
end Go.Proofs.YtjcecdmbfmccoaaGreatDoor
/-
 Plain: what the laws of proofs say: soundness,completeness,exactness.
-/
namespace Go.Proofs.YtjcecdmbfmccoaaGreatDoor
open Go.RowKit Go.Sl Go.Num
def f0R (rs:List Rn):Int:=(bI rs).from_
theorem AJ {l:List Spn}:∀ {x:Int},aR x l->(∀ s∈l,x<=s.from_)/\∀ s∈l,s.to_<=(l.getLast?.map (·.to_)).getD 0:=by
 induction l with
 | nil=>intro x _;exact ⟨fun s hs=>absurd hs List.not_mem_nil,fun s hs=>absurd hs List.not_mem_nil⟩
 | cons y l ih =>
  intro x h;obtain ⟨h1,h2⟩:=ih h.2.2;have hy:=h.2.1;refine ⟨fun s hs=>?_,fun s hs=>?_⟩
  ·rcases List.mem_cons.1 hs with rfl|hs
   ·exact h.1
   ·have:=h1 s hs;have:=h.1;omega
  ·cases l with
   | nil =>
    rcases List.mem_cons.1 hs with rfl|hs
    ·exact Int.le_refl _
    ·cases hs
   | cons z l =>
    have e:((y::z::l).getLast?.map (·.to_)).getD 0=((z::l).getLast?.map (·.to_)).getD 0:=by rw [List.getLast?_cons_cons]
    rw [e];rcases List.mem_cons.1 hs with rfl|hs
    ·have a:=h1 z (List.mem_cons_self ..)
     have b:=h2 z (List.mem_cons_self ..);have:=h.2.2.2.1;omega
    ·exact h2 s hs
theorem D3 {l:List Spn} (h:aZ l=0):aR 0 l:=qB (by unfold aZ at h;split at h;cases h;exact h)
theorem AK {l:List Spn} (h:aZ l=0):aR ((l.head?.map (·.from_)).getD 0) l:=by
 have h0:=D3 h;cases l with
 | nil=>trivial
 | cons s l=>exact ⟨Int.le_refl _,h0.2⟩
theorem NO {rs:List Rn}{l:List Spn} (h:cU rs l=0) (h0:rs≠[]):∀ s∈l,(bI rs).from_<=s.from_/\s.to_<=(bX rs).to_:=fun s hs=>by
 obtain ⟨h1,h2⟩:=fB h;unfold cU at h
 rw [if_neg om,if_neg om] at h
 have hne:¬ (0 < l.length/\(rs.length=0∨(l.head?.map (·.from_)).getD 0 < (bI rs).from_∨(bX rs).to_ < (l.getLast?.map (·.to_)).getD 0)):=fun hc=>by rw [if_pos hc] at h;cases h
 have hl:0 < l.length:=List.length_pos_of_mem hs;have a:=(AJ (AK h2)).1 s hs;have b:=(AJ (AK h2)).2 s hs;refine ⟨?_,?_⟩
 ·refine Int.not_lt.1 fun hlt=>hne ⟨hl,.inr (.inl om)⟩
 ·refine Int.not_lt.1 fun hlt=>hne ⟨hl,.inr (.inr om)⟩
theorem Kl {rs:List Rn}{f:Int}{S:List Int} (h:aX rs=0) (ha:dP rs f S=true):AgS rs S/\(rs≠[]->f=(bI rs).from_)/\(rs=[]->dK f S=true):=by
 by_cases h0:rs=[]
 ·subst h0
  rw [Az,Bool.and_eq_true,decide_eq_true_eq] at ha;exact ⟨List.eq_nil_of_length_eq_zero ha.2,fun h=>absurd rfl h,fun _=>ha.1⟩
 ·obtain ⟨h1,h2⟩:=(Ay h h0).1 ha
  exact ⟨h2,fun _=>h1,fun h=>absurd h h0⟩
theorem NP {rs:List Rn}{l:List Spn}{f:Int}{S:List Int} (ha:AgS rs S) (hf:rs≠[]->f=(bI rs).from_):aI l f S=aI l (f0R rs) S:=by
 by_cases h0:rs=[]
 ·subst h0
  rw [show S=[] from ha];rfl
 ·rw [hf h0];rfl
theorem EI {rs:List Rn}{S:List Int} (h:aX rs=0) (h0:rs≠[]) (ha:AgS rs S):dK (bI rs).from_ S=true/\(S.length:Int)=(bX rs).to_-(bI rs).from_:=by
 obtain ⟨ho,_,hc⟩:=gK h;obtain ⟨hc,hle⟩:=hc h0;have hlen:=ha.len hc ho;have hb:=ha.bd' ho;have hm:bI rs∈rs:=by
  unfold bI;cases rs with
  | nil=>exact absurd rfl h0
  | cons a b=>exact List.mem_cons_self ..
 have hm2:bX rs∈rs:=by
  unfold bX;cases e:rs.getLast? with
  | none=>rw [List.getLast?_eq_none_iff] at e;exact absurd e h0
  | some x=>exact List.mem_of_mem_getLast? e
 have r1:=(ho _ hm).rng;have r2:=(ho _ hm2).rng;refine ⟨?_,by omega⟩
 rw [dK,Bool.and_eq_true,decide_eq_true_eq];refine ⟨⟨by omega,r1.1,by omega⟩,?_⟩
 rw [Bool.not_eq_true',List.any_eq_false];intro y hy;have:=hb y hy;simp [jM];omega
theorem Km {rs:List Rn}{l:List Spn}{f:Int}{S:List Int} (h:cU rs l=0) (ha:dP rs f S=true):kI f S l=(rQ (aI l (f0R rs) S),0):=by
 obtain ⟨h1,h2⟩:=fB h;obtain ⟨a1,a2,a3⟩:=Kl h1 ha;rw [<- NP a1 a2,kI,if_neg om];by_cases h0:rs=[]
 ·have hl:l=[]:=by
   refine Classical.byContradiction fun hl=>?_
   subst h0;unfold cU at h
   rw [if_neg om,if_neg om,if_pos ⟨List.length_pos_iff.2 hl,.inl rfl⟩] at h
   cases h
  subst hl;rw [a3 h0,if_neg dc,if_neg (by simp)]
 ·obtain ⟨r1,r2⟩:=EI h1 h0 a1
  rw [a2 h0,r1,if_neg dc,if_neg];rw [Bool.not_eq_true,List.any_eq_false];intro s hs;have:=NO h h0 s hs;simp only [pZ,Bool.or_eq_true,decide_eq_true_eq];omega
section
variable {t:Bool}{rs:List Rn}{l:List Spn}{S T:List Int}
theorem vH (h:aX rs=0):∃ e,Cn (f0R rs) rs e:=by
 by_cases h0:rs=[]
 ·subst h0;exact ⟨_,rfl⟩
 ·exact ⟨_,((gK h).2.2 h0).1⟩
theorem H1 (h:cU rs l=0) (hb:iR t l rs S) (ha:AgS rs T):sgR t (aI l (f0R rs) S)<=sgR t (aI l (f0R rs) T):=by
 obtain ⟨h1,h2⟩:=fB h;obtain ⟨e,hc⟩:=vH h1;exact iR.le (D3 h2) (cT h2).2 hc (gK h1).1 hb ha
theorem MR {ps:List Prf} (h:(bF t rs l ps).2=0) (ha:AgS rs S):sgR t (eQ t l rs ps)<=sgR t (aI l (f0R rs) S):=by
 obtain ⟨c1,c2,_,c4,_⟩:=qM h;obtain ⟨h1,h2⟩:=fB c1;obtain ⟨e,hc⟩:=vH h1;exact Cs (D3 h2) (cT h2).2 hc (gK h1).1 c2 c4 ha
end
structure Shp where
 lo:Q3
 hi:Q3
 lf:Int
 ls:List Int
 hf:Int
 hs:List Int
 lp:List Prf
 hp:List Prf
def lV (rs:List Rn) (l:List Spn) (s:Shp):Bool:=decide ((bF false rs l s.lp).2=0) && decide ((bF true rs l s.hp).2=0) && decide (0<=dR (qR (bF false rs l s.lp).1-qR s.lo)) && decide (dR (qR (bF true rs l s.hp).1-qR s.hi)<=0)
def sN (rs:List Rn) (l:List Spn) (s:Shp):Bool:=decide (cU rs l=0) && dP rs s.lf s.ls && dP rs s.hf s.hs && decide ((kI s.lf s.ls l).2=0) && decide ((kI s.hf s.hs l).2=0) && decide ((kI s.lf s.ls l).1=s.lo) && decide ((kI s.hf s.hs l).1=s.hi)
def AL (rs:List Rn) (l:List Spn) (s:Shp):Bool:=lV rs l s && sN rs l s
theorem LW {x:Rat}:0<=dR x ↔ 0<=x:=by
 have h:=Hs (x:=x);constructor
 ·intro h1;exact h om
 ·intro h1
  unfold dR;repeat' split
  all_goals first
   | omega
   | (exfalso;grind)
theorem LX {x:Rat}:dR x<=0 ↔ x<=0:=by
 unfold dR;constructor
 ·intro h1
  repeat' split at h1
  all_goals first
   | grind
   | (exfalso;omega)
 ·intro h1
  repeat' split
  all_goals first
   | omega
   | (exfalso;grind)
section
variable {rs:List Rn}{l:List Spn}{S T:List Int}
theorem NQ {s:Shp} (h:cU rs l=0) (hS:iR false l rs s.ls) (hT:iR true l rs s.hs) (hf:dP rs s.lf s.ls=true) (hg:dP rs s.hf s.hs=true) (hp:bF false rs l s.lp=(rQ (aI l (f0R rs) s.ls),0)) (hq:bF true rs l s.hp=(rQ (aI l (f0R rs) s.hs),0)) (hlo:s.lo=rQ (aI l (f0R rs) s.ls)) (hhi:s.hi=rQ (aI l (f0R rs) s.hs)):AL rs l s=true:=by
 unfold AL lV sN;rw [hp,hq,Km h hf,Km h hg,hlo,hhi,hf,hg,Rat.sub_self,Rat.sub_self,h];simp [dR]
end
end Go.Proofs.YtjcecdmbfmccoaaGreatDoor
