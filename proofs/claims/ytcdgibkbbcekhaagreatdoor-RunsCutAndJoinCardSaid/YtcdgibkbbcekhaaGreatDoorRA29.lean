/-
  Plain: what is cut at a tick and joined again.
-/
import Derived.Test.YtcdgibkbbcekhaaGreatDoorRA20
import Derived.Test.YtcdgibkbbcekhaaGreatDoorRA26
set_option linter.unusedVariables false
set_option linter.unusedSimpArgs false
set_option linter.unusedSectionVars false
namespace Go.Proofs.YtcdgibkbbcekhaaGreatDoor
open Go.RowKit Go.Sl Go.Num
structure Cutd (at_ f t:Int) (l A B:List Rn):Prop where
 ca:Cn f A at_
 cb:Cn at_ B t
 oa:∀ r∈A,OkR r
 ob:∀ r∈B,OkR r
 jn:∀ o,(joinF o (A++B)).map rbare=(joinF o l).map rbare
 ct:cntL A*cntL B=cntL l
theorem joinE_ok {A B:List Rn}{f m t:Int} (h1:Cn f A m) (h2:Cn m B t) (o1:∀ r∈A,OkR r) (o2:∀ r∈B,OkR r) (ht:t-f≤2000):joinE A B=(joinL (A++B),0):=by
 have l1:=h1.le o1
 have l2:=h2.le o2
 have l3:=joinL_len (A++B)
 rw [List.length_append] at l3
 rw [joinE,if_neg (fun h=>h (runs_of h1 o1 (by omega))),if_neg (fun h=>h (runs_of h2 o2 (by omega))),if_neg,if_neg,if_neg (by omega)]
 ·rintro ⟨e1,e2,e3⟩
  rw [h2.last (fun e=>e2 (by rw [e];rfl)),(h1.first fun e=>e1 (by rw [e];rfl)).1] at e3
  omega
 ·rintro ⟨e1,e2,e3⟩
  rw [h1.last (fun e=>e1 (by rw [e];rfl)),(h2.first fun e=>e2 (by rw [e];rfl)).1] at e3
  exact e3 rfl
end Go.Proofs.YtcdgibkbbcekhaaGreatDoor
/-
 Plain: summaries know the first and the last tick and the totals alone.
-/
namespace Go.Proofs.YtcdgibkbbcekhaaGreatDoor
open Go.RowKit Go.Sl Go.Num
structure Dt (f t a b:Int) (D:Int→Int) (l:List Rn):Prop where
 cn:Cn f l t
 ok:∀ r∈l,OkR r
 gp:∀ r∈l,r.tab.length≠0
 ne:l≠[]
 hd:(headD' l).tab.length=1∧stg (headD' l)=a
 la:(lastD l).tab.length=1∧stg (lastD l)=b
 tot:∀ s,totC l s=D s
theorem putL_ne (o:List Rn) (x:Rn):putL o x≠[]:=by
 rcases nil_or_snoc o with rfl|⟨o,y,rfl⟩
 ·exact List.cons_ne_nil _ _
 ·rw [putL_snoc]
  split<;>exact fun h=>by simp at h
theorem putL_hd {o:List Rn}{x:Rn}{a:Int} (h0:o≠[]) (h:(headD' o).tab.length=1∧stg (headD' o)=a):(headD' (putL o x)).tab.length=1∧stg (headD' (putL o x))=a:=by
 rcases nil_or_snoc o with rfl|⟨o,y,rfl⟩
 ·exact absurd rfl h0
 ·rw [putL_snoc]
  cases o with
  | cons c o=>split<;>exact h
  | nil =>
   have h1:y.tab.length=1∧stg y=a:=h
   by_cases hj:jblB y x=true
   ·rw [if_pos hj]
    show (jnR y x).tab.length=1∧stg (jnR y x)=a
    rw [jblB] at hj
    by_cases hx:x.tab.length=1
    ·rw [if_pos ⟨h1.1,hx⟩,decide_eq_true_eq] at hj
     have e:(jnR y x).tab=[(stg x,x.to_-y.from_)]:=by rw [jnR,if_neg (by omega)]
     rw [stg,e,← h1.2,hj]
     exact ⟨rfl,rfl⟩
    ·rw [if_neg fun h2=>hx h2.2,decide_eq_true_eq] at hj
     exact absurd hj.1 (by omega)
   ·rw [if_neg hj];exact h1
theorem joinF_hd:∀ {l o:List Rn}{a:Int},o≠[]→(headD' o).tab.length=1∧stg (headD' o)=a→(headD' (joinF o l)).tab.length=1∧stg (headD' (joinF o l))=a
 | [],_,_,_,h=>h
 | x::l,o,a,h0,h=>by rw [joinF_cons];exact joinF_hd (putL_ne o x) (putL_hd h0 h)
theorem joinL_hd {l:List Rn}{a:Int} (h0:l≠[]) (h:(headD' l).tab.length=1∧stg (headD' l)=a):(headD' (joinL l)).tab.length=1∧stg (headD' (joinL l))=a:=by
 cases l with
 | nil=>exact absurd rfl h0
 | cons x l=>rw [joinL,joinF_cons,putL_nil];exact joinF_hd (List.cons_ne_nil _ _) h
theorem putL_la {o:List Rn}{x:Rn} (h:x.tab.length=1):(lastD (putL o x)).tab.length=1∧stg (lastD (putL o x))=stg x:=by
 rcases nil_or_snoc o with rfl|⟨o,y,rfl⟩
 ·exact ⟨h,rfl⟩
 ·rw [putL_snoc]
  split
  ·rw [lastD_snoc]
   have e:(jnR y x).tab=[(stg x,x.to_-y.from_)]:=by rw [jnR,if_neg (by omega)]
   rw [show stg (jnR y x)=((jnR y x).tab.headD (0,0)).1 from rfl,e]
   exact ⟨rfl,rfl⟩
  ·rw [lastD_snoc];exact ⟨h,rfl⟩
theorem joinL_la {l:List Rn}{b:Int} (h0:l≠[]) (h:(lastD l).tab.length=1∧stg (lastD l)=b):(lastD (joinL l)).tab.length=1∧stg (lastD (joinL l))=b:=by
 rcases nil_or_snoc l with rfl|⟨o,y,rfl⟩
 ·exact absurd rfl h0
 ·rw [lastD_snoc] at h
  rw [joinL,joinF_app,joinF_cons,joinF_nil,← h.2]
  exact putL_la h.1
theorem Cn.ne {l:List Rn}{f t:Int} (h:Cn f l t) (hft:f < t):l≠[]:=fun e=>by rw [e,Cn] at h;omega
variable {f t a b m c d:Int}{D E:Int→Int}{l k:List Rn}
theorem Dt.lt (h:Dt f t a b D l):f < t:=by
 have h1:=h.cn.le h.ok
 have h2:=List.length_pos_iff.2 h.ne
 omega
theorem Dt.join (h:Dt f t a b D l):Dt f t a b D (joinL l):=by
 obtain ⟨j1,j2,_,j4,j5⟩:=joinL_ok h.cn h.ok
 exact ⟨j1,j2,j5 h.gp,j1.ne h.lt,joinL_hd h.ne h.hd,joinL_la h.ne h.la,fun s=>(j4 s).trans (h.tot s)⟩
theorem headD_app {l k:List Rn} (h:l≠[]):headD' (l++k)=headD' l:=by cases l with
 | nil=>exact absurd rfl h
 | cons x l=>rfl
theorem lastD_app {l k:List Rn} (h:k≠[]):lastD (l++k)=lastD k:=by
 rcases nil_or_snoc k with rfl|⟨o,y,rfl⟩
 ·exact absurd rfl h
 ·rw [← List.append_assoc,lastD_snoc,lastD_snoc]
theorem Dt.app (h:Dt f m a b D l) (g:Dt m t c d E k):Dt f t a d (fun s=>D s+E s) (l++k) :=
 ⟨Cn.app.2 ⟨m,h.cn,g.cn⟩,fun r hr=>(List.mem_append.1 hr).elim (h.ok r) (g.ok r),fun r hr=>(List.mem_append.1 hr).elim (h.gp r) (g.gp r),fun e=>h.ne (List.append_eq_nil_iff.1 e).1,
  by rw [headD_app h.ne];exact h.hd,by rw [lastD_app g.ne];exact g.la,fun s=>by rw [totC_app,h.tot,g.tot]⟩
def Ds (f:Int) (hs:List Int) (l:List Rn):Prop:=(hs=[]∧l=[])∨∃ a b,hs.head?=some a∧hs.getLast?=some b∧Dt f (f+hs.length) a b (fun s=>nIn s hs) l
theorem Ds.cn {f:Int}{hs:List Int}{l:List Rn} (h:Ds f hs l):Cn f l (f+hs.length):=by
 rcases h with ⟨rfl,rfl⟩|⟨a,b,_,_,h⟩
 ·show f=f+((0:Nat):Int);omega
 ·exact h.cn
theorem Ds.ok {f:Int}{hs:List Int}{l:List Rn} (h:Ds f hs l):∀ r∈l,OkR r:=by
 rcases h with ⟨rfl,rfl⟩|⟨a,b,_,_,h⟩
 ·exact fun r hr=>by cases hr
 ·exact h.ok
theorem Ds.tot {f:Int}{hs:List Int}{l:List Rn} (h:Ds f hs l) (s:Int):totC l s=nIn s hs:=by
 rcases h with ⟨rfl,rfl⟩|⟨a,b,_,_,h⟩
 ·rfl
 ·exact h.tot s
theorem Ds.of {f:Int}{hs:List Int} (h:rightH f hs=true):Ds f hs (joinL (raws f hs)):=by
 by_cases h0:hs=[]
 ·subst h0;exact .inl ⟨rfl,rfl⟩
 have hg:∀ r∈raws f hs,r.tab.length≠0:=fun r hr=>by
  obtain ⟨k,hk,rfl⟩:=List.mem_iff_getElem.1 hr
  rw [raws_get hs f k (by rwa [raws_len] at hk)]
  exact Nat.one_ne_zero
 have hp:=List.length_pos_iff.2 h0
 have hl:=raws_len hs f
 have ho:=raws_ok h
 refine .inr ⟨hs[0],hs[hs.length-1],by rw [← List.getElem?_eq_getElem hp,List.head?_eq_getElem?],by rw [List.getLast?_eq_getElem?,List.getElem?_eq_getElem],Dt.join ⟨raws_cn hs f,ho,hg,fun e=>?_,?_,?_,fun s=>?_⟩⟩
 ·have:=congrArg List.length e
  rw [raws_len,List.length_nil] at this;omega
 ·rw [headD_at (by omega),raws_get hs f 0 hp];exact ⟨rfl,rfl⟩
 ·rw [lastD_at (by omega)]
  have e:=raws_get hs f (hs.length-1) (by omega)
  simp only [hl]
  rw [e];exact ⟨rfl,rfl⟩
 ·exact (AgS.tot ho hg (raws_ag hs f) s).symm
theorem Ds.join {f:Int}{hs hs':List Int}{l l':List Rn} (h:Ds f hs l) (h':Ds (f+hs.length) hs' l'):Ds f (hs++hs') (joinL (l++l')):=by
 rcases h with ⟨rfl,rfl⟩|⟨a,b,h1,h2,h⟩
 ·rcases h' with ⟨rfl,rfl⟩|⟨c,d,h3,h4,h'⟩
  ·exact .inl ⟨rfl,rfl⟩
  ·refine .inr ⟨c,d,h3,h4,?_⟩
   rw [List.length_nil,Int.ofNat_zero,Int.add_zero] at h'
   exact h'.join
 ·rcases h' with ⟨rfl,rfl⟩|⟨c,d,h3,h4,h'⟩
  ·rw [List.append_nil,List.append_nil]
   exact .inr ⟨a,b,h1,h2,h.join⟩
  ·refine .inr ⟨a,d,by rw [List.head?_append,h1];rfl,by rw [List.getLast?_append,h4];rfl,?_⟩
   rw [show (fun s=>nIn s (hs++hs'))=fun s=>nIn s hs+nIn s hs' from funext fun s=>nIn_app s hs hs',List.length_append,Int.natCast_add,← Int.add_assoc]
   exact (h.app h').join
theorem Ds.joinE {f:Int}{hs hs':List Int}{l l':List Rn} (h:Ds f hs l) (h':Ds (f+hs.length) hs' l') (hn:hs.length+hs'.length≤2000):joinE l l'=(joinL (l++l'),0) :=
 joinE_ok h.cn h'.cn h.ok h'.ok (by omega)
end Go.Proofs.YtcdgibkbbcekhaaGreatDoor
