/-
  Plain: the history that is dealt out of the stages of each class is a best one.
-/
import Derived.Test.YtjcecdmbfmccoaaGreatDoorVC8
set_option linter.unusedVariables false
set_option linter.unusedSimpArgs false
set_option linter.unusedSectionVars false
namespace Go.Proofs.YtjcecdmbfmccoaaGreatDoor
open Go.RowKit Go.Sl Go.Num
def tlI (q:Nat->List Int) (c:Nat):Nat->List Int:=fun d=>if d=c then (q c).tail else q d
def dealI:List Nat->(Nat->List Int)->List Int
 | [],_=>[]
 | c::K,q=>(q c).headD 0::dealI K (tlI q c)
theorem dealI_map {f:Nat->Int}:∀ (K:List Nat) (q:Nat->List Nat),(∀ d,K.count d<=(q d).length)->dealI K (fun c=>(q c).map f)=(deal K q).map f
 | [],_,_=>rfl
 | c::K,q,h=>by
  have hc:=h c
  rw [List.count_cons,if_pos (by simp)] at hc
  have hq:∀ d,K.count d<=(tlQ q c d).length:=fun d=>by
   have:=h d
   rw [List.count_cons] at this
   unfold tlQ
   by_cases e:d=c
   ·subst e
    rw [if_pos rfl,List.length_tail]
    rw [if_pos (by simp)] at this
    omega
   ·rw [if_neg e];omega
  have ih:=dealI_map (f:=f) K (tlQ q c) hq
  have e:tlI (fun c=>(q c).map f) c=fun d=>(tlQ q c d).map f:=funext fun d=>by
   unfold tlI tlQ
   split
   ·rw [List.map_tail]
   ·rfl
  rw [dealI,e,ih,deal,List.map_cons]
  congr 1
  cases hq:q c with
  | nil=>rw [hq] at hc;simp at hc
  | cons a b=>rfl
theorem dealI_rep {b:Nat->Int}:∀ (K:List Nat) (m:Nat->Nat),(∀ d,K.count d<=m d)->dealI K (fun c=>List.replicate (m c) (b c))=K.map b
 | [],_,_=>rfl
 | c::K,m,h=>by
  have hc:=h c
  rw [List.count_cons,if_pos (by simp)] at hc
  have e:tlI (fun c=>List.replicate (m c) (b c)) c=fun d=>List.replicate ((fun d=>if d=c then m d-1 else m d) d) (b d):=funext fun d=>by
   unfold tlI
   by_cases e:d=c
   ·subst e
    rw [if_pos rfl]
    dsimp only
    rw [if_pos rfl,List.tail_replicate]
   ·rw [if_neg e]
    dsimp only
    rw [if_neg e]
  rw [dealI,e,dealI_rep K _ fun d=>?_,List.map_cons]
  ·congr 1
   cases hm:m c with
   | zero=>omega
   | succ k=>rfl
  ·have:=h d
   rw [List.count_cons] at this
   by_cases e:d=c
   ·subst e
    rw [if_pos rfl]
    rw [if_pos (by simp)] at this
    omega
   ·rw [if_neg e];omega
theorem dealI_len:∀ (K:List Nat) (q:Nat->List Int),(dealI K q).length=K.length
 | [],_=>rfl
 | c::K,q=>by rw [dealI,List.length_cons,List.length_cons,dealI_len K]
def bestSt (t:Bool) (l:List Spn) (r:Rn) (c:Nat):Int:=if sgR t (clsG l (clsAt r l c) r.hi) < sgR t (clsG l (clsAt r l c) r.lo) then r.hi else r.lo
theorem best_end (t:Bool) (l:List Spn) (r:Rn) (c:Nat):clsG l (clsAt r l c) (bestSt t l r c)=gapC t l r c:=by
 unfold bestSt gapC endG
 split<;>rfl
def queR (t:Bool) (l:List Spn) (r:Rn) (X:Nat->Nat->Int) (c:Nat):List Int:=if r.tab.length=0 then List.replicate (clsT r l c).toNat (bestSt t l r c) else (colL X c r.tab.length).map (tbS r)
def hisR (t:Bool) (l:List Spn) (r:Rn) (X:Nat->Nat->Int):List Int:=dealI (kL r l) (queR t l r X)
section
variable {t:Bool}{r:Rn}{l:List Spn}{x:Int}{X:Nat->Nat->Int}
theorem kL_le (h:OkR r) (hl:InOrd x l) (d:Nat):(kL r l).count d<=(clsT r l d).toNat:=by
 by_cases hd:d < (clsE r l).length
 ·have:=kL_cnt hl h.rng.2.1 hd;omega
 ·have:(kL r l).count d=0:=List.count_eq_zero.2 fun hm=>hd (kL_lt hl h.rng.2.1 _ hm)
  omega
theorem his_gap (h:OkR r) (h0:r.tab.length=0) (hl:InOrd x l):hisR t l r X=(kL r l).map (bestSt t l r):=by
 unfold hisR
 have e:queR t l r X=fun c=>List.replicate (clsT r l c).toNat (bestSt t l r c):=funext fun c=>by unfold queR;rw [if_pos h0]
 rw [e,dealI_rep _ _ (kL_le h hl)]
theorem his_tab (h:OkR r) (h0:r.tab.length≠0) (hl:InOrd x l) (hx:Feas r.tab.length (clsE r l).length (tbT r) (clsT r l) X):hisR t l r X=dealA r l X:=by
 unfold hisR dealA
 have e:queR t l r X=fun c=>(colL X c r.tab.length).map (tbS r):=funext fun c=>by unfold queR;rw [if_neg h0]
 rw [e,dealI_map _ _ (deal_fits h h0 hl hx)]
theorem gap_best (h:OkR r) (h0:r.tab.length=0) (hl:InOrd x l):BestR t l r (hisR t l r X)/\volSum l r.from_ (hisR t l r X)=gapV t l r:=by
 rw [his_gap h h0 hl]
 have hg:=h.gap h0
 have hr:=h.rng
 have hlen:((kL r l).map (bestSt t l r)).length=(r.to_-r.from_).toNat:=by rw [List.length_map,kL_len]
 have hv:volSum l r.from_ ((kL r l).map (bestSt t l r))=gapV t l r:=gapV_eq h hl hlen fun j hj=>by
  have hj':j < (r.to_-r.from_).toNat:=by rw [<- hlen];exact hj
  have hk:(kL r l)[j]?=some (clsIx r l (r.from_+j)):=kF_get _ hj'
  obtain ⟨h1,h2⟩:=List.getElem?_eq_some_iff.1 hk
  rw [List.getElem_map,h2,<- best_end,clsG_worth hl hr.2.1 (by omega) (by omega)]
 refine ⟨⟨?_,fun _=>hv,fun h=>absurd h0 h⟩,hv⟩
 unfold AgP
 rw [if_pos h0]
 refine ⟨hlen,fun y hy=>?_⟩
 obtain ⟨c,_,rfl⟩:=List.mem_map.1 hy
 unfold bestSt
 split<;>omega
theorem tab_best (h:OkR r) (h0:r.tab.length≠0) (hl:InOrd x l) (hx:Feas r.tab.length (clsE r l).length (tbT r) (clsT r l) X) {pi:Nat->Rat} (hf:∀ b,b < (clsE r l).length->fewQ 10000000 (rQ (pi b)))
  (hp:∀ s a b,s < r.tab.length->a < (clsE r l).length->b < (clsE r l).length->0 < X s a->pi b<=pi a+(sgR t (gT l r s b)-sgR t (gT l r s a))) :
  BestR t l r (hisR t l r X)/\sgR t (volSum l r.from_ (hisR t l r X))=costX r.tab.length (clsE r l).length (fun s c=>sgR t (gT l r s c)) X:=by
 rw [his_tab h h0 hl hx]
 obtain ⟨h1,h2,h3⟩:=deal_ok h h0 hl hx
 refine ⟨⟨h1,fun e=>absurd e h0,fun _=>⟨pi,hf,fun s a b hs ha hb hpos=>hp s a b hs ha hb ?_⟩⟩,?_⟩
 ·rw [h2 s a hs ha] at hpos;exact hpos
 ·rw [h3,sgR_cost];rfl
end
end Go.Proofs.YtjcecdmbfmccoaaGreatDoor
/-
 Plain: the potentials of a proof: which stages are in which class,how great the numbers are,and what they prove at the end.
-/
namespace Go.Proofs.YtjcecdmbfmccoaaGreatDoor
open Go.RowKit Go.Sl Go.Num
theorem few_prt {k:Nat}{x:Rat} (h:fewQ k (rQ x)):x.num.natAbs<=256 ^ k/\x.den<=256 ^ k:=by
 rw [rQ] at h
 split at h
 ·rename_i h0
  have hx:x=0:=Rat.num_eq_zero.1 h0
  subst hx
  exact ⟨Nat.zero_le _,Nat.pos_of_ne_zero (by simp)⟩
 ·exact ⟨Nat.le_of_lt (nB_lt_pow h.1),Nat.le_of_lt (nB_lt_pow h.2)⟩
theorem few_abs {k:Nat}{x:Rat} (h:fewQ k (rQ x)):-((((256 ^ k:Nat):Int):Rat))<=x/\x<=(((256 ^ k:Nat):Int):Rat):=by
 obtain ⟨h1,h2⟩:=few_prt h
 generalize 256 ^ k=B at *
 have hd:(1:Rat)<=((x.den:Int):Rat):=by
  have:=x.den_pos
  exact Rat.intCast_le_intCast (a:=1).2 (by omega)
 have hB:(0:Rat)<=((B:Int):Rat):=Rat.intCast_nonneg.2 (by omega)
 have e:=den_eq x
 have n1:-(((B:Int)):Rat)<=(x.num:Rat):=by
  rw [<- Rat.intCast_neg];exact Rat.intCast_le_intCast.2 (by omega)
 have n2:(x.num:Rat)<=((B:Int):Rat):=Rat.intCast_le_intCast.2 (by omega)
 have m1:=Rat.mul_le_mul_of_nonneg_left hd hB
 have hd0:(0:Rat) < ((x.den:Int):Rat):=by grind
 constructor
 ·refine Rat.not_lt.1 fun hlt=>?_
  have:=Rat.mul_lt_mul_of_pos_right hlt hd0
  grind
 ·refine Rat.not_lt.1 fun hlt=>?_
  have:=Rat.mul_lt_mul_of_pos_right hlt hd0
  grind
theorem denM_le {g:Nat->Nat->Rat}{S n B:Nat} (h:∀ s c,s < S->c < n->(g s c).den<=B):denM g S n<=B ^ (n*S):=by
 rw [Nat.pow_mul]
 exact pN_le fun s hs=>pN_le fun c hc=>h s c hs hc
theorem few_of {x:Rat}{D k:Nat}{N:Int} (h:x*((D:Int):Rat)=(N:Rat)) (h0:0 < D) (hD:D < 256 ^ k) (hN:N.natAbs < 256 ^ k):fewQ k (rQ x):=by
 have hd:((D:Int):Rat)≠0:=fun e=>by
  have:=Rat.intCast_inj.1 (show ((D:Int):Rat)=((0:Int):Rat) from e)
  omega
 have hx:x=ofF (decide (N < 0)) N.natAbs D:=by
  rw [ofF,sg_self,Rat.mkRat_eq_div,<- h,Rat.div_def]
  have:=Rat.mul_inv_cancel _ hd
  have e:((D:Nat):Rat)=((D:Int):Rat):=rfl
  rw [e]
  grind
 rw [hx]
 exact fewQ_ofF (by omega) (nB_bound hN) (nB_bound hD)
def thS (r:Rn) (l:List Spn) (A:List Int) (a:Nat) (s:Int):Prop:=∃ j:Nat,A[j]?=some s/\(kL r l)[j]?=some a
section
variable {t:Bool}{r:Rn}{l:List Spn}{x:Int}{A:List Int}
theorem th_cnt {a:Nat}{s:Int} (h:thS r l A a s):0 < cntX (prL r l A) (sIx r s) a:=by
 obtain ⟨j,h1,h2⟩:=h
 unfold cntX
 have:0 < (prL r l A).count (sIx r s,a):=by
  refine List.count_pos_iff.2 (List.mem_of_getElem? (i:=j) ?_)
  rw [prL,List.getElem?_zip_eq_some]
  exact ⟨by rw [List.getElem?_map,h1];rfl,h2⟩
 omega
theorem cnt_th {a s:Nat} (h:0 < cntX (prL r l A) s a):∃ st,thS r l A a st/\sIx r st=s:=by
 unfold cntX at h
 have h1:0 < (prL r l A).count (s,a):=by omega
 obtain ⟨j,hj,e⟩:=List.mem_iff_getElem.1 (List.count_pos_iff.1 h1)
 have e2:(prL r l A)[j]?=some (s,a):=by rw [List.getElem?_eq_getElem hj,e]
 rw [prL,List.getElem?_zip_eq_some] at e2
 obtain ⟨e3,e4⟩:=e2
 rw [List.getElem?_map] at e3
 cases e5:A[j]? with
 | none=>rw [e5] at e3;cases e3
 | some st =>
  rw [e5] at e3
  exact ⟨st,⟨j,e5,e4⟩,by simpa using e3⟩
theorem th_tab (h0:r.tab.length≠0) (ha:AgP r A) {a:Nat}{s:Int} (h:thS r l A a s):sIx r s < r.tab.length/\tbS r (sIx r s)=s:=by
 obtain ⟨j,h1,_⟩:=h
 exact sIx_at (tabS_mem ((ha.tabm h0).mem_iff.1 (List.mem_of_getElem? h1)))
def gS (t:Bool) (r:Rn) (l:List Spn) (s c:Nat):Rat:=sgR t (clsG l (clsAt r l c) (s:Int))
theorem gS_gT (h0:r.tab.length≠0) (ha:AgP r A) {a c:Nat}{s:Nat} (h:thS r l A a s):gS t r l s c=sgR t (gT l r (sIx r s) c):=by
 rw [gS,gT,(th_tab h0 ha h).2]
def dM (t:Bool) (r:Rn) (l:List Spn):Nat:=denM (fun s c=>sgR t (gT l r s c)) r.tab.length (clsE r l).length
theorem pot_init (hb:BestR t l r A) (h:OkR r) (h0:r.tab.length≠0) (hl:InOrd x l) :
  ∃ pi,PotInv (clsE r l).length (fun a s=>thS r l A a s) (gS t r l) ((dM t r l:Int):Rat) (-(2*((256 ^ 10000000:Nat):Int)*(dM t r l:Int))) pi (fun _=>0):=by
 obtain ⟨ha,_,hp⟩:=hb
 obtain ⟨pi,hf,hp⟩:=hp h0
 refine ⟨_,pot_start (pi:=pi) (Rat.intCast_pos.2 (by have:=denM_pos (fun s c=>sgR t (gT l r s c)) r.tab.length (clsE r l).length;unfold dM;omega)) (fun b hb=>few_abs (hf b hb)) Rat.le_refl (Int.natCast_nonneg _) fun a b s hac hbc hs=>?_⟩
 have hg:=fun c=>gS_gT (t:=t) (c:=c) h0 ha hs
 rw [hg,hg]
 exact hp _ a b (th_tab h0 ha hs).1 hac hbc (th_cnt hs)
theorem pot_iq (h0:r.tab.length≠0) (ha:AgP r A):∀ s c,c < (clsE r l).length->(∃ a,a < (clsE r l).length/\thS r l A a (s:Nat))->∃ N:Int,gS t r l s c*((dM t r l:Int):Rat)=(N:Rat):=fun s c hc ⟨a,_,hs⟩=>by
 rw [gS_gT h0 ha hs]
 exact denM_iq (fun s c=>sgR t (gT l r s c)) (th_tab h0 ha hs).1 hc
theorem pot_few {k:Nat}{pi v:Nat->Rat}{th:Nat->Nat->Prop}{g:Nat->Nat->Rat}{n D:Nat}{B:Nat} (hI:PotInv n th g ((D:Int):Rat) (-(2*(B:Int)*(D:Int))) pi v) (h0:0 < D) (hD:D < 256 ^ k) (hB:2*B*D < 256 ^ k) {b:Nat} (hb:b < n) (hv:v b<=0):fewQ k (rQ (v b)):=by
 obtain ⟨N,hN⟩:=hI.iq b hb
 have hD0:(0:Rat) < ((D:Int):Rat):=Rat.intCast_pos.2 (by omega)
 have h1:=hI.num hD0 hb
 rw [hN,Rat.num_intCast] at h1
 have h2:N<=0:=by
  have:=Rat.mul_le_mul_of_nonneg_right hv (Rat.le_of_lt hD0)
  rw [hN,Rat.zero_mul] at this
  exact Rat.intCast_le_intCast.1 (show (N:Rat)<=((0:Int):Rat) from this)
 refine few_of hN h0 hD ?_
 have e:(((2*B*D:Nat):Int))=2*(B:Int)*(D:Int):=by rw [Int.natCast_mul,Int.natCast_mul];rfl
 omega
theorem pot_end (h:OkR r) (h0:r.tab.length≠0) (hl:InOrd x l) (ha:AgP r A) {v:Nat->Rat}{p:Prf}
  (hv:∀ a b s,a < (clsE r l).length->b < (clsE r l).length->thS r l A a s->¬ sgR t (v a+clsG l (clsAt r l b) s-clsG l (clsAt r l a) s) < sgR t (v b))
  (h1:∀ c,c < (clsE r l).length->vP p c=v c) (h2:∀ s,s < r.tab.length->sgR t (uP p s)=leastU (fun s c=>sgR t (gT l r s c)) (fun c=>sgR t (v c)) s (clsE r l).length) :
  certB t l r p=true/\tabV l r p=volSum l r.from_ A:=by
 refine pot_val h h0 hl ha (fun s a b hs hac hbc hpos=>?_) h1 h2
 obtain ⟨st,hst,e⟩:=cnt_th hpos
 have h3:=hv a b st hac hbc hst
 have h4:=(th_tab h0 ha hst).2
 rw [sgR_sub,sgR_add] at h3
 rw [<- e,gT,gT,h4]
 grind
end
end Go.Proofs.YtjcecdmbfmccoaaGreatDoor
/-
 Plain: what the laws of proofs say: soundness,completeness,exactness.
-/
namespace Go.Proofs.YtjcecdmbfmccoaaGreatDoor
open Go.RowKit Go.Sl Go.Num
def f0R (rs:List Rn):Int:=(headD' rs).from_
theorem spans_in {l:List Spn}:∀ {x:Int},InOrd x l->(∀ s∈l,x<=s.from_)/\∀ s∈l,s.to_<=(l.getLast?.map (·.to_)).getD 0:=by
 induction l with
 | nil=>intro x _;exact ⟨fun s hs=>absurd hs List.not_mem_nil,fun s hs=>absurd hs List.not_mem_nil⟩
 | cons y l ih =>
  intro x h
  obtain ⟨h1,h2⟩:=ih h.2.2
  have hy:=h.2.1
  refine ⟨fun s hs=>?_,fun s hs=>?_⟩
  ·rcases List.mem_cons.1 hs with rfl|hs
   ·exact h.1
   ·have:=h1 s hs;have:=h.1;omega
  ·cases l with
   | nil =>
    rcases List.mem_cons.1 hs with rfl|hs
    ·exact Int.le_refl _
    ·cases hs
   | cons z l =>
    have e:((y::z::l).getLast?.map (·.to_)).getD 0=((z::l).getLast?.map (·.to_)).getD 0:=by rw [List.getLast?_cons_cons]
    rw [e]
    rcases List.mem_cons.1 hs with rfl|hs
    ·have a:=h1 z (List.mem_cons_self ..)
     have b:=h2 z (List.mem_cons_self ..)
     have:=h.2.2.2.1
     omega
    ·exact h2 s hs
theorem inOrd0 {l:List Spn} (h:spansErr l=0):InOrd 0 l:=inOrd_of (by unfold spansErr at h;split at h;cases h;exact h)
theorem inOrd_head {l:List Spn} (h:spansErr l=0):InOrd ((l.head?.map (·.from_)).getD 0) l:=by
 have h0:=inOrd0 h
 cases l with
 | nil=>trivial
 | cons s l=>exact ⟨Int.le_refl _,h0.2⟩
theorem chk_in {rs:List Rn}{l:List Spn} (h:chkE rs l=0) (h0:rs≠[]):∀ s∈l,(headD' rs).from_<=s.from_/\s.to_<=(lastD rs).to_:=fun s hs=>by
 obtain ⟨h1,h2⟩:=chk_ok h
 unfold chkE at h
 rw [if_neg (by omega),if_neg (by omega)] at h
 have hne:¬ (0 < l.length/\(rs.length=0∨(l.head?.map (·.from_)).getD 0 < (headD' rs).from_∨(lastD rs).to_ < (l.getLast?.map (·.to_)).getD 0)):=fun hc=>by rw [if_pos hc] at h;cases h
 have hl:0 < l.length:=List.length_pos_of_mem hs
 have a:=(spans_in (inOrd_head h2)).1 s hs
 have b:=(spans_in (inOrd_head h2)).2 s hs
 refine ⟨?_,?_⟩
 ·refine Int.not_lt.1 fun hlt=>hne ⟨hl,.inr (.inl (by omega))⟩
 ·refine Int.not_lt.1 fun hlt=>hne ⟨hl,.inr (.inr (by omega))⟩
theorem agr_ok {rs:List Rn}{f:Int}{S:List Int} (h:runsErr rs=0) (ha:agreeB rs f S=true):AgS rs S/\(rs≠[]->f=(headD' rs).from_)/\(rs=[]->rightH f S=true):=by
 by_cases h0:rs=[]
 ·subst h0
  rw [agreeB_nil,Bool.and_eq_true,decide_eq_true_eq] at ha
  exact ⟨List.eq_nil_of_length_eq_zero ha.2,fun h=>absurd rfl h,fun _=>ha.1⟩
 ·obtain ⟨h1,h2⟩:=(agreeB_iff h h0).1 ha
  exact ⟨h2,fun _=>h1,fun h=>absurd h h0⟩
theorem vol_f0 {rs:List Rn}{l:List Spn}{f:Int}{S:List Int} (ha:AgS rs S) (hf:rs≠[]->f=(headD' rs).from_):volSum l f S=volSum l (f0R rs) S:=by
 by_cases h0:rs=[]
 ·subst h0
  rw [show S=[] from ha];rfl
 ·rw [hf h0];rfl
theorem right_of {rs:List Rn}{S:List Int} (h:runsErr rs=0) (h0:rs≠[]) (ha:AgS rs S):rightH (headD' rs).from_ S=true/\(S.length:Int)=(lastD rs).to_-(headD' rs).from_:=by
 obtain ⟨ho,_,hc⟩:=runs_ok h
 obtain ⟨hc,hle⟩:=hc h0
 have hlen:=ha.len hc ho
 have hb:=ha.bd' ho
 have hm:headD' rs∈rs:=by
  unfold headD'
  cases rs with
  | nil=>exact absurd rfl h0
  | cons a b=>exact List.mem_cons_self ..
 have hm2:lastD rs∈rs:=by
  unfold lastD
  cases e:rs.getLast? with
  | none=>rw [List.getLast?_eq_none_iff] at e;exact absurd e h0
  | some x=>exact List.mem_of_mem_getLast? e
 have r1:=(ho _ hm).rng
 have r2:=(ho _ hm2).rng
 refine ⟨?_,by omega⟩
 rw [rightH,Bool.and_eq_true,decide_eq_true_eq]
 refine ⟨⟨by omega,r1.1,by omega⟩,?_⟩
 rw [Bool.not_eq_true',List.any_eq_false]
 intro y hy
 have:=hb y hy
 simp [badSt];omega
theorem vol_ok {rs:List Rn}{l:List Spn}{f:Int}{S:List Int} (h:chkE rs l=0) (ha:agreeB rs f S=true):volE f S l=(rQ (volSum l (f0R rs) S),0):=by
 obtain ⟨h1,h2⟩:=chk_ok h
 obtain ⟨a1,a2,a3⟩:=agr_ok h1 ha
 rw [<- vol_f0 a1 a2,volE,if_neg (by omega)]
 by_cases h0:rs=[]
 ·have hl:l=[]:=by
   refine Classical.byContradiction fun hl=>?_
   subst h0
   unfold chkE at h
   rw [if_neg (by omega),if_neg (by omega),if_pos ⟨List.length_pos_iff.2 hl,.inl rfl⟩] at h
   cases h
  subst hl
  rw [a3 h0,if_neg (by decide),if_neg (by simp)]
 ·obtain ⟨r1,r2⟩:=right_of h1 h0 a1
  rw [a2 h0,r1,if_neg (by decide),if_neg]
  rw [Bool.not_eq_true,List.any_eq_false]
  intro s hs
  have:=chk_in h h0 s hs
  simp only [outH,Bool.or_eq_true,decide_eq_true_eq]
  omega
section
variable {t:Bool}{rs:List Rn}{l:List Spn}{S T:List Int}
theorem best_cn (h:runsErr rs=0):∃ e,Cn (f0R rs) rs e:=by
 by_cases h0:rs=[]
 ·subst h0;exact ⟨_,rfl⟩
 ·exact ⟨_,((runs_ok h).2.2 h0).1⟩
theorem best_le (h:chkE rs l=0) (hb:BestS t l rs S) (ha:AgS rs T):sgR t (volSum l (f0R rs) S)<=sgR t (volSum l (f0R rs) T):=by
 obtain ⟨h1,h2⟩:=chk_ok h
 obtain ⟨e,hc⟩:=best_cn h1
 exact BestS.le (inOrd0 h2) (spansErr_ok h2).2 hc (runs_ok h1).1 hb ha
theorem best_uni (h:chkE rs l=0) (hb:BestS t l rs S) (hb':BestS t l rs T):volSum l (f0R rs) S=volSum l (f0R rs) T:=by
 have h1:=best_le h hb hb'.ag
 have h2:=best_le h hb' hb.ag
 exact sgR_inj (t:=t) (Std.le_antisymm h1 h2)
theorem sound {ps:List Prf} (h:(valE t rs l ps).2=0) (ha:AgS rs S):sgR t (valL t l rs ps)<=sgR t (volSum l (f0R rs) S):=by
 obtain ⟨c1,c2,_,c4,_⟩:=val_ok h
 obtain ⟨h1,h2⟩:=chk_ok c1
 obtain ⟨e,hc⟩:=best_cn h1
 exact val_sound (inOrd0 h2) (spansErr_ok h2).2 hc (runs_ok h1).1 c2 c4 ha
end
structure Shp where
 lo:Q3
 hi:Q3
 lf:Int
 ls:List Int
 hf:Int
 hs:List Int
 lp:List Prf
 hp:List Prf
def holdB (rs:List Rn) (l:List Spn) (s:Shp):Bool:=decide ((valE false rs l s.lp).2=0) && decide ((valE true rs l s.hp).2=0) && decide (0<=sgnR (qR (valE false rs l s.lp).1-qR s.lo)) && decide (sgnR (qR (valE true rs l s.hp).1-qR s.hi)<=0)
def attB (rs:List Rn) (l:List Spn) (s:Shp):Bool:=decide (chkE rs l=0) && agreeB rs s.lf s.ls && agreeB rs s.hf s.hs && decide ((volE s.lf s.ls l).2=0) && decide ((volE s.hf s.hs l).2=0) && decide ((volE s.lf s.ls l).1=s.lo) && decide ((volE s.hf s.hs l).1=s.hi)
def accB (rs:List Rn) (l:List Spn) (s:Shp):Bool:=holdB rs l s && attB rs l s
theorem sgn_nn2 {x:Rat}:0<=sgnR x ↔ 0<=x:=by
 have h:=sgn_nn' (x:=x)
 constructor
 ·intro h1;exact h (by omega)
 ·intro h1
  unfold sgnR
  repeat' split
  all_goals first
   | omega
   | (exfalso;grind)
theorem sgn_np2 {x:Rat}:sgnR x<=0 ↔ x<=0:=by
 unfold sgnR
 constructor
 ·intro h1
  repeat' split at h1
  all_goals first
   | grind
   | (exfalso;omega)
 ·intro h1
  repeat' split
  all_goals first
   | omega
   | (exfalso;grind)
section
variable {rs:List Rn}{l:List Spn}{S T:List Int}
theorem acc_of {s:Shp} (h:chkE rs l=0) (hS:BestS false l rs s.ls) (hT:BestS true l rs s.hs) (hf:agreeB rs s.lf s.ls=true) (hg:agreeB rs s.hf s.hs=true) (hp:valE false rs l s.lp=(rQ (volSum l (f0R rs) s.ls),0)) (hq:valE true rs l s.hp=(rQ (volSum l (f0R rs) s.hs),0)) (hlo:s.lo=rQ (volSum l (f0R rs) s.ls)) (hhi:s.hi=rQ (volSum l (f0R rs) s.hs)):accB rs l s=true:=by
 unfold accB holdB attB
 rw [hp,hq,vol_ok h hf,vol_ok h hg,hlo,hhi,hf,hg,Rat.sub_self,Rat.sub_self,h]
 simp [sgnR]
end
end Go.Proofs.YtjcecdmbfmccoaaGreatDoor
/-
 Rows that are numbered: blocks each of which is written by its place.
-/
namespace Go.Sl
open Go.RowKit
theorem RAt.nth {r:Row}{M0:List Row}:∀ {R:List Row}{i:Nat},R[i]?=some r->RAt r (R++M0) (fun r'=>R.set i r'++M0)
 | [],i,h=>by cases h
 | s::R,0,h=>by cases h;exact RAt.head
 | s::R,i+1,h=>RAt.tail (RAt.nth (R:=R) (i:=i) h)
theorem RAt.app {r:Row}{M0:List Row}{F:Row->List Row} (h:RAt r M0 F):∀ R:List Row,RAt r (R++M0) (fun r'=>R++F r')
 | []=>h
 | _::R=>RAt.tail (h.app R)
def rws {X:Type} (F:X->Row) (T:List X):List Row:=T.map F
section
variable {X:Type}{F:X->Row}{T:List X}{M0:List Row}
theorem rws_get {i:Nat} (h:i < T.length):(rws F T)[i]?=some (F T[i]):=by rw [rws,List.getElem?_map,List.getElem?_eq_getElem h];rfl
theorem rws_mem {i:Nat} (h:i < T.length):F T[i]∈rws F T++M0:=List.mem_append_left _ (List.mem_of_getElem? (rws_get h))
theorem rws_at {i:Nat} (h:i < T.length):RAt (F T[i]) (rws F T++M0) (fun r'=>(rws F T).set i r'++M0):=RAt.nth (rws_get h)
theorem rws_set (i:Nat) (x:X):(rws F T).set i (F x)=rws F (T.set i x):=by rw [rws,rws,List.map_set]
theorem rws_snoc (T:List X) (x:X):rws F (T++[x])=rws F T++[F x]:=by rw [rws,List.map_append];rfl
end
theorem perm_in {r:Row}{R:List Row}:∀ pre:List Row,(r::(pre++R)).Perm (pre++(r::R)):=fun pre=>(List.perm_middle (a:=r) (l₁:=pre) (l₂:=R)).symm
theorem J.tabSnoc {X:Type}{F:X->Row}{T:List X}{C:Ctx}{st:List (Nat×Value)}{R:List Row}{k:List Item} (pre:List Row) (x:X) (h:J C st (pre++(rws F (T++[x])++R)) k):J C st (F x::(pre++(rws F T++R))) k:=by
 refine J.perm ?_ h
 refine (perm_in pre).trans (List.Perm.append_left pre ?_)
 rw [rws_snoc,List.append_assoc]
 exact perm_in (rws F T)
theorem setL_one (cs:List Value) (j:Nat) (v:Value):setL cs j [v]=cs.set j v:=rfl
theorem setL_all {cs vs:List Value} (h:vs.length=cs.length):setL cs 0 vs=vs:=by
 rw [setL_eq _ _ _ (by omega),List.take_zero,List.nil_append,List.drop_of_length_le (by omega),List.append_nil]
theorem zeroCells_flat {z:Array Value}{sz:Nat} (hz:z.size=sz) (h0:0 < sz) (n:Nat):(Builtin.zeroCells z n).toList=flat (fun x:List Value=>x) (List.replicate n z.toList):=by
 rw [<- madeCells_flat hz h0 n]
 subst hz
 rfl
theorem G.clrN {C:Ctx}{st:List (Nat×Value)}{M:List Row}{k:List Item}{q q':Md}{all rest:List Oper}{ty:TypeId}{pos:String}{after:Array Edge}{gd:Option (Nat×Bool)}
  {T E sz n c bytes b o tot:Nat}{z:Value} (zc:List Value) {x:Operand}{e:TypeId}{cs:List Value}{F:Row->List Row} (hs:wqB all st gd q.res=some q') (hx:evS st x=some (.slice (some ⟨b,o,none⟩) n c)) (hm:RAt (.blk b e cs tot) M F) [hT:TElem C.P T E z sz bytes] (hz:z.cells=zc.toArray) (hzl:zc.length=sz) (h0:0 < sz) (h1:zc.all (·.oneCell')=true) (hzr:∀ w,(zeroValue E).run C.P w=.ok z w) (ho:o+n*sz<=cs.length)
  (h:G q' C all st (F (.blk b e (setL cs o (flat (fun x:List Value=>x) (List.replicate n zc))) tot)) rest k) :
  G q C all st M ({ dst:=none,op:=.call { callee:=.builtin .clear,args:=#[x],argTypes:=#[T] },type:=ty,pos,after,guard:=gd }::rest) k:=by
 obtain ⟨g1,g3⟩:=wqB_ok hs
 obtain ⟨i,h5,h6⟩:=hm.idx
 rw [<- h6] at h
 have hlen:(flat (fun x:List Value=>x) (List.replicate n zc)).length=n*sz:=by
  clear ho h hx
  induction n with
  | zero=>simp [flat]
  | succ n ih=>rw [List.replicate_succ,flat_cons,List.length_append,ih,Nat.succ_mul,hzl];omega
 refine G.res g1 rfl g3 (Eff.valN fun a w hf hw=>?_)
 obtain ⟨w',h7,h8⟩:=hw.setRow h5 (j:=o) (vs:=flat (fun x:List Value=>x) (List.replicate n zc)) (by rw [hlen];exact ho) (fun v hv=>by
  obtain ⟨l,hl,hv⟩:=List.mem_flatten.1 hv
  obtain ⟨y,hy,rfl⟩:=List.mem_map.1 hl
  rw [List.eq_of_mem_replicate hy] at hv
  exact List.all_eq_true.1 h1 v hv) C.P
 refine ⟨.tuple #[],w',_,?_,h8,h⟩
 have hu:∀ w,(underlying T).run C.P w=.ok (.slice E) w:=fun w=>by simp [underlying,hT.h1]
 cases n with
 | zero =>
  have:w'=w:=by
   have h9:=h7
   simp only [List.replicate,flat,List.map_nil,List.flatten_nil,storeCells] at h9
   cases h9;rfl
  subst this
  simp [execOp,resolve,hf.eval hx,invoke,builtin,Builtin.clear_,hu]
 | succ n =>
  have hzf:=zeroCells_flat (z:=zc.toArray) (sz:=sz) (by simpa using hzl) h0 (n+1)
  simp [execOp,resolve,hf.eval hx,invoke,builtin,Builtin.clear_,hu,hzr,hz,hzf,h7]
def NwL {A:Type} (sz:Nat) (f:A->List Value) (F:Value->Value) (w:World) (L:List A) (e:Ending) (w':World):Prop :=
 ∃ a' c',e=.returned (F (.slice a' L.length c'))/\SlAt w' a' sz (L.map f)/\(∀ p,a'=some p->w.heap.size<=p.block)/\Below w.heap.size w w'
section
variable {A:Type}{sz:Nat}{f:A->List Value}
theorem satL {w0 w:World}{M:List Row}{i E base:Nat}{a:Option Addr}{n c:Nat}{l:List A} (hf:∀ x,(f x).length=sz) (hw:Sat w0 M w) (hm:M[i]?=some (.own base (.slice a n c) E sz n (flat f l))) (hn:l.length=n) (F:Value->Value):NwL sz f F w0 l (.returned (F (.slice a n c))) w:=by
 have hmem:=List.mem_of_getElem? hm
 exact ⟨a,c,by rw [hn],SlAt.ofOwn hf (hw.hold _ hmem) hn,fun p hp=>((hw.old _ hmem).2 p.block (by subst hp;rfl)).1,hw.below⟩
theorem satO {w0 w:World}{M:List Row}{i E base n:Nat}{v:Value}{l:List A} (hf:∀ x,(f x).length=sz) (hw:Sat w0 M w) (hm:M[i]?=some (.own base v E sz n (flat f l))) (hn:l.length=n) (F:Value->Value):NwL sz f F w0 l (.returned (F v)) w:=by
 have hmem:=List.mem_of_getElem? hm
 have h:=hw.hold _ hmem
 obtain ⟨_,h2⟩:=h
 rcases h2 with ⟨h3,h4⟩|⟨g,cap,cur,h3,_⟩
 ·subst h3 h4
  exact satL hf hw hm hn F
 ·subst h3
  exact satL hf hw hm hn F
theorem satB {w0 w:World}{M:List Row}{B E tot:Nat}{l:List A}{n c:Nat} (hf:∀ x,(f x).length=sz) (hw:Sat w0 M w) (hm:Row.blk B E (flat f l) tot∈M) (hn:l.length=n) (F:Value->Value):NwL sz f F w0 l (.returned (F (.slice (some ⟨B,0,none⟩) n c))) w :=
 ⟨some ⟨B,0,none⟩,c,by rw [hn],SlAt.ofBlk hf hw hm,(fun p hp=>by cases hp;exact ((hw.old _ hm).2 _ rfl).1),hw.below⟩
variable {C:Ctx}{st:List (Nat×Value)}{M:List Row}{k:List Item}{q q':Md}{all rest:List Oper}{d:Nat}{ty:TypeId}{pos:String}{after:Array Edge}{gd:Option (Nat×Bool)}
theorem G.cL {g:FuncId}{args:List Operand}{vs:List Value}{at_:Array TypeId} (F:Value->Value) (L:List A) (ha:evL st args=some vs) (hs:sideB all st gd d C.N q.ext=some q') [hF:Fun C.P g]
  (hc:∀ w,Sat C.w0 M w->Calls C.P g vs.toArray w (NwL sz f F w L))
  (h:∀ a' c',(0 < L.length->∃ b off,a'=some ⟨b,off,none⟩)->(∀ p,a'=some p->C.w0.heap.size<=p.block)->G q' C all ((d,F (.slice a' L.length c'))::st) (slRow C.w0.heap.size a' sz (L.map f)::M) rest k) :
  G q C all st M ({ dst:=some d,op:=.call { callee:=.value (.func g),args:=args.toArray,argTypes:=at_ },type:=ty,pos,after,guard:=gd }::rest) k:=by
 refine G.cNq (sz:=sz) (fun _ _=>True) (fun a c=>F (.slice a L.length c)) (L.map f) ha hs (fun w hw=>(hc w hw).mono fun e w' hh=>?_) fun a' c' h1 h2 _=>h a' c' (fun h0=>h1 (by rwa [List.length_map])) h2
 obtain ⟨a',c',h1,h2,h3,h4⟩:=hh
 exact ⟨a',c',h1,h2,h3,h4,trivial⟩
end
end Go.Sl
/-
 Contracts of the rational numbers in short forms;Neg,Min,Max,and sums.
-/
namespace Go.Proofs.YtjcecdmbfmccoaaGreatDoor
open Go.RowKit Go.Sl Go.Num
def big (x:Rat):Prop:=fewQ 60000000 (rQ x)
theorem big.a {x:Rat} (h:big x):(rQ x).num.length<=134217000/\(rQ x).den.length<=134217000:=⟨Nat.le_trans h.1 (by decide),Nat.le_trans h.2 (by decide)⟩
theorem fewQ.big {x:Rat}{k:Nat} (h:fewQ k (rQ x)) (hk:k<=60000000):big x:=fewQ_le h hk
theorem vAdd {x y:Rat} (hx:big x) (hy:big y) (w:World):Calls Tryz.prog 27 #[qA (rQ x),qA (rQ y)] w fun e w'=>e=.returned (qA (rQ (x+y)))/\Below w.heap.size w w':=by
 have h:=ratAdd_holds (rQ x) (rQ y) w (by have:=hx.a;omega) (by have:=hx.a;omega) (by have:=hy.a;omega) (by have:=hy.a;omega)
 rwa [qR_rQ,qR_rQ] at h
theorem vSub {x y:Rat} (hx:big x) (hy:big y) (w:World):Calls Tryz.prog 28 #[qA (rQ x),qA (rQ y)] w fun e w'=>e=.returned (qA (rQ (x-y)))/\Below w.heap.size w w':=by
 have h:=ratSub_holds (rQ x) (rQ y) w (by have:=hx.a;omega) (by have:=hx.a;omega) (by have:=hy.a;omega) (by have:=hy.a;omega)
 rwa [qR_rQ,qR_rQ] at h
theorem vMul {x y:Rat} (hx:big x) (hy:big y) (w:World):Calls Tryz.prog 83 #[qA (rQ x),qA (rQ y)] w fun e w'=>e=.returned (qA (rQ (x*y)))/\Below w.heap.size w w':=by
 have h:=ratMul_holds (rQ x) (rQ y) w (by have:=hx.a;omega) (by have:=hx.a;omega) (by have:=hy.a;omega) (by have:=hy.a;omega)
 rwa [qR_rQ,qR_rQ] at h
theorem vCmp {x y:Rat} (hx:big x) (hy:big y) (w:World):Calls Tryz.prog 22 #[qA (rQ x),qA (rQ y)] w fun e w'=>e=.returned (.int .i64 (sgnR (x-y)))/\Below w.heap.size w w':=by
 have h:=ratCmp_holds (rQ x) (rQ y) w (by have:=hx.a;omega) (by have:=hx.a;omega) (by have:=hy.a;omega) (by have:=hy.a;omega)
 rwa [qR_rQ,qR_rQ] at h
theorem vNeg {x:Rat} (hx:big x) (w:World):Calls Tryz.prog 145 #[qA (rQ x)] w fun e w'=>e=.returned (qA (rQ (-x)))/\Below w.heap.size w w':=by
 have ax:=hx.a
 have hfa:fLe (frac zero3) 134217000:=frac_le (Nat.zero_le _) (Nat.zero_le _) (by decide)
 have hfb:fLe (frac (rQ x)) 134217000:=frac_le ax.1 ax.2 (by decide)
 obtain ⟨e1,d1⟩:=frac_eq zero3
 obtain ⟨e2,d2⟩:=frac_eq (rQ x)
 obtain ⟨e3,d3⟩:=fplus_eq (s:=(frac zero3).1) (t:=!(frac (rQ x)).1) (n:=(frac zero3).2.1) (m:=(frac (rQ x)).2.1) d1 d2
 have hle:=fplus_le (g:=(!(frac (rQ x)).1,(frac (rQ x)).2.1,(frac (rQ x)).2.2)) hfa hfb
 have hdo:=fun w'=>do_holds 63 (frA (frac zero3)) (rQ x) _ w' (by omega) (by omega) (fun w2=>less_f (frac zero3) (frac (rQ x)) w2 ⟨Nat.le_trans hfa.1 (by decide),Nat.le_trans hfa.2 (by decide)⟩ ⟨Nat.le_trans hfb.1 (by decide),Nat.le_trans hfb.2 (by decide)⟩) ⟨Nat.le_trans hle.1 (by decide),Nat.le_trans hle.2 (by decide)⟩ d3
 rw [e3,e1,<- ofF_neg,e2,qR_rQ,show qR zero3=0 from rfl,Rat.zero_add] at hdo
 have e0:frA (frac zero3)=.agg #[.bool false,.string (bs []),.string (bs [1])]:=by kernel_rfl
 rw [e0] at hdo
 generalize rQ (-x)=R at *
 generalize rQ x=q at *
 clear hle hfa hfb d3 e3 e2 e1 d1 d2
 refine enterA [(0,qA q)] Tryz.func145 Tryz.ntmps145 ?_
 repeat' first|(refine gp ?_;and_intros<;>first|exact trivial|repeat first|intro(Bk:Nat)|intro h)|(apply G.cV (g:=69);rfl;rfl;exact fun w' _=>hdo w')
 all_goals refine ret1b Tryz.func145 Tryz.results145 ?_
 all_goals rfl
theorem vInt {n:Int} (h1:-999999999999999<=n) (h2:n<=999999999999999) (w:World):Calls Tryz.prog 35 #[.int .i64 n] w fun e w'=>e=.returned (qA (rQ (n:Rat)))/\Below w.heap.size w w':=int_holds n w h1 h2
theorem chk_ix {rs:List Rn}{l:List Spn} (hr:0 < rs.length) (hl:0 < l.length):headD' rs=rs[0]/\lastD rs=rs[rs.length-1]/\(l.head?.map (·.from_)).getD 0=l[0].from_/\(l.getLast?.map (·.to_)).getD 0=l[l.length-1].to_:=by
 refine ⟨?_,?_,?_,?_⟩
 ·cases rs with
  | nil=>exact absurd hr (Nat.lt_irrefl _)
  | cons a b=>rfl
 ·rw [lastD,List.getLast?_eq_getElem?,List.getElem?_eq_getElem (by omega),Option.getD_some]
 ·rw [List.head?_eq_getElem?,List.getElem?_eq_getElem hl];rfl
 ·rw [List.getLast?_eq_getElem?,List.getElem?_eq_getElem (by omega)];rfl
theorem bChk_holds (a:Option Addr) (rs:List Rn) (c:Nat) (b:Option Addr) (l:List Spn) (d:Nat) (w:World) (hA:RunsAt w a rs) (hf:∀ r∈rs,r.tab.length<=64) (hB:SpansAt w b l) (hg:∀ s∈l,fewS s) :
  Calls Tryz.prog 36 #[.slice a rs.length c,.slice b l.length d] w fun e w'=>e=.returned (.int .i64 (chkE rs l))/\Below w.heap.size w w':=by
 have hc1:=fun w' (hb:Below w.heap.size w w')=>vRuns_holds a rs c w' (hA.below hb) hf
 have hc2:=fun w' (hb:Below w.heap.size w w')=>spvCheck_holds b l d w' (hB.below hb) hg
 unfold chkE
 by_cases h1:runsErr rs=0
 ·rw [if_neg (fun h=>h h1)]
  have n1:=(runsErr_ok h1).1
  rw [h1] at hc1
  by_cases h2:spansErr l=0
  ·rw [if_neg (fun h=>h h2)]
   have n2:=(spansErr_ok h2).1
   rw [h2] at hc2
   by_cases h3:l.length=0
   ·rw [if_neg (by omega)]
    refine enterA [(0,.slice a rs.length c),(1,.slice b l.length d)] Tryz.func36 Tryz.ntmps36 ?_
    repeat' first|(refine gp ?_;and_intros<;>first|exact trivial|repeat first|intro(Bk:Nat)|intro h)|(apply G.cV (g:=54);rfl;rfl;exact fun w' hw=>hc1 w' hw.below)|(apply G.cV (g:=58);rfl;rfl;exact fun w' hw=>hc2 w' hw.below)
    all_goals refine ret1b Tryz.func36 Tryz.results36 ?_
    all_goals rfl
   ·by_cases h4:rs.length=0
    ·rw [if_pos ⟨by omega,.inl h4⟩]
     refine enterA [(0,.slice a rs.length c),(1,.slice b l.length d)] Tryz.func36 Tryz.ntmps36 ?_
     repeat' first|(refine gp ?_;and_intros<;>first|exact trivial|repeat first|intro(Bk:Nat)|intro h)|(apply G.cV (g:=54);rfl;rfl;exact fun w' hw=>hc1 w' hw.below)|(apply G.cV (g:=58);rfl;rfl;exact fun w' hw=>hc2 w' hw.below)
     all_goals refine ret1b Tryz.func36 Tryz.results36 ?_
     all_goals rfl
    ·obtain ⟨e1,e2,e3,e4⟩:=chk_ix (rs:=rs) (l:=l) (by omega) (by omega)
     rw [e1,e2,e3,e4]
     obtain ⟨ba,oa,rfl,hra⟩:=SlAt.all hA.1 (by omega)
     obtain ⟨bb,ob,rfl,hrb⟩:=SlAt.all hB.1 (by omega)
     have r0:=hra 0 (by omega)
     have r1:=hra (rs.length-1) (by omega)
     have s0:=hrb 0 (by omega)
     have s1:=hrb (l.length-1) (by omega)
     clear hra hrb e1 e2 e3 e4 hA hB hf hg
     generalize rs[0]=x0 at *
     generalize rs[rs.length-1]=x1 at *
     generalize l[0]=y0 at *
     generalize l[l.length-1]=y1 at *
     dsimp only [rnV,spV] at r0 r1 s0 s1
     refine enterA [(0,.slice (some ⟨ba,oa,none⟩) rs.length c),(1,.slice (some ⟨bb,ob,none⟩) l.length d)] Tryz.func36 Tryz.ntmps36 ?_
     repeat' first|(refine gp ?_;and_intros<;>first|exact trivial|repeat first|intro(Bk:Nat)|intro h)|(apply G.cV (g:=54);rfl;rfl;exact fun w' hw=>hc1 w' hw.below)|(apply G.cV (g:=58);rfl;rfl;exact fun w' hw=>hc2 w' hw.below)|(apply G.ix (i:=l.length-1);rfl;rfl;omega;omega;rfl)|(apply G.ix (i:=rs.length-1);rfl;rfl;omega;omega;rfl)
     all_goals refine ret1b Tryz.func36 Tryz.results36 ?_
     all_goals (first|rfl|(rw [if_pos (by omega)];done)|(rw [if_neg (by omega)];done))
  ·rw [if_pos h2]
   refine enterA [(0,.slice a rs.length c),(1,.slice b l.length d)] Tryz.func36 Tryz.ntmps36 ?_
   repeat' first|(refine gp ?_;and_intros<;>first|exact trivial|repeat first|intro(Bk:Nat)|intro h)|(apply G.cV (g:=54);rfl;rfl;exact fun w' hw=>hc1 w' hw.below)|(apply G.cV (g:=58);rfl;rfl;exact fun w' hw=>hc2 w' hw.below)
   all_goals refine ret1b Tryz.func36 Tryz.results36 ?_
   all_goals rfl
 ·rw [if_pos h1]
  refine enterA [(0,.slice a rs.length c),(1,.slice b l.length d)] Tryz.func36 Tryz.ntmps36 ?_
  repeat' first|(refine gp ?_;and_intros<;>first|exact trivial|repeat first|intro(Bk:Nat)|intro h)|(apply G.cV (g:=54);rfl;rfl;exact fun w' hw=>hc1 w' hw.below)
  all_goals refine ret1b Tryz.func36 Tryz.results36 ?_
  all_goals rfl
theorem sgn_le {x y:Rat}:sgnR (x-y)<=0 ↔ ¬ y < x:=by
 rw [sgn_np2]
 constructor
 ·intro h h1;grind
 ·intro h;grind
theorem sgn_ge {x y:Rat}:0<=sgnR (x-y) ↔ ¬ x < y:=by
 rw [sgn_nn2]
 constructor
 ·intro h h1;grind
 ·intro h;grind
def qW (x:Rat):List Value:=qV (rQ x)
theorem qW_len (x:Rat):(qW x).length=3:=rfl
def sumF (L:List Rat):Rat:=L.foldl (·+·) 0
theorem sumF_take {L:List Rat}{k:Nat} (h:k < L.length):sumF (L.take (k+1))=sumF (L.take k)+L[k]:=by
 unfold sumF
 rw [List.take_succ_eq_append_getElem h,List.foldl_append];rfl
theorem total_holds (a:Option Addr) (L:List Rat) (c:Nat) (w:World) (hA:SlAt w a 3 (L.map qW)) (hl:L.length<=1000000) (hb:∀ k,k<=L.length->big (sumF (L.take k))) (he:∀ x∈L,big x) :
  Calls Tryz.prog 127 #[.slice a L.length c] w fun e w'=>e=.returned (qA (rQ (sumF L)))/\Below w.heap.size w w':=by
 refine enterA [(0,.slice a L.length c)] Tryz.func127 Tryz.ntmps127 ?_
 all_goals (refine go ?_;and_intros<;>first|exact trivial|repeat first|intro(Bk:Nat)|intro h)
 refine J.loop (c:=_) ((0,zero3):Nat×Q3) (fun s=>L.length-s.1) (fun s=>[(2,.pointer (some ⟨_,0,none⟩)),(3,.pointer (some ⟨_,0,none⟩)),(6,.slice a L.length c),(7,.int .i64 L.length),(8,.int .i64 s.1)]) (fun s=>[.blk _ 25 [.bool s.2.neg,.string (bs s.2.num),.string (bs s.2.den)] 3,.blk _ 25 [.bool false,.string (bs []),.string (bs [])] 3]) (fun s=>s.1<=L.length/\s.2=rQ (sumF (L.take s.1))) ?_ sbT sbL ?_
 ·exact ⟨Nat.zero_le _,rfl⟩
 intro ⟨i,q⟩ ⟨h1,h2⟩ ih
 dsimp only at h1 h2 ⊢
 by_cases hi:i < L.length
 ·obtain ⟨ba,oa,rfl,hra⟩:=SlAt.all hA (by omega)
  have hri:=hra i hi
  have had:=vAdd (hb i h1) (he _ (List.getElem_mem hi))
  rw [<- sumF_take hi,<- h2] at had
  dsimp only [qW,qV] at hri
  have ih:=ih (i+1,rQ (sumF (L.take (i+1)))) ⟨hi,rfl⟩ (by dsimp only;omega)
  clear hra hb he
  generalize rQ (sumF (L.take (i+1)))=q2 at *
  generalize rQ L[i]=z at *
  obtain ⟨n1,u1,d1⟩:=q
  obtain ⟨n2,u2,d2⟩:=q2
  obtain ⟨n3,u3,d3⟩:=z
  dsimp only [qA] at *
  repeat' first|(refine gp ?_;and_intros<;>first|exact trivial|repeat first|intro(Bk:Nat)|intro h)|(apply G.cV (g:=27);rfl;rfl;exact fun w' _=>had w')
  exact J.fin ih
 ·obtain rfl:i=L.length:=by omega
  rw [List.take_length] at h2
  subst h2
  clear ih
  all_goals (refine go ?_;and_intros<;>first|exact trivial|repeat first|intro(Bk:Nat)|intro h)
  all_goals refine ret1b Tryz.func127 Tryz.results127 ?_
  all_goals rfl
theorem sum_holds' (a:Option Addr) (L:List Rat) (c:Nat) (w:World) (hA:SlAt w a 3 (L.map qW)) (hl:L.length<=1000000) (hb:∀ k,k<=L.length->big (sumF (L.take k))) (he:∀ x∈L,big x) :
  Calls Tryz.prog 82 #[.slice a L.length c] w fun e w'=>e=.returned (qA (rQ (sumF L)))/\Below w.heap.size w w':=by
 have ht:=fun w' (hb':Below w.heap.size w w')=>total_holds a L c w' (hA.below hb') hl hb he
 generalize rQ (sumF L)=q at *
 refine enterA [(0,.slice a L.length c)] Tryz.func82 Tryz.ntmps82 ?_
 repeat' first|(refine gp ?_;and_intros<;>first|exact trivial|repeat first|intro(Bk:Nat)|intro h)|(apply G.cV (g:=127);rfl;rfl;exact fun w' hw=>ht w' hw.below)
 all_goals refine ret1b Tryz.func82 Tryz.results82 ?_
 all_goals rfl
theorem pls_holds (a:Option Addr) (L:List Rat) (c:Nat) (w:World) (hA:SlAt w a 3 (L.map qW)) (hl:L.length<=1000000) (hb:∀ k,k<=L.length->big (sumF (L.take k))) (he:∀ x∈L,big x) :
  Calls Tryz.prog 40 #[.slice a L.length c] w fun e w'=>e=.returned (qA (rQ (sumF L)))/\Below w.heap.size w w':=by
 have ht:=fun w' (hb':Below w.heap.size w w')=>sum_holds' a L c w' (hA.below hb') hl hb he
 generalize rQ (sumF L)=q at *
 refine enterA [(0,.slice a L.length c)] Tryz.func40 Tryz.ntmps40 ?_
 repeat' first|(refine gp ?_;and_intros<;>first|exact trivial|repeat first|intro(Bk:Nat)|intro h)|(apply G.cV (g:=82);rfl;rfl;exact fun w' hw=>ht w' hw.below)
 all_goals refine ret1b Tryz.func40 Tryz.results40 ?_
 all_goals rfl
theorem zero_big:big 0:=fewQ_zero
theorem pls2 {w0 w:World}{M:List Row}{B E tot:Nat}{x y:Rat}{p q:Q3} (hw:Sat w0 M w) (hp:p=rQ x) (hq:q=rQ y) (hx:big x) (hy:big y) (hxy:big (x+y)) (hm:Row.blk B E [.bool p.neg,.string (bs p.num),.string (bs p.den),.bool q.neg,.string (bs q.num),.string (bs q.den)] tot∈M) :
  Calls Tryz.prog 40 #[.slice (some ⟨B,0,none⟩) 2 2] w fun e w'=>e=.returned (qA (rQ (x+y)))/\Below w.heap.size w w':=by
 subst hp hq
 have h:=pls_holds (some ⟨B,0,none⟩) [x,y] 2 w (SlAt.ofBlk (f:=qW) (l:=[x,y]) qW_len hw hm) (by simp) (fun k hk=>?_) fun z hz=>?_
 ·have e:sumF [x,y]=x+y:=by unfold sumF;simp [Rat.zero_add]
  rw [e] at h;exact h
 ·have h3:k=0∨k=1∨k=2:=by simp only [List.length_cons,List.length_nil] at hk;omega
  rcases h3 with rfl|rfl|rfl
  ·exact zero_big
  ·show big (0+x);rwa [Rat.zero_add]
  ·show big (0+x+y);rwa [Rat.zero_add]
 ·simp only [List.mem_cons,List.not_mem_nil,or_false] at hz
  rcases hz with rfl|rfl
  ·exact hx
  ·exact hy
theorem pls3 {w0 w:World}{M:List Row}{B E tot:Nat}{x y z:Rat}{p q r:Q3} (hw:Sat w0 M w) (hp:p=rQ x) (hq:q=rQ y) (hr:r=rQ z) (hx:big x) (hy:big y) (hz:big z) (hxy:big (x+y)) (hxyz:big (x+y+z)) (hm:Row.blk B E [.bool p.neg,.string (bs p.num),.string (bs p.den),.bool q.neg,.string (bs q.num),.string (bs q.den),.bool r.neg,.string (bs r.num),.string (bs r.den)] tot∈M) :
  Calls Tryz.prog 40 #[.slice (some ⟨B,0,none⟩) 3 3] w fun e w'=>e=.returned (qA (rQ (x+y+z)))/\Below w.heap.size w w':=by
 subst hp hq hr
 have h:=pls_holds (some ⟨B,0,none⟩) [x,y,z] 3 w (SlAt.ofBlk (f:=qW) (l:=[x,y,z]) qW_len hw hm) (by simp) (fun k hk=>?_) fun u hu=>?_
 ·have e:sumF [x,y,z]=x+y+z:=by unfold sumF;simp [Rat.zero_add]
  rw [e] at h;exact h
 ·have h3:k=0∨k=1∨k=2∨k=3:=by simp only [List.length_cons,List.length_nil] at hk;omega
  rcases h3 with rfl|rfl|rfl|rfl
  ·exact zero_big
  ·show big (0+x);rwa [Rat.zero_add]
  ·show big (0+x+y);rwa [Rat.zero_add]
  ·show big (0+x+y+z);rwa [Rat.zero_add]
 ·simp only [List.mem_cons,List.not_mem_nil,or_false] at hu
  rcases hu with rfl|rfl|rfl
  ·exact hx
  ·exact hy
  ·exact hz
theorem tms_holds {n:Int}{x:Rat} (h1:-999999999999999<=n) (h2:n<=999999999999999) (hx:big x) (w:World) :
  Calls Tryz.prog 41 #[.int .i64 n,qA (rQ x)] w fun e w'=>e=.returned (qA (rQ ((n:Rat)*x)))/\Below w.heap.size w w':=by
 have hi:=vInt h1 h2
 have hm:=vMul (fewQ.big (fewQ_int h1 h2) (by decide)) hx
 generalize rQ ((n:Rat)*x)=r at *
 generalize rQ x=q at *
 generalize rQ (n:Rat)=m at *
 obtain ⟨n1,u1,d1⟩:=q
 obtain ⟨n2,u2,d2⟩:=m
 obtain ⟨n3,u3,d3⟩:=r
 dsimp only [qA] at *
 refine enterA [(0,.int .i64 n),(1,.agg #[.bool n1,.string (bs u1),.string (bs d1)])] Tryz.func41 Tryz.ntmps41 ?_
 repeat' first|(refine gp ?_;and_intros<;>first|exact trivial|repeat first|intro(Bk:Nat)|intro h)|(apply G.cV (g:=35);rfl;rfl;exact fun w' _=>hi w')|(apply G.cV (g:=83);rfl;rfl;exact fun w' _=>hm w')
 all_goals refine ret1b Tryz.func41 Tryz.results41 ?_
 all_goals rfl
def isF (t:Bool):FuncId:=if t=true then 80 else 81
instance isFun (t:Bool):Fun Tryz.prog (isF t):=by cases t<;>(unfold isF;simp only [if_true,if_false,Bool.false_eq_true];exact inferInstance)
theorem is_hold (t:Bool) {x y:Rat} (hx:big x) (hy:big y) (w:World) :
  Calls Tryz.prog (isF t) #[qA (rQ x),qA (rQ y)] w fun e w'=>e=.returned (.bool (decide (sgR t x < sgR t y)))/\Below w.heap.size w w':=by
 have hc:=vCmp hx hy
 cases t
 ·show Calls Tryz.prog 81 _ _ _
  have hd:decide (sgR false x < sgR false y)=decide (sgnR (x-y) < 0):=by
   have:=sgn_ge (x:=x) (y:=y)
   rw [Bool.eq_iff_iff,decide_eq_true_eq,decide_eq_true_eq]
   show x < y ↔ _
   constructor
   ·intro h;exact Int.not_le.1 fun h1=>(this.1 h1) h
   ·intro h;exact Decidable.not_not.1 fun h1=>by have:=this.2 h1;omega
  rw [hd]
  generalize sgnR (x-y)=sg at *
  generalize rQ x=q at *
  generalize rQ y=r at *
  obtain ⟨n1,u1,d1⟩:=q
  obtain ⟨n3,u3,d3⟩:=r
  dsimp only [qA] at *
  refine enterA [(0,.agg #[.bool n1,.string (bs u1),.string (bs d1)]),(1,.agg #[.bool n3,.string (bs u3),.string (bs d3)])] Tryz.func81 Tryz.ntmps81 ?_
  repeat' first|(refine gp ?_;and_intros<;>first|exact trivial|repeat first|intro(Bk:Nat)|intro h)|(apply G.cV (g:=22);rfl;rfl;exact fun w' _=>hc w')
  all_goals refine ret1b Tryz.func81 Tryz.results81 ?_
  all_goals exact ret_bool (by first|(rw [decide_eq_true (by omega)])|(rw [decide_eq_false (by omega)]))
 ·show Calls Tryz.prog 80 _ _ _
  have hd:decide (sgR true x < sgR true y)=decide (0 < sgnR (x-y)):=by
   have:=sgn_le (x:=x) (y:=y)
   rw [Bool.eq_iff_iff,decide_eq_true_eq,decide_eq_true_eq]
   show -x < -y ↔ _
   constructor
   ·intro h;exact Int.not_le.1 fun h1=>(this.1 h1) (by grind)
   ·intro h
    have:y < x:=Decidable.not_not.1 fun h1=>by have:=this.2 h1;omega
    grind
  rw [hd]
  generalize sgnR (x-y)=sg at *
  generalize rQ x=q at *
  generalize rQ y=r at *
  obtain ⟨n1,u1,d1⟩:=q
  obtain ⟨n3,u3,d3⟩:=r
  dsimp only [qA] at *
  refine enterA [(0,.agg #[.bool n1,.string (bs u1),.string (bs d1)]),(1,.agg #[.bool n3,.string (bs u3),.string (bs d3)])] Tryz.func80 Tryz.ntmps80 ?_
  repeat' first|(refine gp ?_;and_intros<;>first|exact trivial|repeat first|intro(Bk:Nat)|intro h)|(apply G.cV (g:=22);rfl;rfl;exact fun w' _=>hc w')
  all_goals refine ret1b Tryz.func80 Tryz.results80 ?_
  all_goals exact ret_bool (by first|(rw [decide_eq_true (by omega)])|(rw [decide_eq_false (by omega)]))
theorem dir_holds (t:Bool) (w:World):Calls Tryz.prog 39 #[.bool t] w fun e w'=>e=.returned (.func (.func (isF t)) #[] #[])/\Below w.heap.size w w':=by
 cases t
 ·skip
  refine enterA [(0,.bool false)] Tryz.func39 Tryz.ntmps39 ?_
  all_goals (refine go ?_;and_intros<;>first|exact trivial|repeat first|intro(Bk:Nat)|intro h)
  all_goals refine ret1b Tryz.func39 Tryz.results39 ?_
  all_goals rfl
 ·skip
  refine enterA [(0,.bool true)] Tryz.func39 Tryz.ntmps39 ?_
  all_goals (refine go ?_;and_intros<;>first|exact trivial|repeat first|intro(Bk:Nat)|intro h)
  all_goals refine ret1b Tryz.func39 Tryz.results39 ?_
  all_goals rfl
theorem InOrd.sep {l:List Spn}:∀ {x:Int} (_:InOrd x l) {i j:Nat} (hij:i < j) (hj:j < l.length),(l[i]'(Nat.lt_trans hij hj)).to_<=l[j].from_:=by
 induction l with
 | nil=>intro x h i j _ hj;exact absurd hj (Nat.not_lt_zero _)
 | cons s r ih =>
  intro x h i j hij hj
  cases j with
  | zero=>exact absurd hij (Nat.not_lt_zero _)
  | succ j =>
   cases i with
   | zero =>
    rw [List.getElem_cons_zero,List.getElem_cons_succ]
    exact (spans_in h.2.2).1 _ (List.getElem_mem _)
   | succ i =>
    rw [List.getElem_cons_succ,List.getElem_cons_succ]
    exact ih h.2.2 (by omega) (by simpa using hj)
def k0C (r:Rn) (l:List Spn):Nat:=l.findIdx fun s=>decide (r.from_ < s.to_)
theorem k0_le (r:Rn) (l:List Spn):k0C r l<=l.length:=List.findIdx_le_length
theorem k0_lt {r:Rn}{l:List Spn}{i:Nat} (h:i < k0C r l):(l[i]'(Nat.lt_of_lt_of_le h (k0_le r l))).to_<=r.from_:=by
 have h1:=List.not_of_lt_findIdx h
 simpa using h1
theorem k0_ge {r:Rn}{l:List Spn}{x:Int} (hl:InOrd x l) {i:Nat} (h:k0C r l<=i) (hi:i < l.length):r.from_ < l[i].to_:=by
 have hk:k0C r l < l.length:=by omega
 have h0:decide (r.from_ < (l[k0C r l]).to_)=true:=List.findIdx_getElem (w:=hk)
 rw [decide_eq_true_eq] at h0
 by_cases e:k0C r l=i
 ·subst e;exact h0
 ·have h1:=hl.sep (i:=k0C r l) (j:=i) (by omega) hi
  have h2:=hl.lt hi
  omega
theorem clsP_k0 {r:Rn}{l:List Spn}:∀ {k},k<=k0C r l->clsP r l k=[]
 | 0,_=>rfl
 | k+1,h=>by
  have hk:k < l.length:=Nat.lt_of_lt_of_le h (k0_le r l)
  rw [clsP,clsP_k0 (k:=k) (by omega),List.getElem?_eq_getElem hk]
  dsimp only
  have:=k0_lt (r:=r) (l:=l) (i:=k) h
  rw [if_neg (by unfold ovC;omega)];rfl
theorem clsP_end {r:Rn}{l:List Spn}{k:Nat} (hk:k<=l.length) (h:∀ j (hj:j < l.length),k<=j->r.to_<=l[j].from_):∀ d,k+d<=l.length->clsP r l (k+d)=clsP r l k
 | 0,_=>rfl
 | d+1,hd=>by
  have hk':k+d < l.length:=by omega
  rw [<- Nat.add_assoc,clsP,clsP_end hk h d (by omega),List.getElem?_eq_getElem hk']
  dsimp only
  have:=h (k+d) hk' (by omega)
  rw [if_neg (by unfold ovC;omega),List.append_nil]
theorem cl1_holds (k:Nat) (r:Rn) (B3 B2 bb ob d:Nat) (l:List Spn) (w:World) (hk:k < l.length) (h1:RowAt w B3 0 [.slice (some ⟨bb,ob,none⟩) l.length d]) (h2:RowAt w B2 0 (rnV r)) (h3:RowAt w bb (ob+k*7) (spV l[k])) :
  Calls Tryz.prog 125 #[.int .i64 k,.pointer (some ⟨B3,0,none⟩),.pointer (some ⟨B2,0,none⟩)] w fun e w'=>e=.returned (.bool (decide (r.from_ < l[k].to_)))/\Below w.heap.size w w':=by
 generalize l[k]=s at *
 dsimp only [rnV,spV] at *
 refine enterA [(0,.int .i64 k),(1,.pointer (some ⟨B3,0,none⟩)),(2,.pointer (some ⟨B2,0,none⟩))] Tryz.func125 Tryz.ntmps125 ?_
 all_goals (refine go ?_;and_intros<;>first|exact trivial|repeat first|intro(Bk:Nat)|intro h)
 all_goals refine ret1b Tryz.func125 Tryz.results125 ?_
 all_goals exact ret_bool (by first|(rw [decide_eq_true (by omega)])|(rw [decide_eq_false (by omega)]))
theorem search_cl {w0 w:World}{M:List Row}{B3 B2 e3 e2 t3 t2 d:Nat}{b:Option Addr}{l:List Spn}{r:Rn} (hA:SlAt w0 b 7 (l.map spV)) (hl:InOrd 0 l) (hn:l.length<=400) (hw:Sat w0 M w) (hm3:Row.blk B3 e3 [.slice b l.length d] t3∈M) (hm2:Row.blk B2 e2 (rnV r) t2∈M) :
  Calls Tryz.prog 124 #[.int .i64 l.length,.func (.func 125) #[] #[.pointer (some ⟨B3,0,none⟩),.pointer (some ⟨B2,0,none⟩)]] w fun e w'=>e=.returned (.int .i64 (k0C r l))/\Below w.heap.size w w':=by
 refine search_holds 125 _ l.length (k0C r l) (fun i=>match l[i]? with|none=>true|some s=>decide (r.from_ < s.to_)) w (by omega) (k0_le r l) (fun i hi=>?_) (fun i h1 h2=>?_) fun k hk w' hb=>?_
 ·have:=k0_lt hi
  rw [List.getElem?_eq_getElem (Nat.lt_of_lt_of_le hi (k0_le r l))]
  exact decide_eq_false (by omega)
 ·rw [List.getElem?_eq_getElem h2]
  exact decide_eq_true (k0_ge hl h1 h2)
 ·rw [List.getElem?_eq_getElem hk]
  obtain ⟨bb,ob,rfl,hrow⟩:=SlAt.all hA (by omega)
  exact cl1_holds k r B3 B2 bb ob d l w' hk ((hw.rowAt hm3).below hb) ((hw.rowAt hm2).below hb) (((hrow k hk).below hw.below).below hb)
theorem clss_holds (r:Rn) (b:Option Addr) (l:List Spn) (d:Nat) (w:World) (hB:SlAt w b 7 (l.map spV)) (hl:InOrd 0 l) (hn:l.length<=400) (hr:0<=r.from_/\r.from_ < r.to_/\r.to_<=1402560) (hR:∀ s∈l,RightS s) :
  Calls Tryz.prog 76 #[rnA r,.slice b l.length d] w (NwL 2 hoV (fun v=>v) w (clsE r l)):=by
 have hsr:=fun (M:List Row) w' (hw:Sat w M w') B3 B2 e3 e2 t3 t2 h3 h2=>search_cl (B3:=B3) (B2:=B2) (e3:=e3) (e2:=e2) (t3:=t3) (t2:=t2) (d:=d) (r:=r) hB hl hn hw h3 h2
 have hk0:=k0_le r l
 have hge:=fun (i:Nat) (h:k0C r l<=i) (hi:i < l.length)=>k0_ge (r:=r) hl h hi
 have hstart:=clsP_k0 (r:=r) (l:=l) (Nat.le_refl _)
 generalize k0C r l=K at *
 unfold rnA
 refine enterA [(0,.agg #[.int .i64 r.from_,.int .i64 r.to_,.slice r.adr r.tab.length r.cap,.int .i64 r.lo,.int .i64 r.hi]),(1,.slice b l.length d)] Tryz.func76 Tryz.ntmps76 ?_
 repeat' first|(refine gp ?_;and_intros<;>first|exact trivial|repeat first|intro(Bk:Nat)|intro h)|(apply G.cV (g:=124);rfl;rfl;exact fun w' hw=>hsr _ w' hw _ _ _ _ _ _ (by exact mm) (by exact mm))
 apply J.nilOwn (E:=90) (size:=2)
 refine J.loop (c:=_) ((K,r.to_-r.from_,.slice none 0 0,[]):Nat×Int×Value×List (Int×Int)) (fun s=>l.length-s.1) (fun s=>[(2,.pointer (some ⟨_,0,none⟩)),(3,.pointer (some ⟨_,0,none⟩)),(5,s.2.2.1),(6,.int .i64 s.2.1),(7,.int .i64 s.1)]) (fun s=>[.own 0 s.2.2.1 90 2 s.2.2.2.length (flat hoV s.2.2.2),.blk _ 23 [.slice b l.length d] 1,.blk _ 67 [.int .i64 r.from_,.int .i64 r.to_,.slice r.adr r.tab.length r.cap,.int .i64 r.lo,.int .i64 r.hi] 5]) (fun s=>s.1<=l.length/\K<=s.1/\s.2.2.2=clsP r l s.1/\s.2.1=r.to_-r.from_-sumC s.2.2.2/\-(1402560*(s.1:Int))<=s.2.1/\s.2.1<=1402560) ?_ sbT sbL ?_
 ·exact ⟨hk0,Nat.le_refl _,hstart.symm,by show _=_-sumC [];rw [sumC,Int.sub_zero],by dsimp only;omega,by dsimp only;omega⟩
 clear hsr
 intro ⟨k,z,u,o⟩ ⟨h1,h2,h3,h4,h5,h6⟩ ih
 dsimp only at h1 h2 h3 h4 h5 h6 ⊢
 have hle:=clsP_len r l k
 rw [<- h3] at hle
 by_cases hk:k < l.length/\(∀ h:k < l.length,l[k].from_ < r.to_)
 ·obtain ⟨hk,hlt⟩:=hk
  have hlt:=hlt hk
  obtain ⟨bb,ob,rfl,hrb⟩:=SlAt.all hB (by omega)
  have hrk:=hrb k hk
  have hto:=hge k h2 hk
  have hft:=hl.lt hk
  have hrr:=(hR _ (List.getElem_mem hk)).1
  have hst:clsP r l (k+1)=o++[((k:Int),ovC r l[k])]:=by
   rw [clsP,List.getElem?_eq_getElem hk,<- h3]
   dsimp only
   rw [if_pos (by unfold ovC;omega)]
  have hz:z-ovC r l[k]=r.to_-r.from_-sumC (o++[((k:Int),ovC r l[k])]):=by
   rw [sumC_app,sumC,sumC]
   dsimp only
   omega
  have hov1:0 < ovC r l[k]/\ovC r l[k]<=1402560:=by unfold ovC;omega
  have ih:=fun u=>ih (k+1,z-ovC r l[k],u,o++[((k:Int),ovC r l[k])]) ⟨hk,by dsimp only;omega,hst.symm,hz,by dsimp only;omega,by dsimp only;omega⟩ (by dsimp only;omega)
  clear hrb hge hst hz hR hB
  simp only [List.length_append,List.length_singleton] at ih
  unfold ovC at ih hov1
  generalize l[k]=s at *
  dsimp only [spV] at hrk
  repeat' first|(refine gp ?_;and_intros<;>first|exact trivial|repeat first|intro(Bk:Nat)|intro h)|(apply G.sliceL;rfl;rfl;rfl;rfl;rfl;rfl;rfl;rfl;intro Bs)|(apply G.ap;rfl;rfl;rfl;(repeat (first|exact RAt.head|apply RAt.tail));exact SrcV.blk (by exact mm) rfl rfl;exact flat1 hoV o (_,_);omega;omega;intro v2)
  exact J.fin (ih v2)
 ·have hend:clsP r l l.length=o:=by
   rw [h3]
   by_cases e:k < l.length
   ·have h5:r.to_<=l[k].from_:=by
     refine Int.not_lt.1 fun hlt=>hk ⟨e,fun _=>hlt⟩
    have:=clsP_end h1 (fun j hj hkj=>by
     by_cases e2:k=j
     ·subst e2;exact h5
     ·have h6:=hl.sep (i:=k) (j:=j) (by omega) hj
      have h7:=hl.lt e
      omega) (l.length-k) (by omega)
    rwa [Nat.add_sub_cancel' h1] at this
   ·rw [show k=l.length by omega]
  have hz:z=restC r l:=by rw [h4,restC,hend]
  have hcl:clsE r l=o++if 0 < z then [(-1,z)] else []:=by rw [clsE,hend,<- hz]
  rw [hcl]
  have hzb:z<=1402560∨True:=.inr trivial
  clear ih hge hstart hcl h4 hz hend
  have fin:∀ (w':World) (M:List Row) (v:Value) (x:List (Int×Int)) (i E:Nat),Sat w M w'->M[i]?=some (Row.own 0 v E 2 x.length (flat hoV x))->NwL 2 hoV (fun v=>v) w x (.returned v) w':=fun w' M v x i E hw hm=>satO hoV_len hw hm rfl fun v=>v
  by_cases hk2:k < l.length
  ·obtain ⟨bb,ob,rfl,hrb⟩:=SlAt.all hB (by omega)
   have hrk:=hrb k hk2
   have hlt:¬ l[k].from_ < r.to_:=fun h=>hk ⟨hk2,fun _=>h⟩
   clear hrb hB hk hR hl h3
   generalize l[k]=s at *
   dsimp only [spV] at hrk
   by_cases hz0:0 < z
   ·rw [if_pos hz0]
    repeat' first|(refine gp ?_;and_intros<;>first|exact trivial|repeat first|intro(Bk:Nat)|intro h)|(apply G.sliceL;rfl;rfl;rfl;rfl;rfl;rfl;rfl;rfl;intro Bs)|(apply G.ap;rfl;rfl;rfl;(repeat (first|exact RAt.head|apply RAt.tail));exact SrcV.blk (by exact mm) rfl rfl;exact flat1 hoV o ((-1:Int),z);omega;omega;intro v2)
    all_goals
     (refine ret1 Tryz.func76 Tryz.results76 ?_;intro w' hw)
     exact fin _ _ _ _ 1 _ hw (by rw [List.length_append];rfl)
   ·rw [if_neg hz0,List.append_nil]
    all_goals (refine go ?_;and_intros<;>first|exact trivial|repeat first|intro(Bk:Nat)|intro h)
    all_goals
     (refine ret1 Tryz.func76 Tryz.results76 ?_;intro w' hw)
     exact fin _ _ _ _ 0 _ hw rfl
  ·clear hk hR hl h3
   by_cases hz0:0 < z
   ·rw [if_pos hz0]
    repeat' first|(refine gp ?_;and_intros<;>first|exact trivial|repeat first|intro(Bk:Nat)|intro h)|(apply G.sliceL;rfl;rfl;rfl;rfl;rfl;rfl;rfl;rfl;intro Bs)|(apply G.ap;rfl;rfl;rfl;(repeat (first|exact RAt.head|apply RAt.tail));exact SrcV.blk (by exact mm) rfl rfl;exact flat1 hoV o ((-1:Int),z);omega;omega;intro v2)
    all_goals
     (refine ret1 Tryz.func76 Tryz.results76 ?_;intro w' hw)
     exact fin _ _ _ _ 1 _ hw (by rw [List.length_append];rfl)
   ·rw [if_neg hz0,List.append_nil]
    all_goals (refine go ?_;and_intros<;>first|exact trivial|repeat first|intro(Bk:Nat)|intro h)
    all_goals
     (refine ret1 Tryz.func76 Tryz.results76 ?_;intro w' hw)
     exact fin _ _ _ _ 0 _ hw rfl
theorem chk_facts {rs:List Rn}{l:List Spn} (h:chkE rs l=0):InOrd 0 l/\l.length<=400/\(∀ s∈l,RightS s)/\rs.length<=2000/\∀ r∈rs,OkR r:=by
 obtain ⟨h1,h2⟩:=chk_ok h
 exact ⟨inOrd0 h2,(spansErr_ok h2).1,(spansErr_ok h2).2,(runs_ok h1).2.1,(runs_ok h1).1⟩
theorem vClasses_holds (a:Option Addr) (rs:List Rn) (c:Nat) (b:Option Addr) (l:List Spn) (d:Nat) (k:Nat) (w:World) (hA:RunsAt w a rs) (hf:∀ r∈rs,r.tab.length<=64) (hB:SpansAt w b l) (hg:∀ s∈l,fewS s) (h0:chkE rs l=0) (hk:k < rs.length) :
  Calls Tryz.prog 37 #[.slice a rs.length c,.slice b l.length d,.int .i64 k] w (NwL 2 hoV (fun v=>.tuple #[v,.int .i64 0]) w (clsE rs[k] l)):=by
 have hc:=fun w' (hb:Below w.heap.size w w')=>bChk_holds a rs c b l d w' (hA.below hb) hf (hB.below hb) hg
 rw [h0] at hc
 obtain ⟨q1,q2,q3,q4,q5⟩:=chk_facts h0
 have hcl:=fun w' (hb:Below w.heap.size w w')=>clss_holds rs[k] b l d w' (hB.1.below hb) q1 q2 (q5 _ (List.getElem_mem hk)).rng q3
 obtain ⟨ba,oa,rfl,hra⟩:=SlAt.all hA.1 (by omega)
 have hrk:=hra k hk
 clear hra q1 q3 q5 hA hB hf hg h0
 generalize clsE rs[k] l=X at *
 generalize rs[k]=r at *
 dsimp only [rnV] at hrk
 unfold rnA at hcl
 refine enterA [(0,.slice (some ⟨ba,oa,none⟩) rs.length c),(1,.slice b l.length d),(2,.int .i64 k)] Tryz.func37 Tryz.ntmps37 ?_
 repeat' first|(refine gp ?_;and_intros<;>first|exact trivial|repeat first|intro(Bk:Nat)|intro h)|(apply G.cV (g:=36);rfl;rfl;exact fun w' hw=>hc w' hw.below)|(apply G.cV (g:=44);rfl;rfl;exact fun w' hw=>hc w' hw.below)|(refine G.cL (g:=76) (sz:=2) (f:=hoV) (fun v=>v) X rfl rfl (fun w' hw=>(hcl w' hw.below).mono fun e w2 hh=>?_) ?_;exact hh;intro a' c' hp1 hp2)
 (refine ret2 Tryz.func37 Tryz.results37 ?_;intro w' hw)
 exact ⟨a',c',rfl,hw.sl (by exact mm),hp2,hw.below⟩
def costF (p:Nat×Nat×List Rat):Row:=.blk p.1 25 (flat qW p.2.2) (p.2.1*3)
def costS (n:Nat) (p:Nat×Nat×List Rat):List Value:=[.slice (some ⟨p.1,0,none⟩) n p.2.1]
def asgF (n:Nat) (p:Nat×List Int):Row:=.blk p.1 3 (flat isV p.2) (n*1)
def asgS (n:Nat) (p:Nat×List Int):List Value:=[.slice (some ⟨p.1,0,none⟩) n n]
def mvC (x:Int×Rat):List Value:=.int .i64 x.1::qW x.2
theorem mvC_len (x:Int×Rat):(mvC x).length=4:=rfl
def movF (n:Nat) (p:Nat×List (Int×Rat)):Row:=.blk p.1 221 (flat mvC p.2) (n*4)
def isN (v:Nat):List Value:=[.int .i64 v]
theorem isN_len (v:Nat):(isN v).length=1:=rfl
structure CtOk (S n:Nat) (g:Nat->Nat->Rat) (CT:List (Nat×Nat×List Rat)):Prop where
 len:CT.length=S
 row:∀ s (h:s < CT.length),CT[s].2.2.length=n/\∀ c,c < n->CT[s].2.2[c]?=some (g s c)
def xOf (XT:List (Nat×List Int)) (s c:Nat):Int:=(XT.getD s (0,[])).2.getD c 0
structure XtOk (S n:Nat) (XT:List (Nat×List Int)):Prop where
 len:XT.length=S
 row:∀ s (h:s < XT.length),XT[s].2.length=n
theorem xOf_at {XT:List (Nat×List Int)}{s c:Nat} (h:s < XT.length) (hc:c < XT[s].2.length):XT[s].2[c]?=some (xOf XT s c):=by
 unfold xOf
 simp only [List.getD_eq_getElem?_getD,List.getElem?_eq_getElem h,Option.getD_some,List.getElem?_eq_getElem hc]
theorem xOf_set {XT:List (Nat×List Int)}{s c:Nat} (h:s < XT.length) (hc:c < XT[s].2.length) (v:Int) (t d:Nat):xOf (XT.set s (XT[s].1,XT[s].2.set c v)) t d=if t=s then (if d=c then v else xOf XT t d) else xOf XT t d:=by
 unfold xOf
 by_cases e:t=s
 ·subst e
  rw [if_pos rfl]
  simp only [List.getD_eq_getElem?_getD,List.getElem?_set_self h,List.getElem?_eq_getElem h,Option.getD_some]
  by_cases e2:d=c
  ·subst e2
   rw [if_pos rfl,List.getElem?_set_self hc];rfl
  ·rw [if_neg e2,List.getElem?_set_ne fun e=>e2 e.symm]
 ·rw [if_neg e]
  simp only [List.getD_eq_getElem?_getD,List.getElem?_set_ne fun e2=>e e2.symm]
theorem XtOk.set {S n:Nat}{XT:List (Nat×List Int)} (h:XtOk S n XT) {s:Nat} (hs:s < XT.length) (c:Nat) (v:Int):XtOk S n (XT.set s (XT[s].1,XT[s].2.set c v)) :=
 ⟨by rw [List.length_set];exact h.len,fun t ht=>by
  rw [List.length_set] at ht
  rw [List.getElem_set]
  split
  ·rw [List.length_set];exact h.row s hs
  ·exact h.row t ht⟩
theorem asgS_set {n:Nat}{XT:List (Nat×List Int)}{s:Nat} (h:s < XT.length) (l:List Int):flat (asgS n) (XT.set s (XT[s].1,l))=flat (asgS n) XT:=by
 rw [flat,flat,List.map_set,show asgS n (XT[s].1,l)=(XT.map (asgS n))[s]'(by simpa using h) from by rw [List.getElem_map];rfl,List.set_getElem_self]
theorem flat_one {A:Type}{f:A->List Value} (hf:∀ x,(f x).length=1) {l:List A}{i:Nat} (h:i < l.length) {v:Value} (hv:f l[i]=[v]):(flat f l)[0+i*1]?=some v:=flat_get1 hf h hv
theorem mv_part {L:List (Int×Rat)}{b:Nat} (h:b < L.length) {j:Nat} (hj:j < 4):(flat mvC L)[0+b*4+j]?=(mvC L[b])[j]?:=by
 rw [Nat.zero_add];exact flat_at mvC_len h hj
theorem mv_set {L:List (Int×Rat)}{b:Nat} (h:b < L.length) (y:Int×Rat):setL (flat mvC L) (0+b*4) (mvC y)=flat mvC (L.set b y):=by
 rw [Nat.zero_add];exact flat_set mvC_len h y
theorem set_at {cs:List Value}{j:Nat}{v:Value} (h:cs[j]?=some v):cs.set j v=cs:=by
 obtain ⟨h1,h2⟩:=List.getElem?_eq_some_iff.1 h
 rw [<- h2];exact List.set_getElem_self h1
theorem mv_stage {L:List (Int×Rat)}{b:Nat} (h:b < L.length) (v:Int) {q:Int×Rat} (hq:L[b]?=some q):setL (flat mvC L) (addO (0+b*4) 0) [.int .i64 v]=flat mvC (L.set b (v,q.2)):=by
 have e:L[b]=q:=(List.getElem?_eq_some_iff.1 hq).2
 have h0:=mv_set h (v,q.2)
 rw [<- h0,addO_eq,Nat.add_zero]
 have k:∀ j,j < 4->(flat mvC L)[0+b*4+j]?=(mvC q)[j]?:=fun j hj=>by rw [mv_part h hj,e]
 have k1:=k 1 (by omega)
 have k2:=k 2 (by omega)
 have k3:=k 3 (by omega)
 generalize hF:flat mvC L=F at *
 show F.set (0+b*4) _=((((F.set (0+b*4) _).set (0+b*4+1) _).set (0+b*4+1+1) _).set (0+b*4+1+1+1) _)
 have e1:∀ i,i≠0+b*4->∀ w,F[i]?=some w->(F.set (0+b*4) (.int .i64 v))[i]?=some w:=fun i hi w hw=>by rw [List.getElem?_set_ne (by omega)];exact hw
 rw [set_at (e1 (0+b*4+1) (by omega) _ k1),set_at (e1 (0+b*4+1+1) (by omega) _ k2),set_at (e1 (0+b*4+1+1+1) (by omega) _ k3)]
theorem mv_stg {L:List (Int×Rat)}{b:Nat}{q:Int×Rat} (hq:L[b]?=some q):(flat mvC L)[addO (0+b*4) 0]?=some (.int .i64 q.1):=by
 obtain ⟨h,e⟩:=List.getElem?_eq_some_iff.1 hq
 have:=mv_part h (j:=0) (by omega)
 rw [e] at this
 rw [addO_eq];exact this
theorem mv_by {L:List (Int×Rat)}{b:Nat}{q:Int×Rat} (hq:L[b]?=some q):((flat mvC L).drop (addO (0+b*4) 1)).take 3=qW q.2:=by
 obtain ⟨h,e⟩:=List.getElem?_eq_some_iff.1 hq
 apply List.ext_getElem?
 intro i
 rw [List.getElem?_take]
 split
 ·rename_i hi
  rw [List.getElem?_drop,addO_eq,Nat.add_assoc,mv_part h (j:=1+i) (by omega),e,Nat.add_comm 1 i]
  rfl
 ·rename_i hi
  rw [List.getElem?_eq_none (by rw [qW_len];omega)]
theorem zero_mv (n:Nat):flat (fun x:List Value=>x) (List.replicate n [.int .i64 0,.bool false,.string (bs []),.string (bs [])])=flat mvC (List.replicate n ((0:Int),(0:Rat))):=by
 rw [flat,flat,List.map_replicate,List.map_replicate];rfl
theorem zero_qW (n:Nat):flat (fun x:List Value=>x) (List.replicate n (qV zero3))=flat qW (List.replicate n (0:Rat)):=by
 rw [flat,flat,List.map_replicate,List.map_replicate];rfl
theorem zero_isN (n:Nat):flat (fun x:List Value=>x) (List.replicate n [.int .i64 0])=flat isN (List.replicate n 0):=by
 rw [flat,flat,List.map_replicate,List.map_replicate];rfl
theorem zero_isV (n:Nat):flat (fun x:List Value=>x) (List.replicate n [.int .i64 0])=flat isV (List.replicate n 0):=by
 rw [flat,flat,List.map_replicate,List.map_replicate];rfl
theorem zero_sl (n:Nat):flat (fun x:List Value=>x) (List.replicate n [.slice none 0 0])=List.replicate n (.slice none 0 0):=by
 rw [flat,List.map_replicate]
 induction n with
 | zero=>rfl
 | succ n ih=>rw [List.replicate_succ,List.flatten_cons,ih];rfl
def mvRow (S n:Nat) (x:Nat->Nat->Int) (g:Nat->Nat->Rat) (a:Nat):List (Int×Rat):=(List.range n).map fun b=>mvV (mvF x g a b S)
theorem mvRow_of {S n:Nat}{x:Nat->Nat->Int}{g:Nat->Nat->Rat}{a:Nat}{L:List (Int×Rat)} (hl:L.length=n) (h:∀ j,j < n->L[j]?=some (mvV (mvF x g a j S))):L=mvRow S n x g a:=by
 apply List.ext_getElem?
 intro j
 by_cases hj:j < n
 ·rw [h j hj,mvRow,List.getElem?_map,List.getElem?_range hj];rfl
 ·rw [List.getElem?_eq_none (by omega),List.getElem?_eq_none (by rw [mvRow,List.length_map,List.length_range];omega)]
theorem mvRow_at {S n:Nat}{x:Nat->Nat->Int}{g:Nat->Nat->Rat}{a j:Nat} (hj:j < n):(mvRow S n x g a)[j]?=some (mvV (mvF x g a j S)):=by
 rw [mvRow,List.getElem?_map,List.getElem?_range hj];rfl
def bfOf (dl:List Rat) (fl:List Nat) (u:Nat->Nat):BF:=⟨fun v=>dl.getD v 0,fun v=>fl.getD v 0,u⟩
theorem bf_rlx {dl:List Rat}{fl:List Nat}{u:Nat->Nat}{r a b:Nat}{w:Rat} (h1:b < dl.length) (h2:b < fl.length):rlxB (bfOf dl fl u) r a b w=bfOf (dl.set b (dl.getD a 0+w)) (fl.set b a) (fun v=>if v=b then r else u v):=by
 unfold rlxB bfOf
 congr 1
 ·funext v
  simp only [List.getD_eq_getElem?_getD]
  by_cases e:v=b
  ·subst e;rw [if_pos rfl,List.getElem?_set_self h1];rfl
  ·rw [if_neg e,List.getElem?_set_ne fun e2=>e e2.symm]
 ·funext v
  simp only [List.getD_eq_getElem?_getD]
  by_cases e:v=b
  ·subst e;rw [if_pos rfl,List.getElem?_set_self h2];rfl
  ·rw [if_neg e,List.getElem?_set_ne fun e2=>e e2.symm]
theorem bf_zero (n:Nat) (fl:List Nat):bfOf (List.replicate n 0) fl (fun _=>0)=⟨fun _=>0,fun v=>fl.getD v 0,fun _=>0⟩:=by
 unfold bfOf
 congr 1
 funext v
 rw [List.getD_eq_getElem?_getD,List.getElem?_replicate]
 split<;>rfl
def chV:Option Nat->Int
 | none=>-1
 | some c=>c
theorem qW_set {dl:List Rat}{b:Nat} (h:b < dl.length) (y:Rat):setL (flat qW dl) (0+b*3) (qW y)=flat qW (dl.set b y):=by
 rw [Nat.zero_add];exact flat_set qW_len h y
theorem isN_set {fl:List Nat}{b:Nat} (h:b < fl.length) (y:Nat):setL (flat isN fl) (0+b*1) [.int .i64 y]=flat isN (fl.set b y):=flat_set1 isN_len h rfl
theorem isV_set {l:List Int}{b:Nat} (h:b < l.length) (y:Int):setL (flat isV l) (0+b*1) [.int .i64 y]=flat isV (l.set b y):=flat_set1 isV_len h rfl
theorem mem_set' {A:Type}{l:List A}{b:Nat}{y z:A} (h:z∈l.set b y):z∈l∨z=y:=by
 obtain ⟨i,hi,e⟩:=List.mem_iff_getElem.1 h
 rw [List.getElem_set] at e
 split at e
 ·exact .inr e.symm
 ·exact .inl (e ▸ List.getElem_mem _)
theorem mv_mE {S n:Nat}{x:Nat->Nat->Int}{g:Nat->Nat->Rat}{a b:Nat} (ha:a < n) (hb:b < n):(mE S n x g a b=none/\(mvV (mvF x g a b S)).1 < 0)∨(mE S n x g a b=some (mvV (mvF x g a b S)).2/\0<=(mvV (mvF x g a b S)).1):=by
 unfold mE
 rw [if_pos ⟨ha,hb⟩]
 cases mvF x g a b S with
 | none=>exact .inl ⟨rfl,by decide⟩
 | some q=>exact .inr ⟨rfl,Int.natCast_nonneg _⟩
theorem updC_snoc {p:Nat->Nat}{sg:Nat->Nat->Nat}{m:Int}:∀ (k v:Nat) (x:Nat->Nat->Int),updC p sg m (k+1) v x=upd1 (updC p sg m k v x) m (sg (itP p (k+1) v) (itP p k v)) (itP p (k+1) v) (itP p k v)
 | 0,v,x=>rfl
 | k+1,v,x=>by
  rw [updC,updC_snoc k (p v) (upd1 x m (sg (p v) v) (p v) v)]
  rfl
theorem cyc_all {S n:Nat}{x:Nat->Nat->Int}{g:Nat->Nat->Rat}{P:Nat->Nat->Prop}{dl:List Rat}{fl:List Nat}{u:Nat->Nat}{c:Nat} (hB:BInv (mE S n x g) (n+1) P (bfOf dl fl u)) (hc:u c=n+1) :
  ∃ p:Nat->Nat,(∀ b,p b=fl.getD b 0)/\(∀ i,itP p i c < n)/\∃ k,k<=n/\Cyc p u k (itP p n c)/\wsP (mE S n x g) p k (itP p n c) < 0/\∀ j,∃ q,mE S n x g (itP p (j+1) (itP p n c)) (itP p j (itP p n c))=some q/\itP p (j+1) (itP p n c)≠itP p j (itP p n c):=by
 obtain ⟨h1,k,h2,h3,h4⟩:=hB.cycle mE_lt hc
 refine ⟨fun v=>fl.getD v 0,fun _=>rfl,fun i=>(h1 i).1,k,h2,h3,h4,fun j=>?_⟩
 have h5:=(h1 (n+j)).2
 rw [itP_add] at h5
 obtain ⟨w,e,hne,_⟩:=hB.pr _ h5
 rw [itP_succ]
 exact ⟨w,e,hne⟩
def putC (XT:List (Nat×List Int)) (s c:Nat) (v:Int):List (Nat×List Int):=XT.set s ((XT.getD s (0,[])).1,(XT.getD s (0,[])).2.set c v)
section
variable {S n s c:Nat}{XT:List (Nat×List Int)}
theorem xt_getD {XT:List (Nat×List Int)}{s:Nat} (h:s < XT.length):XT.getD s (0,[])=XT[s]:=by
 rw [List.getD_eq_getElem?_getD,List.getElem?_eq_getElem h];rfl
theorem putC_ok (h:XtOk S n XT) (hs:s < S) (v:Int):XtOk S n (putC XT s c v):=by
 have hs':s < XT.length:=by rw [h.len];exact hs
 unfold putC;rw [xt_getD hs'];exact h.set hs' c v
theorem putC_x (h:XtOk S n XT) (hs:s < S) (hc:c < n) (v:Int) (t d:Nat):xOf (putC XT s c v) t d=if t=s then (if d=c then v else xOf XT t d) else xOf XT t d:=by
 have hs':s < XT.length:=by rw [h.len];exact hs
 unfold putC;rw [xt_getD hs'];exact xOf_set hs' (by rw [h.row s hs'];exact hc) v t d
theorem putC_flat (h:XtOk S n XT) (hs:s < S) (v:Int):flat (asgS n) (putC XT s c v)=flat (asgS n) XT:=by
 have hs':s < XT.length:=by rw [h.len];exact hs
 unfold putC;rw [xt_getD hs'];exact asgS_set hs' _
theorem putC_rws (v:Int):(rws (asgF n) XT).set s (asgF n ((XT.getD s (0,[])).1,(XT.getD s (0,[])).2.set c v))=rws (asgF n) (putC XT s c v):=rws_set _ _
theorem putC_at (h:XtOk S n XT) (hs:s < S) (v:Int):(putC XT s c v).getD s (0,[])=((XT.getD s (0,[])).1,(XT.getD s (0,[])).2.set c v):=by
 have hs':s < XT.length:=by rw [h.len];exact hs
 unfold putC
 rw [List.getD_eq_getElem?_getD,List.getElem?_set_self hs'];rfl
theorem xt_row (h:XtOk S n XT) (hs:s < S) (M0:List Row):asgF n (XT.getD s (0,[]))∈rws (asgF n) XT++M0:=by
 have hs':s < XT.length:=by rw [h.len];exact hs
 rw [xt_getD hs'];exact rws_mem hs'
theorem xt_rat (h:XtOk S n XT) (hs:s < S) (M0:List Row):RAt (asgF n (XT.getD s (0,[]))) (rws (asgF n) XT++M0) (fun r'=>(rws (asgF n) XT).set s r'++M0):=by
 have hs':s < XT.length:=by rw [h.len];exact hs
 rw [xt_getD hs'];exact rws_at hs'
theorem xt_hd (h:XtOk S n XT) (hs:s < S):(flat (asgS n) XT)[0+s*1]?=some (.slice (some ⟨(XT.getD s (0,[])).1,0,none⟩) n n):=by
 have hs':s < XT.length:=by rw [h.len];exact hs
 rw [xt_getD hs'];exact flat_one (f:=asgS n) (fun _=>rfl) hs' rfl
theorem xt_len (h:XtOk S n XT) (hs:s < S):(XT.getD s (0,[])).2.length=n:=by
 have hs':s < XT.length:=by rw [h.len];exact hs
 rw [xt_getD hs'];exact h.row s hs'
theorem xt_cell (h:XtOk S n XT) (hs:s < S) (hc:c < n):(flat isV (XT.getD s (0,[])).2)[0+c*1]?=some (.int .i64 (xOf XT s c)):=by
 have hl:c < (XT.getD s (0,[])).2.length:=by rw [xt_len h hs];exact hc
 have e:xOf XT s c=(XT.getD s (0,[])).2[c]:=by
  unfold xOf
  rw [List.getD_eq_getElem?_getD (l:=(XT.getD s (0,[])).2),List.getElem?_eq_getElem hl];rfl
 rw [e]
 exact flat_one (f:=isV) isV_len hl rfl
theorem xOf_out (h:XtOk S n XT) (hx:∀ s c,s < S->c < n->0<=xOf XT s c/\xOf XT s c<=1402560):∀ s c,-1402560<=xOf XT s c/\xOf XT s c<=1402560:=fun s c=>by
 by_cases hs:s < S
 ·by_cases hc:c < n
  ·have:=hx s c hs hc;omega
  ·have hl:=xt_len h hs
   have:xOf XT s c=0:=by
    rw [xOf,List.getD_eq_getElem?_getD (l:=(XT.getD s (0,[])).2),List.getElem?_eq_none (by omega)];rfl
   omega
 ·have:xOf XT s c=0:=by
   have hl:=h.len
   rw [xOf,List.getD_eq_getElem?_getD (l:=XT),List.getElem?_eq_none (by omega)];rfl
  omega
end
theorem updC_bd {p:Nat->Nat}{sg:Nat->Nat->Nat}{m:Int} (hm:0<=m):∀ (k v:Nat) (x:Nat->Nat->Int) (B:Int),(∀ s c,-B<=x s c/\x s c<=B)->∀ s c,-(B+(k:Int)*m)<=updC p sg m k v x s c/\updC p sg m k v x s c<=B+(k:Int)*m
 | 0,v,x,B,h,s,c=>by
  have:=h s c
  show -(B+((0:Nat):Int)*m)<=x s c/\x s c<=B+((0:Nat):Int)*m
  rw [Int.natCast_zero,Int.zero_mul];omega
 | k+1,v,x,B,h,s,c=>by
  have ih:=updC_bd (p:=p) (sg:=sg) hm k (p v) (upd1 x m (sg (p v) v) (p v) v) (B+m) (fun s c=>by
   have:=h s c
   unfold upd1
   split
   ·split<;>split<;>omega
   ·omega) s c
  show -(B+((k+1:Nat):Int)*m)<=updC p sg m k (p v) (upd1 x m (sg (p v) v) (p v) v) s c/\updC p sg m k (p v) (upd1 x m (sg (p v) v) (p v) v) s c<=B+((k+1:Nat):Int)*m
  have e:((k+1:Nat):Int)*m=(k:Int)*m+m:=by rw [Int.natCast_succ,Int.add_mul,Int.one_mul]
  rw [e]
  generalize (k:Int)*m=z at *
  omega
theorem Feas.congr {S n:Nat}{row col:Nat->Int}{x y:Nat->Nat->Int} (h:Feas S n row col x) (he:∀ s c,s < S->c < n->y s c=x s c):Feas S n row col y :=
 ⟨fun s c hs hc=>by rw [he s c hs hc];exact h.nn s c hs hc,fun s hs=>by rw [<- h.row s hs];exact iS_congr fun c hc=>he s c hs hc,fun c hc=>by rw [<- h.col c hc];exact iS_congr fun s hs=>he s c hs hc⟩
theorem cost_congr {S n:Nat}{g:Nat->Nat->Rat}{x y:Nat->Nat->Int} (he:∀ s c,s < S->c < n->y s c=x s c):costX S n g y=costX S n g x:=rT_congr fun s hs=>rT_congr fun c hc=>by rw [he s c hs hc]
def begunB:Nat->Bool
 | 0=>false
 | _+1=>true
end Go.Proofs.YtjcecdmbfmccoaaGreatDoor
namespace Go.Sl
open Go.RowKit
variable {C:Ctx}{M:List Row}{st:List (Nat×Value)}{k:List Item}{q q':Md}{all rest:List Oper}{d:Nat}{ty:TypeId}{pos:String}{after:Array Edge}{gd:Option (Nat×Bool)}
theorem G.s1e {T:TypeId}{x y:Operand}{v:Value}{b j tot:Nat}{e:TypeId}{cs out:List Value}{F:Row->List Row}{M':List Row} (hs:wqB all st gd q.res=some q')
  (hx:evS st x=some (.pointer (some ⟨b,j,none⟩))) (hy:evS st y=some v) (hm:RAt (.blk b e cs tot) M F) [hT:TSize C.P T 1] (h1:v.cells=#[v]/\v.oneCell'=true) (hj:j < cs.length) (ho:setL cs j [v]=out) (hM:F (.blk b e out tot)=M')
  (h:G q' C all st M' rest k) :
  G q C all st M ({ dst:=none,op:=.store T x y,type:=ty,pos,after,guard:=gd }::rest) k:=G.s1 hs hx hy hm h1 hj ho (by rw [hM];exact h)
theorem LdV.slV {C:Ctx}{M:List Row}{A:Type}{f:A->List Value}{T n sz N:Nat} [hT:TAgg C.P T n] {l:List A}{p:A}{b off i:Nat} (v:Value) (hp:l[i]?=some p) (hm:slRow N (some ⟨b,off,none⟩) sz (l.map f)∈M) (hl:(f p).length=n) (hv:Value.agg (f p).toArray=v):LdV C M T ⟨b,off+i*sz,none⟩ v:=by
 obtain ⟨hi,rfl⟩:=List.getElem?_eq_some_iff.1 hp
 exact hv ▸ LdV.aggSl hm hi hl
theorem G.cF {g:FuncId}{f:Operand}{cap:Array Value}{args:List Operand}{vs:List Value}{at_:Array TypeId}{v:Value} (hf:evS st f=some (.func (.func g) #[] cap)) (ha:evL st args=some vs) (hs:sideB all st gd d C.N q.calm=some q') [hF:Fun C.P g]
  (hc:∀ w,Sat C.w0 (q.cls M) w->Calls C.P g (vs.toArray++cap) w fun e w'=>e=.returned v/\Below w.heap.size w w') (h:G q' C all ((d,v)::st) M rest k) :
  G q C all st M ({ dst:=some d,op:=.call { callee:=.value f,args:=args.toArray,argTypes:=at_ },type:=ty,pos,after,guard:=gd }::rest) k:=by
 obtain ⟨g1,g2,g3⟩:=sideB_ok hs
 exact G.callVf hf ha g1 g2 g3 hc h
theorem G.ownFormA {C:Ctx}{st:List (Nat×Value)}{M:List Row}{k:List Item}{all:List Oper}{p:Pt}{l:List Oper}{base E size n:Nat}{v:Value}{xs:List Value} (hm:Row.own base v E size n xs∈M) (h:∀ a c,v=.slice a n c->G (.any p) C all st M l k):G (.any p) C all st M l k :=
 ⟨fun hl hsel listed hdc hp a w hf hdf hw=>by
  obtain ⟨a',c',e⟩:=hw.ownForm hm
  exact (h a' c' e).go hl hsel listed hdc hp a w hf hdf hw⟩
theorem Sel.dropA {T M:List Row} (h:Sel T M):∀ R:List Row,Sel T (R++M)
 | []=>h
 | _::R=>Sel.drop (Sel.dropA h R)
theorem LdV.flatV {A:Type}{f:A->List Value}{sz b tot i n:Nat}{e T:TypeId}{l:List A}{p:A}{vs:List Value} [hT:TAgg C.P T n] (hf:∀ x,(f x).length=n) (hm:Row.blk b e (Sl.flat f l) tot∈M) (hp:l[i]?=some p) (hsz:sz=n) (hv:f p=vs):LdV C M T ⟨b,0+i*sz,none⟩ (.agg vs.toArray):=hv ▸ LdV.flat hf hm hp hsz
end Go.Sl
/-
 Contracts of bounds: ticks are exchanged along cycles of classes as long as that lowers the cost.
-/
namespace Go.Proofs.YtjcecdmbfmccoaaGreatDoor
open Go.RowKit Go.Sl Go.Num
set_option maxHeartbeats 8000000 in
theorem imp_holds (w0:World) (M0:List Row) (w:World) (bt bc bx tc tx n S kc kx rl rc cc:Nat) (rf rt rlo rhi:Int) (ra ca:Option Addr) (g:Nat->Nat->Rat) (row col:Nat->Int) (CT:List (Nat×Nat×List Rat)) (XT0:List (Nat×List Int))
  (hw:Sat w0 (.blk bt 200 [.int .i64 rf,.int .i64 rt,.slice ra rl rc,.int .i64 rlo,.int .i64 rhi,.slice ca n cc,.slice (some ⟨bc,0,none⟩) S kc,.slice (some ⟨bx,0,none⟩) S kx] 8::.blk bc 61 (flat (costS n) CT) tc::.blk bx 28 (flat (asgS n) XT0) tx::(rws costF CT++(rws (asgF n) XT0++M0))) w)
  (hC:CtOk S n g CT) (hX:XtOk S n XT0) (hF:Feas S n row col (xOf XT0)) (hg:∀ s c,s < S->c < n->fewQ 141 (rQ (g s c))) (h0:0 < n) (hn:n<=31) (hS0:0 < S) (hS:S<=1000) (hrow:∀ s,s < S->row s<=1402560) :
  Calls Tryz.prog 147 #[.pointer (some ⟨bt,0,none⟩)] w fun e w'=>∃ XT:{ XT:List (Nat×List Int) // XtOk S n XT/\flat (asgS n) XT=flat (asgS n) XT0/\Feas S n row col (xOf XT)/\∃ pi:Nat->Rat,(∀ b,b < n->fewQ 10000000 (rQ (pi b)))/\∀ s a b,s < S->a < n->b < n->0 < xOf XT s a->pi b<=pi a+(g s b-g s a) },
   e=.returned (.tuple #[])/\Sat w0 (.blk bt 200 [.int .i64 rf,.int .i64 rt,.slice ra rl rc,.int .i64 rlo,.int .i64 rhi,.slice ca n cc,.slice (some ⟨bc,0,none⟩) S kc,.slice (some ⟨bx,0,none⟩) S kx] 8::.blk bc 61 (flat (costS n) CT) tc::.blk bx 28 (flat (asgS n) XT.1) tx::(rws costF CT++(rws (asgF n) XT.1++M0))) w':=by
 have hD:=denM_pos g S n
 have hDp:(0:Rat) < ((denM g S n:Int):Rat):=Rat.intCast_pos.2 (by omega)
 have hiq:=fun s c (hs:s < S) (hc:c < n)=>denM_iq g hs hc
 obtain ⟨K,hK⟩:=cost_low (S:=S) (n:=n) (row:=row) (col:=col) g hDp
 have hCl:=hC.len
 refine enterR [(0,.pointer (some ⟨bt,0,none⟩))] hw Tryz.func147 Tryz.ntmps147 ?_
 all_goals (refine goR ?_;and_intros<;>(try exact trivial)<;>repeat (first|refine fun (Bk:Nat)=>?_|intro h))
 repeat' ((first|(apply G.make (n:=n) [.slice none 0 0];rfl;rfl;rfl;rfl;rfl;rfl;rfl;rfl;omega;omega;intro Bm)|(apply J.regQ;exact Tryz.mixed;decide +kernel)|(apply J.regL';exact Tryz.mixed;decide +kernel))<;>(refine goR ?_;and_intros<;>(try exact trivial)<;>repeat (first|refine fun (Bk:Nat)=>?_|intro h)))
 rw [zero_sl]
 refine J.cutI (X:=Nat×Nat) (fun x=>[(0,.pointer (some ⟨bt,0,none⟩)),(2,.int .i64 n),(3,.slice (some ⟨Bm,0,none⟩) n n),(4,.slice (some ⟨x.1,0,none⟩) n n),(5,.slice (some ⟨x.2,0,none⟩) n n)]) (fun x=>.blk Bm 219 (List.replicate n (.slice none 0 0)) (n*1)::.blk x.1 25 (flat qW (List.replicate n 0)) (n*3)::.blk x.2 3 (flat isN (List.replicate n 0)) (n*1)::.blk bt 200 [.int .i64 rf,.int .i64 rt,.slice ra rl rc,.int .i64 rlo,.int .i64 rhi,.slice ca n cc,.slice (some ⟨bc,0,none⟩) S kc,.slice (some ⟨bx,0,none⟩) S kx] 8::.blk bc 61 (flat (costS n) CT) tc::.blk bx 28 (flat (asgS n) XT0) tx::(rws costF CT++(rws (asgF n) XT0++M0))) ?_ ?_
 ·intro hk2
  all_goals (refine goG ?_;and_intros<;>(try exact trivial)<;>repeat (first|refine fun (Bk:Nat)=>?_|intro h))
  repeat' ((first|(apply G.fork)|(apply G.make (n:=n) (qV zero3);rfl;rfl;rfl;rfl;rfl;rfl;rfl;rfl;omega;omega;intro Bd)|(apply G.make (n:=n) [.int .i64 0];rfl;rfl;rfl;rfl;rfl;rfl;rfl;rfl;omega;omega;intro Bf)|(apply J.regA (.q 0 <| .q 2 <| .f 1 (.q 4 <| .e 3 <| .q 5 <| .nil) 3 (.e 1 <| .q 4 <| .q 5 <| .nil));exact Tryz.mixed;decide +kernel))<;>(refine goG ?_;and_intros<;>(try exact trivial)<;>repeat (first|refine fun (Bk:Nat)=>?_|intro h)))
  all_goals
   rw [zero_qW,zero_isN]
   exact J.finS (hk2 (_,_))
 intro ⟨Bd,Bf⟩
 dsimp only
 all_goals (refine go ?_;and_intros<;>first|exact trivial|repeat first|intro(Bk:Nat)|intro h)
 refine J.loop (c:=_) ((XT0,List.replicate n (.slice none 0 0),List.replicate n 0,List.replicate n 0):List (Nat×List Int)×List Value×List Rat×List Nat) (fun x=>meaX S n g ((denM g S n:Int):Rat) K (xOf x.1)) (fun x=>[(0,.pointer (some ⟨bt,0,none⟩)),(2,.int .i64 n),(3,.slice (some ⟨Bm,0,none⟩) n n),(4,.slice (some ⟨Bd,0,none⟩) n n),(5,.slice (some ⟨Bf,0,none⟩) n n)]) (fun x=>.blk Bm 219 x.2.1 (n*1)::.blk Bd 25 (flat qW x.2.2.1) (n*3)::.blk Bf 3 (flat isN x.2.2.2) (n*1)::.blk bt 200 [.int .i64 rf,.int .i64 rt,.slice ra rl rc,.int .i64 rlo,.int .i64 rhi,.slice ca n cc,.slice (some ⟨bc,0,none⟩) S kc,.slice (some ⟨bx,0,none⟩) S kx] 8::.blk bc 61 (flat (costS n) CT) tc::.blk bx 28 (flat (asgS n) x.1) tx::(rws costF CT++(rws (asgF n) x.1++M0))) (fun x=>XtOk S n x.1/\flat (asgS n) x.1=flat (asgS n) XT0/\Feas S n row col (xOf x.1)/\x.2.1.length=n/\x.2.2.1.length=n/\x.2.2.2.length=n/\∀ v∈x.2.2.2,v < n) ?_ sbT sbL ?_
 ·exact ⟨hX,rfl,hF,by simp,by simp,by simp,fun v hv=>by rw [List.eq_of_mem_replicate hv];exact h0⟩
 clear hX hF
 intro ⟨XT,cs0,dl,fl⟩ ⟨hX,hfs,hF,hcl,hdl,hfl,hfb⟩ ih
 dsimp only at hX hfs hF hcl hdl hfl hfb ⊢
 have hxn:=hF.nn
 have hxl:=hX.len
 generalize hxe:xOf XT=x at *
 all_goals (refine go ?_;and_intros<;>first|exact trivial|repeat first|intro(Bk:Nat)|intro h)
 refine J.loop (c:=_) ((0,cs0,[]):Nat×List Value×List (Nat×List (Int×Rat))) (fun x=>n-x.1) (fun x=>[(0,.pointer (some ⟨bt,0,none⟩)),(2,.int .i64 n),(3,.slice (some ⟨Bm,0,none⟩) n n),(4,.slice (some ⟨Bd,0,none⟩) n n),(5,.slice (some ⟨Bf,0,none⟩) n n),(32,.int .i64 n),(33,.int .i64 x.1)]) (fun x=>.blk Bm 219 x.2.1 (n*1)::.blk Bd 25 (flat qW dl) (n*3)::.blk Bf 3 (flat isN fl) (n*1)::.blk bt 200 [.int .i64 rf,.int .i64 rt,.slice ra rl rc,.int .i64 rlo,.int .i64 rhi,.slice ca n cc,.slice (some ⟨bc,0,none⟩) S kc,.slice (some ⟨bx,0,none⟩) S kx] 8::.blk bc 61 (flat (costS n) CT) tc::.blk bx 28 (flat (asgS n) XT) tx::(rws (movF n) x.2.2++(rws costF CT++(rws (asgF n) XT++M0)))) (fun x=>x.1<=n/\x.2.2.length=x.1/\x.2.1.length=n/\∀ i (h:i < x.2.2.length),x.2.1[i]?=some (.slice (some ⟨x.2.2[i].1,0,none⟩) n n)/\x.2.2[i].2=mvRow S n (xOf XT) g i) ?_ sbT sbL ?_
 ·exact ⟨Nat.zero_le _,rfl,hcl,fun i h=>absurd h (Nat.not_lt_zero _)⟩
 intro ⟨a,cs,MT⟩ ⟨ha,hml,hcs,hmt⟩ iha
 dsimp only at ha hml hcs hmt ⊢
 rw [hxe] at hmt iha
 by_cases han:a < n
 ·skip
  repeat' first|(refine gp ?_;and_intros<;>first|exact trivial|repeat first|intro(Bk:Nat)|intro h)|(apply G.make (n:=n) [.int .i64 0,.bool false,.string (bs []),.string (bs [])];rfl;rfl;rfl;rfl;rfl;rfl;rfl;rfl;omega;omega;intro Bq)|(apply G.s1;rfl;rfl;rfl;(repeat (first|exact RAt.head|apply RAt.tail));exact ⟨rfl,rfl⟩;omega;exact setL_one _ _ _)
  rw [zero_mv,Nat.zero_add,Nat.mul_one]
  have hcs1:(cs.set a (.slice (some ⟨Bq,0,none⟩) n n)).length=n:=by rw [List.length_set];exact hcs
  have hca:(cs.set a (.slice (some ⟨Bq,0,none⟩) n n))[0+a*1]?=some (.slice (some ⟨Bq,0,none⟩) n n):=by rw [Nat.zero_add,Nat.mul_one];exact List.getElem?_set_self (by omega)
  have hcb:∀ i (h:i < MT.length),(cs.set a (.slice (some ⟨Bq,0,none⟩) n n))[i]?=some (.slice (some ⟨MT[i].1,0,none⟩) n n):=fun i h=>by rw [List.getElem?_set_ne (by omega)];exact (hmt i h).1
  generalize cs.set a (.slice (some ⟨Bq,0,none⟩) n n)=cs1 at *
  refine J.loop (c:=_) ((0,List.replicate n (0,0)):Nat×List (Int×Rat)) (fun x=>n-x.1) (fun x=>[(0,.pointer (some ⟨bt,0,none⟩)),(2,.int .i64 n),(3,.slice (some ⟨Bm,0,none⟩) n n),(4,.slice (some ⟨Bd,0,none⟩) n n),(5,.slice (some ⟨Bf,0,none⟩) n n),(6,.int .i64 a),(32,.int .i64 n),(33,.int .i64 a),(41,.int .i64 n),(42,.int .i64 x.1)]) (fun x=>.blk Bq 221 (flat mvC x.2) (n*4)::.blk Bm 219 cs1 (n*1)::.blk Bd 25 (flat qW dl) (n*3)::.blk Bf 3 (flat isN fl) (n*1)::.blk bt 200 [.int .i64 rf,.int .i64 rt,.slice ra rl rc,.int .i64 rlo,.int .i64 rhi,.slice ca n cc,.slice (some ⟨bc,0,none⟩) S kc,.slice (some ⟨bx,0,none⟩) S kx] 8::.blk bc 61 (flat (costS n) CT) tc::.blk bx 28 (flat (asgS n) XT) tx::(rws (movF n) MT++(rws costF CT++(rws (asgF n) XT++M0)))) (fun x=>x.1<=n/\x.2.length=n/\(∀ j,j < x.1->x.2[j]?=some (mvV (mvF (xOf XT) g a j S)))/\∀ j,x.1<=j->j < n->x.2[j]?=some (0,0)) ?_ sbT sbL ?_
  ·exact ⟨Nat.zero_le _,by simp,fun j h=>absurd h (Nat.not_lt_zero _),fun j _ hj=>by dsimp only;rw [List.getElem?_replicate,if_pos hj]⟩
  intro ⟨b,L⟩ ⟨hb,hll,hl1,hl2⟩ ihb
  dsimp only at hb hll hl1 hl2 ⊢
  rw [hxe] at hl1 ihb
  by_cases hbn:b < n
  ·have hst:=mv_stage (L:=L) (b:=b) (by omega) (-1) (hl2 b (Nat.le_refl _) hbn)
   repeat' first|(refine gp ?_;and_intros<;>first|exact trivial|repeat first|intro(Bk:Nat)|intro h)|(apply G.ld;rfl;(apply LdV.one;apply CellV.blk;exact mm;exact hca);rfl)|(apply G.s1 (out:=flat mvC (L.set b (-1,0)));rfl;rfl;rfl;(repeat (first|exact RAt.head|apply RAt.tail));exact ⟨rfl,rfl⟩;(rw [flat_len mvC_len,addO_eq];omega);exact hst)
   refine J.loop (c:=_) ((0,L.set b (-1,0)):Nat×List (Int×Rat)) (fun x=>S-x.1) (fun x=>[(0,.pointer (some ⟨bt,0,none⟩)),(2,.int .i64 n),(3,.slice (some ⟨Bm,0,none⟩) n n),(4,.slice (some ⟨Bd,0,none⟩) n n),(5,.slice (some ⟨Bf,0,none⟩) n n),(6,.int .i64 a),(7,.int .i64 b),(32,.int .i64 n),(33,.int .i64 a),(41,.int .i64 n),(42,.int .i64 b),(56,.int .i64 S),(57,.int .i64 x.1)]) (fun x=>.blk Bq 221 (flat mvC x.2) (n*4)::.blk Bm 219 cs1 (n*1)::.blk Bd 25 (flat qW dl) (n*3)::.blk Bf 3 (flat isN fl) (n*1)::.blk bt 200 [.int .i64 rf,.int .i64 rt,.slice ra rl rc,.int .i64 rlo,.int .i64 rhi,.slice ca n cc,.slice (some ⟨bc,0,none⟩) S kc,.slice (some ⟨bx,0,none⟩) S kx] 8::.blk bc 61 (flat (costS n) CT) tc::.blk bx 28 (flat (asgS n) XT) tx::(rws (movF n) MT++(rws costF CT++(rws (asgF n) XT++M0)))) (fun x=>x.1<=S/\x.2.length=n/\(∀ j,j < b->x.2[j]?=some (mvV (mvF (xOf XT) g a j S)))/\x.2[b]?=some (mvV (mvF (xOf XT) g a b x.1))/\∀ j,b < j->j < n->x.2[j]?=some (0,0)) ?_ sbT sbL ?_
   ·refine ⟨Nat.zero_le _,by rw [List.length_set];exact hll,fun j h=>?_,?_,fun j h h2=>?_⟩
    ·dsimp only;rw [List.getElem?_set_ne (by omega),hxe];exact hl1 j h
    ·dsimp only;rw [List.getElem?_set_self (by omega)];rfl
    ·dsimp only;rw [List.getElem?_set_ne (by omega)];exact hl2 j (by omega) h2
   clear hl1 hl2 hll hst
   intro ⟨s,L⟩ ⟨hs,hll,hl1,hlb,hl2⟩ ihs
   dsimp only at hs hll hl1 hlb hl2 ⊢
   rw [hxe] at hl1 hlb ihs
   by_cases hsS:s < S
   ·
    have hsC:s < CT.length:=by omega
    have hsX:s < XT.length:=by omega
    have hmC:=fun R=>rws_mem (F:=costF) (M0:=R) hsC
    have hmX:=fun R=>rws_mem (F:=asgF n) (M0:=R) hsX
    have hc1:(flat (costS n) CT)[0+s*1]?=some (.slice (some ⟨CT[s].1,0,none⟩) n CT[s].2.1):=flat_one (f:=costS n) (fun _=>rfl) hsC rfl
    have hx1:(flat (asgS n) XT)[0+s*1]?=some (.slice (some ⟨XT[s].1,0,none⟩) n n):=flat_one (f:=asgS n) (fun _=>rfl) hsX rfl
    have hgb:=(hC.row s hsC).2 b hbn
    have hga:=(hC.row s hsC).2 a han
    have hxr:=hX.row s hsX
    have hxa:=xOf_at (XT:=XT) (s:=s) (c:=a) hsX (by omega)
    rw [hxe] at hxa
    have hxa:(flat isV XT[s].2)[0+a*1]?=some (.int .i64 (x s a)):=flat_one (f:=isV) isV_len (i:=a) (by omega) (by rw [(List.getElem?_eq_some_iff.1 hxa).2];rfl)
    have hxb:0<=x s a/\x s a<=1402560:=⟨hxn s a hsS han,by
     have h1:=iS_le1 (f:=x s) (fun c hc=>hxn s c hsS hc) a han
     rw [hF.row s hsS] at h1
     exact Int.le_trans h1 (hrow s hsS)⟩
    have hfb':=hg s b hsS hbn
    have hfa':=hg s a hsS han
    have hfby:=fewQ_sub hfb' hfa' (by decide) (by decide)
    have hsub:=vSub (fewQ.big hfb' (by decide)) (fewQ.big hfa' (by decide))
    have hset:=mv_set (L:=L) (b:=b) (by omega) ((s:Int),g s b-g s a)
    dsimp only [mvC,qW,qV] at hset
    have hstg:=mv_stg hlb
    have hby:=mv_by hlb
    have hmv:∀ q,mvF x g a b s=some q->q.1 < s/\q.2=g q.1 b-g q.1 a:=fun q h=>⟨(mvF_some h).1,(mvF_some h).2.2⟩
    generalize CT[s]=ce at *
    generalize XT[s]=xe at *
    obtain ⟨bce,kce,Lce⟩:=ce
    obtain ⟨bxe,Lxe⟩:=xe
    dsimp only [costF,asgF] at hmC hmX hc1 hx1 hgb hga hxa
    by_cases hxp:0 < x s a
    ·cases hmvs:mvF x g a b s with
     | none =>
      rw [hmvs] at hlb hstg hby
      have ihs:=ihs (s+1,L.set b ((s:Int),g s b-g s a)) ⟨hsS,by rw [List.length_set];exact hll,fun j h=>by dsimp only;rw [List.getElem?_set_ne (by omega)];exact hl1 j h,by dsimp only;rw [List.getElem?_set_self (by omega),mvF,if_pos hxp,hmvs];rfl,fun j h h2=>by dsimp only;rw [List.getElem?_set_ne (by omega)];exact hl2 j h h2⟩ (by dsimp only;omega)
      have hcmp:True:=trivial
      clear hlb hby hmvs hmv hfb' hfa' hfby hl1 hl2
      dsimp only [mvV] at hstg
      generalize rQ (g s b-g s a)=qby at *
      obtain ⟨n1,u1,d1⟩:=qby
      dsimp only [qA] at *
      repeat' first|(refine gp ?_;and_intros<;>first|exact trivial|repeat first|intro(Bk:Nat)|intro h)|(apply G.ld;rfl;(apply LdV.one;apply CellV.blk;exact mm;exact hc1);rfl)|(apply G.ld;rfl;(apply LdV.one;apply CellV.blk;exact mm;exact hx1);rfl)|(apply G.ld;rfl;exact LdV.flat qW_len (by (repeat (first|exact List.mem_append_right _ (hmC _)|apply List.Mem.tail))) hgb rfl;rfl)|(apply G.ld;rfl;exact LdV.flat qW_len (by (repeat (first|exact List.mem_append_right _ (hmC _)|apply List.Mem.tail))) hga rfl;rfl)|(apply G.ld;rfl;(apply LdV.one;apply CellV.blk;((repeat (first|exact List.mem_append_right _ (List.mem_append_right _ (hmX _))|apply List.Mem.tail)));exact hxa);rfl)|(apply J.regA (.q 0 <| .q 1 <| .q 2 <| .q 3 <| .q 4 <| .q 5 <| .q 6 <| .q 7 <| .q 8 <| .q 9 <| .q 10 <| .q 11 <| .q 12 <| .q 13 <| .q 14 <| .q 15 <| .q 16 <| .q 17 <| .q 18 <| .q 19 <| .q 20 <| .e 21 <| .r 22 <| .nil);exact Tryz.mixed;decide +kernel)|(apply G.cV (g:=28);rfl;rfl;exact fun w' _=>hsub w')|(apply G.ld;rfl;(apply LdV.one;apply CellV.blk;exact mm;exact hca);rfl)|(apply G.ld;rfl;(apply LdV.one;apply CellV.blk;exact mm;exact hstg);rfl)|(apply G.ld;rfl;(apply LdV.part;exact mm;exact hby;rfl);rfl)|(apply G.cV (g:=22);rfl;rfl;exact fun w' _=>hcmp w')|(apply G.sA (vs:=[.int .i64 s,.bool n1,.string (bs u1),.string (bs d1)]) (out:=flat mvC (L.set b ((s:Int),g s b-g s a)));rfl;rfl;rfl;(repeat (first|exact RAt.head|apply RAt.tail));rfl;rfl;(rw [flat_len mvC_len];dsimp only [List.length_cons,List.length_nil];omega);exact hset)
      exact J.fin ihs
     | some q =>
      rw [hmvs] at hlb hstg hby
      obtain ⟨q1,q2⟩:=q
      obtain ⟨hq1,hq2⟩:=hmv _ hmvs
      dsimp only at hq1 hq2
      have hfq:fewQ 283 (rQ q2):=by rw [hq2];exact fewQ_sub (hg q1 b (by omega) hbn) (hg q1 a (by omega) han) (by decide) (by decide)
      have hcmp:=vCmp (fewQ.big hfby (by decide)) (fewQ.big hfq (by decide))
      dsimp only [mvV,qW,qV] at hstg hby
      by_cases hlt:g s b-g s a < q2
      ·have ihs:=ihs (s+1,L.set b ((s:Int),g s b-g s a)) ⟨hsS,by rw [List.length_set];exact hll,fun j h=>by dsimp only;rw [List.getElem?_set_ne (by omega)];exact hl1 j h,by dsimp only;rw [List.getElem?_set_self (by omega),mvF,if_pos hxp,hmvs];dsimp only;rw [if_pos hlt];rfl,fun j h h2=>by dsimp only;rw [List.getElem?_set_ne (by omega)];exact hl2 j h h2⟩ (by dsimp only;omega)
       have hsg:sgnR (g s b-g s a-q2) < 0:=Int.not_le.1 fun h=>(sgn_ge.1 h) hlt
       clear hlb hmvs hmv hfb' hfa' hfby hl1 hl2 hq2 hlt hfq
       generalize sgnR (g s b-g s a-q2)=sg at *
       generalize rQ q2=qq at *
       generalize rQ (g s b-g s a)=qby at *
       obtain ⟨n1,u1,d1⟩:=qby
       obtain ⟨n2,u2,d2⟩:=qq
       dsimp only [qA] at *
       repeat' first|(refine gp ?_;and_intros<;>first|exact trivial|repeat first|intro(Bk:Nat)|intro h)|(apply G.ld;rfl;(apply LdV.one;apply CellV.blk;exact mm;exact hc1);rfl)|(apply G.ld;rfl;(apply LdV.one;apply CellV.blk;exact mm;exact hx1);rfl)|(apply G.ld;rfl;exact LdV.flat qW_len (by (repeat (first|exact List.mem_append_right _ (hmC _)|apply List.Mem.tail))) hgb rfl;rfl)|(apply G.ld;rfl;exact LdV.flat qW_len (by (repeat (first|exact List.mem_append_right _ (hmC _)|apply List.Mem.tail))) hga rfl;rfl)|(apply G.ld;rfl;(apply LdV.one;apply CellV.blk;((repeat (first|exact List.mem_append_right _ (List.mem_append_right _ (hmX _))|apply List.Mem.tail)));exact hxa);rfl)|(apply J.regA (.q 0 <| .q 1 <| .q 2 <| .q 3 <| .q 4 <| .q 5 <| .q 6 <| .q 7 <| .q 8 <| .q 9 <| .q 10 <| .q 11 <| .q 12 <| .q 13 <| .q 14 <| .q 15 <| .q 16 <| .q 17 <| .q 18 <| .q 19 <| .q 20 <| .e 21 <| .r 22 <| .nil);exact Tryz.mixed;decide +kernel)|(apply G.cV (g:=28);rfl;rfl;exact fun w' _=>hsub w')|(apply G.ld;rfl;(apply LdV.one;apply CellV.blk;exact mm;exact hca);rfl)|(apply G.ld;rfl;(apply LdV.one;apply CellV.blk;exact mm;exact hstg);rfl)|(apply G.ld;rfl;(apply LdV.part;exact mm;exact hby;rfl);rfl)|(apply G.cV (g:=22);rfl;rfl;exact fun w' _=>hcmp w')|(apply G.sA (vs:=[.int .i64 s,.bool n1,.string (bs u1),.string (bs d1)]) (out:=flat mvC (L.set b ((s:Int),g s b-g s a)));rfl;rfl;rfl;(repeat (first|exact RAt.head|apply RAt.tail));rfl;rfl;(rw [flat_len mvC_len];dsimp only [List.length_cons,List.length_nil];omega);exact hset)
       exact J.fin ihs
      ·have ihs:=ihs (s+1,L) ⟨hsS,hll,hl1,by dsimp only;rw [mvF,if_pos hxp,hmvs];dsimp only;rw [if_neg hlt];exact hlb,hl2⟩ (by dsimp only;omega)
       have hsg:0<=sgnR (g s b-g s a-q2):=sgn_ge.2 hlt
       clear hlb hmvs hmv hfb' hfa' hfby hl1 hl2 hq2 hlt hfq hset
       generalize sgnR (g s b-g s a-q2)=sg at *
       generalize rQ q2=qq at *
       generalize rQ (g s b-g s a)=qby at *
       obtain ⟨n1,u1,d1⟩:=qby
       obtain ⟨n2,u2,d2⟩:=qq
       dsimp only [qA] at *
       repeat' first|(refine gp ?_;and_intros<;>first|exact trivial|repeat first|intro(Bk:Nat)|intro h)|(apply G.ld;rfl;(apply LdV.one;apply CellV.blk;exact mm;exact hc1);rfl)|(apply G.ld;rfl;(apply LdV.one;apply CellV.blk;exact mm;exact hx1);rfl)|(apply G.ld;rfl;exact LdV.flat qW_len (by (repeat (first|exact List.mem_append_right _ (hmC _)|apply List.Mem.tail))) hgb rfl;rfl)|(apply G.ld;rfl;exact LdV.flat qW_len (by (repeat (first|exact List.mem_append_right _ (hmC _)|apply List.Mem.tail))) hga rfl;rfl)|(apply G.ld;rfl;(apply LdV.one;apply CellV.blk;((repeat (first|exact List.mem_append_right _ (List.mem_append_right _ (hmX _))|apply List.Mem.tail)));exact hxa);rfl)|(apply J.regA (.q 0 <| .q 1 <| .q 2 <| .q 3 <| .q 4 <| .q 5 <| .q 6 <| .q 7 <| .q 8 <| .q 9 <| .q 10 <| .q 11 <| .q 12 <| .q 13 <| .q 14 <| .q 15 <| .q 16 <| .q 17 <| .q 18 <| .q 19 <| .q 20 <| .e 21 <| .r 22 <| .nil);exact Tryz.mixed;decide +kernel)|(apply G.cV (g:=28);rfl;rfl;exact fun w' _=>hsub w')|(apply G.ld;rfl;(apply LdV.one;apply CellV.blk;exact mm;exact hca);rfl)|(apply G.ld;rfl;(apply LdV.one;apply CellV.blk;exact mm;exact hstg);rfl)|(apply G.ld;rfl;(apply LdV.part;exact mm;exact hby;rfl);rfl)|(apply G.cV (g:=22);rfl;rfl;exact fun w' _=>hcmp w')
       exact J.fin ihs
    ·have ihs:=ihs (s+1,L) ⟨hsS,hll,hl1,by dsimp only;rw [mvF,if_neg hxp];exact hlb,hl2⟩ (by dsimp only;omega)
     clear hmv hset hfb' hfa' hfby
     have hxz:x s a<=0:=by omega
     generalize g s b=gb at *
     generalize g s a=ga at *
     repeat' first|(refine gp ?_;and_intros<;>first|exact trivial|repeat first|intro(Bk:Nat)|intro h)|(apply G.ld;rfl;(apply LdV.one;apply CellV.blk;exact mm;exact hc1);rfl)|(apply G.ld;rfl;(apply LdV.one;apply CellV.blk;exact mm;exact hx1);rfl)|(apply G.ld;rfl;exact LdV.flat qW_len (by (repeat (first|exact List.mem_append_right _ (hmC _)|apply List.Mem.tail))) hgb rfl;rfl)|(apply G.ld;rfl;exact LdV.flat qW_len (by (repeat (first|exact List.mem_append_right _ (hmC _)|apply List.Mem.tail))) hga rfl;rfl)|(apply G.ld;rfl;(apply LdV.one;apply CellV.blk;((repeat (first|exact List.mem_append_right _ (List.mem_append_right _ (hmX _))|apply List.Mem.tail)));exact hxa);rfl)|(apply J.regA (.q 0 <| .q 1 <| .q 2 <| .q 3 <| .q 4 <| .q 5 <| .q 6 <| .q 7 <| .q 8 <| .q 9 <| .q 10 <| .q 11 <| .q 12 <| .q 13 <| .q 14 <| .q 15 <| .q 16 <| .q 17 <| .q 18 <| .q 19 <| .q 20 <| .e 21 <| .r 22 <| .nil);exact Tryz.mixed;decide +kernel)|(apply G.cV (g:=28);rfl;rfl;exact fun w' _=>hsub w')
     exact J.fin ihs
   ·obtain rfl:S=s:=by omega
    clear ihs
    have ihb:=ihb (b+1,L) ⟨hbn,hll,fun j h=>by
     by_cases e:j=b
     ·subst e;exact hlb
     ·exact hl1 j (by dsimp only at h;omega),fun j h h2=>hl2 j (by dsimp only at h;omega) h2⟩ (by dsimp only;omega)
    all_goals (refine go ?_;and_intros<;>first|exact trivial|repeat first|intro(Bk:Nat)|intro h)
    exact J.fin ihb
  ·obtain rfl:n=b:=by omega
   clear ihb
   have hL:=mvRow_of hll hl1
   have iha:=iha (a+1,cs1,MT++[(Bq,L)]) ⟨han,by simp [hml],hcs1,fun i h=>by
    dsimp only at h ⊢
    rw [List.length_append,List.length_singleton] at h
    by_cases e:i < MT.length
    ·rw [List.getElem_append_left e];exact ⟨hcb i e,(hmt i e).2⟩
    ·obtain rfl:i=MT.length:=by omega
     rw [List.getElem_concat_length rfl]
     refine ⟨?_,by rw [hml];exact hL⟩
     rw [Nat.zero_add,Nat.mul_one,<- hml] at hca
     exact hca⟩ (by dsimp only;omega)
   all_goals (refine go ?_;and_intros<;>first|exact trivial|repeat first|intro(Bk:Nat)|intro h)
   refine J.tabSnoc (F:=movF n) (T:=MT) [.blk Bm 219 cs1 (n*1),.blk Bd 25 (flat qW dl) (n*3),.blk Bf 3 (flat isN fl) (n*1),.blk bt 200 [.int .i64 rf,.int .i64 rt,.slice ra rl rc,.int .i64 rlo,.int .i64 rhi,.slice ca n cc,.slice (some ⟨bc,0,none⟩) S kc,.slice (some ⟨bx,0,none⟩) S kx] 8,.blk bc 61 (flat (costS n) CT) tc,.blk bx 28 (flat (asgS n) XT) tx] (Bq,L) ?_
   exact J.fin iha
 ·obtain rfl:n=a:=by omega
  clear iha
  repeat' first|(refine gp ?_;and_intros<;>first|exact trivial|repeat first|intro(Bk:Nat)|intro h)|(apply G.clrN (qV zero3);rfl;rfl;(repeat (first|exact RAt.head|apply RAt.tail));rfl;rfl;decide;rfl;exact Tryz.zeroValue25;(rw [flat_len qW_len];omega))
  rw [zero_qW,setL_all (by rw [flat_len qW_len,flat_len qW_len,hdl,List.length_replicate])]
  clear hdl
  have hmE:=mE_lt (S:=S) (n:=n) (x:=x) (g:=g)
  refine J.loop (c:=_) ((0,List.replicate n 0,fl,none,fun _=>0):Nat×List Rat×List Nat×Option Nat×(Nat->Nat)) (fun x=>n+1-x.1) (fun x=>[(0,.pointer (some ⟨bt,0,none⟩)),(2,.int .i64 n),(3,.slice (some ⟨Bm,0,none⟩) n n),(4,.slice (some ⟨Bd,0,none⟩) n n),(5,.slice (some ⟨Bf,0,none⟩) n n),(10,.int .i64 (chV x.2.2.2.1)),(130,.int .i64 ((n:Int)+1)),(131,.int .i64 x.1)]) (fun x=>.blk Bm 219 cs (n*1)::.blk Bd 25 (flat qW x.2.1) (n*3)::.blk Bf 3 (flat isN x.2.2.1) (n*1)::.blk bt 200 [.int .i64 rf,.int .i64 rt,.slice ra rl rc,.int .i64 rlo,.int .i64 rhi,.slice ca n cc,.slice (some ⟨bc,0,none⟩) S kc,.slice (some ⟨bx,0,none⟩) S kx] 8::.blk bc 61 (flat (costS n) CT) tc::.blk bx 28 (flat (asgS n) XT) tx::(rws (movF n) MT++(rws costF CT++(rws (asgF n) XT++M0)))) (fun x=>x.1<=n+1/\x.2.1.length=n/\x.2.2.1.length=n/\(∀ v∈x.2.2.1,v < n)/\(∀ y∈x.2.1,fewQ (8+300*(x.1*961)) (rQ y))/\BInv (mE S n (xOf XT) g) (x.1+1) (fun _ _=>False) (bfOf x.2.1 x.2.2.1 x.2.2.2.2)/\(0 < x.1->∃ P c,BInv (mE S n (xOf XT) g) x.1 P (bfOf x.2.1 x.2.2.1 x.2.2.2.2)/\x.2.2.2.1=some c/\c < n/\x.2.2.2.2 c=x.1)) ?_ sbT sbL ?_
  ·refine ⟨Nat.zero_le _,by simp,hfl,hfb,fun y hy=>?_,?_,fun h=>absurd h (Nat.lt_irrefl _)⟩
   ·rw [List.eq_of_mem_replicate hy];exact fewQ_zero
   ·dsimp only;rw [bf_zero];exact BInv.start' _ _
  clear hfl hfb
  intro ⟨r,dl,fl,ch,u⟩ ⟨hr,hdl,hfl,hfb,hdf,hBI,hlast⟩ ihr
  dsimp only at hr hdl hfl hfb hdf hBI hlast ⊢
  rw [hxe] at hBI hlast ihr
  by_cases hrn:r < n+1
  ·skip
   all_goals (refine go ?_;and_intros<;>first|exact trivial|repeat first|intro(Bk:Nat)|intro h)
   refine J.loop (c:=_) ((0,dl,fl,none,u):Nat×List Rat×List Nat×Option Nat×(Nat->Nat)) (fun x=>n-x.1) (fun x=>[(0,.pointer (some ⟨bt,0,none⟩)),(2,.int .i64 n),(3,.slice (some ⟨Bm,0,none⟩) n n),(4,.slice (some ⟨Bd,0,none⟩) n n),(5,.slice (some ⟨Bf,0,none⟩) n n),(10,.int .i64 (chV x.2.2.2.1)),(130,.int .i64 ((n:Int)+1)),(131,.int .i64 r),(133,.int .i64 n),(134,.int .i64 x.1)]) (fun x=>.blk Bm 219 cs (n*1)::.blk Bd 25 (flat qW x.2.1) (n*3)::.blk Bf 3 (flat isN x.2.2.1) (n*1)::.blk bt 200 [.int .i64 rf,.int .i64 rt,.slice ra rl rc,.int .i64 rlo,.int .i64 rhi,.slice ca n cc,.slice (some ⟨bc,0,none⟩) S kc,.slice (some ⟨bx,0,none⟩) S kx] 8::.blk bc 61 (flat (costS n) CT) tc::.blk bx 28 (flat (asgS n) XT) tx::(rws (movF n) MT++(rws costF CT++(rws (asgF n) XT++M0)))) (fun x=>x.1<=n/\x.2.1.length=n/\x.2.2.1.length=n/\(∀ v∈x.2.2.1,v < n)/\(∀ y∈x.2.1,fewQ (8+300*(r*961+x.1*31)) (rQ y))/\RI (mE S n (xOf XT) g) n (r+1) x.1 0 (bfOf x.2.1 x.2.2.1 x.2.2.2.2) x.2.2.2.1) ?_ sbT sbL ?_
   ·exact ⟨Nat.zero_le _,hdl,hfl,hfb,fun y hy=>fewQ_le (hdf y hy) (by dsimp only;omega),by dsimp only;rw [hxe];exact RI.start hBI⟩
   clear hdl hfl hfb hdf hBI hlast
   intro ⟨a,dl,fl,ch,u⟩ ⟨ha,hdl,hfl,hfb,hdf,hRI⟩ iha
   dsimp only at ha hdl hfl hfb hdf hRI ⊢
   rw [hxe] at hRI iha
   by_cases han:a < n
   ·skip
    all_goals (refine go ?_;and_intros<;>first|exact trivial|repeat first|intro(Bk:Nat)|intro h)
    refine J.loop (c:=_) ((0,dl,fl,ch,u):Nat×List Rat×List Nat×Option Nat×(Nat->Nat)) (fun x=>n-x.1) (fun x=>[(0,.pointer (some ⟨bt,0,none⟩)),(2,.int .i64 n),(3,.slice (some ⟨Bm,0,none⟩) n n),(4,.slice (some ⟨Bd,0,none⟩) n n),(5,.slice (some ⟨Bf,0,none⟩) n n),(10,.int .i64 (chV x.2.2.2.1)),(11,.int .i64 a),(130,.int .i64 ((n:Int)+1)),(131,.int .i64 r),(133,.int .i64 n),(134,.int .i64 a),(137,.int .i64 n),(138,.int .i64 x.1)]) (fun x=>.blk Bm 219 cs (n*1)::.blk Bd 25 (flat qW x.2.1) (n*3)::.blk Bf 3 (flat isN x.2.2.1) (n*1)::.blk bt 200 [.int .i64 rf,.int .i64 rt,.slice ra rl rc,.int .i64 rlo,.int .i64 rhi,.slice ca n cc,.slice (some ⟨bc,0,none⟩) S kc,.slice (some ⟨bx,0,none⟩) S kx] 8::.blk bc 61 (flat (costS n) CT) tc::.blk bx 28 (flat (asgS n) XT) tx::(rws (movF n) MT++(rws costF CT++(rws (asgF n) XT++M0)))) (fun x=>x.1<=n/\x.2.1.length=n/\x.2.2.1.length=n/\(∀ v∈x.2.2.1,v < n)/\(∀ y∈x.2.1,fewQ (8+300*(r*961+a*31+x.1)) (rQ y))/\RI (mE S n (xOf XT) g) n (r+1) a x.1 (bfOf x.2.1 x.2.2.1 x.2.2.2.2) x.2.2.2.1) ?_ sbT sbL ?_
    ·exact ⟨Nat.zero_le _,hdl,hfl,hfb,fun y hy=>fewQ_le (hdf y hy) (by dsimp only;omega),by dsimp only;rw [hxe];exact hRI⟩
    clear hdl hfl hfb hdf hRI
    intro ⟨b,dl,fl,ch,u⟩ ⟨hb,hdl,hfl,hfb,hdf,hRI⟩ ihb
    dsimp only at hb hdl hfl hfb hdf hRI ⊢
    rw [hxe] at hRI ihb
    by_cases hbn:b < n
    ·
     have haM:a < MT.length:=by omega
     have hmM:=fun R=>rws_mem (F:=movF n) (M0:=R) haM
     obtain ⟨hm1,hm2⟩:=hmt a haM
     have hm1:cs[0+a*1]?=some (.slice (some ⟨MT[a].1,0,none⟩) n n):=by rw [Nat.zero_add,Nat.mul_one];exact hm1
     have hme:MT[a].2[b]?=some (mvV (mvF x g a b S)):=by rw [hm2];exact mvRow_at hbn
     have hcase:=mv_mE (S:=S) (x:=x) (g:=g) han hbn
     have hrec:=fun (dl':List Rat) (fl':List Nat) ch' u' (h1:dl'.length=n) (h2:fl'.length=n) (h3:∀ v∈fl',v < n) (h4:∀ y∈dl',fewQ (8+300*(r*961+a*31+(b+1))) (rQ y)) h5=>ihb (b+1,dl',fl',ch',u') ⟨hbn,h1,h2,h3,h4,h5⟩ (by dsimp only;omega)
     clear ihb
     have hdf1:∀ y∈dl,fewQ (8+300*(r*961+a*31+(b+1))) (rQ y):=fun y hy=>fewQ_le (hdf y hy) (by omega)
     have hy2:∀ w,mE S n x g a b=some w->fewQ 283 (rQ w):=fun w hw=>by
      obtain ⟨_,_,_,h4,_,h6⟩:=mE_some hw
      rw [h6]
      exact fewQ_sub (hg _ b h4 hbn) (hg _ a h4 han) (by decide) (by decide)
     generalize mvV (mvF x g a b S)=y at *
     generalize MT[a]=me at *
     obtain ⟨bme,Lme⟩:=me
     obtain ⟨y1,y2⟩:=y
     dsimp only [movF] at hmM hm1 hme hcase
     have hld:mvC (y1,y2)=[.int .i64 y1,.bool (rQ y2).neg,.string (bs (rQ y2).num),.string (bs (rQ y2).den)]:=rfl
     by_cases hab:a=b
     ·have ih:=hrec dl fl ch u hdl hfl hfb hdf1 (hRI.skip fun w _ hne=>absurd hab hne)
      clear hrec hRI hcase hy2 hdf hdf1 hmt
      generalize rQ y2=qy at *
      obtain ⟨n1,u1,d1⟩:=qy
      repeat' first|(refine gp ?_;and_intros<;>first|exact trivial|repeat first|intro(Bk:Nat)|intro h)|(apply G.ld;rfl;(apply LdV.one;apply CellV.blk;exact mm;exact hm1);rfl)|(apply G.ld;rfl;exact LdV.flatV mvC_len (by (repeat (first|exact hmM _|apply List.Mem.tail))) hme rfl hld;rfl)
      exact J.fin ih
     ·rcases hcase with ⟨hmn,hy1⟩|⟨hms,hy1⟩
      ·have ih:=hrec dl fl ch u hdl hfl hfb hdf1 (hRI.skip fun w hw _=>by rw [hmn] at hw;cases hw)
       clear hrec hRI hy2 hdf hdf1 hmt hmn
       generalize rQ y2=qy at *
       obtain ⟨n1,u1,d1⟩:=qy
       repeat' first|(refine gp ?_;and_intros<;>first|exact trivial|repeat first|intro(Bk:Nat)|intro h)|(apply G.ld;rfl;(apply LdV.one;apply CellV.blk;exact mm;exact hm1);rfl)|(apply G.ld;rfl;exact LdV.flatV mvC_len (by (repeat (first|exact hmM _|apply List.Mem.tail))) hme rfl hld;rfl)
       exact J.fin ih
      ·have hda:dl[a]?=some (dl.getD a 0):=by rw [List.getD_eq_getElem?_getD,List.getElem?_eq_getElem (by omega)];rfl
       have hdb:dl[b]?=some (dl.getD b 0):=by rw [List.getD_eq_getElem?_getD,List.getElem?_eq_getElem (by omega)];rfl
       have hfa:=hdf _ (List.mem_of_getElem? hda)
       have hfb2:=hdf _ (List.mem_of_getElem? hdb)
       have hfy:=hy2 _ hms
       have hfs:=fewQ_add hfa hfy (by omega) (by decide)
       have hadd:=vAdd (fewQ.big hfa (by omega)) (fewQ.big hfy (by decide))
       have hcmp:=vCmp (fewQ.big hfs (by omega)) (fewQ.big hfb2 (by omega))
       have hl1:qW (dl.getD a 0)=[.bool (rQ (dl.getD a 0)).neg,.string (bs (rQ (dl.getD a 0)).num),.string (bs (rQ (dl.getD a 0)).den)]:=rfl
       have hl2:qW (dl.getD b 0)=[.bool (rQ (dl.getD b 0)).neg,.string (bs (rQ (dl.getD b 0)).num),.string (bs (rQ (dl.getD b 0)).den)]:=rfl
       by_cases hlt:dl.getD a 0+y2 < dl.getD b 0
       ·have hR2:=hRI.relax (by omega) hbn hms hab hlt
        rw [bf_rlx (by omega) (by omega)] at hR2
        have ih:=hrec (dl.set b (dl.getD a 0+y2)) (fl.set b a) (some b) _ (by rw [List.length_set];exact hdl) (by rw [List.length_set];exact hfl) (fun v hv=>(mem_set' hv).elim (hfb v) fun e=>by rw [e];exact han) (fun y hy=>(mem_set' hy).elim (hdf1 y) fun e=>by rw [e];exact fewQ_le hfs (by omega)) hR2
        have hset1:=qW_set (dl:=dl) (b:=b) (by omega) (dl.getD a 0+y2)
        have hset2:=isN_set (fl:=fl) (b:=b) (by omega) a
        dsimp only [qW,qV] at hset1
        have hsg:sgnR (dl.getD a 0+y2-dl.getD b 0) < 0:=Int.not_le.1 fun h=>(sgn_ge.1 h) hlt
        dsimp only [chV] at ih
        clear hrec hRI hy2 hdf hdf1 hmt hR2 hms hlt hfs hfa hfb2 hfy
        generalize sgnR (dl.getD a 0+y2-dl.getD b 0)=sg at *
        generalize hq1:rQ (dl.getD a 0+y2)=q1 at hset1 hadd hcmp
        generalize hq2:rQ (dl.getD a 0)=q2 at hl1 hadd
        generalize hq3:rQ (dl.getD b 0)=q3 at hl2 hcmp
        generalize hq4:rQ y2=q4 at hld hadd
        clear hq1 hq2 hq3 hq4
        obtain ⟨n1,u1,d1⟩:=q1
        obtain ⟨n2,u2,d2⟩:=q2
        obtain ⟨n3,u3,d3⟩:=q3
        obtain ⟨n4,u4,d4⟩:=q4
        dsimp only [qA] at hadd hcmp hset1 hl1 hl2 hld
        repeat' first|(refine gp ?_;and_intros<;>first|exact trivial|repeat first|intro(Bk:Nat)|intro h)|(apply G.ld;rfl;(apply LdV.one;apply CellV.blk;exact mm;exact hm1);rfl)|(apply G.ld;rfl;exact LdV.flatV mvC_len (by (repeat (first|exact hmM _|apply List.Mem.tail))) hme rfl hld;rfl)|(apply G.ld;rfl;exact LdV.flatV qW_len (by exact mm) hda rfl hl1;rfl)|(apply G.ld;rfl;exact LdV.flatV qW_len (by exact mm) hdb rfl hl2;rfl)|(apply G.cV (g:=27);rfl;rfl;exact fun w' _=>hadd w')|(apply G.cV (g:=22);rfl;rfl;exact fun w' _=>hcmp w')|(apply J.regA (.q 0 <| .q 1 <| .q 2 <| .q 3 <| .q 4 <| .q 5 <| .q 6 <| .q 7 <| .q 8 <| .q 9 <| .q 10 <| .q 11 <| .q 12 <| .q 13 <| .r 14 <| .q 15 <| .r 16 <| .q 17 <| .nil);exact Tryz.mixed;decide +kernel)|(apply G.sA (vs:=[.bool n1,.string (bs u1),.string (bs d1)]) (out:=flat qW (dl.set b (dl.getD a 0+y2)));rfl;rfl;rfl;(repeat (first|exact RAt.head|apply RAt.tail));rfl;rfl;(rw [flat_len qW_len];dsimp only [List.length_cons,List.length_nil];omega);exact hset1)|(apply G.s1 (out:=flat isN (fl.set b a));rfl;rfl;rfl;(repeat (first|exact RAt.head|apply RAt.tail));exact ⟨rfl,rfl⟩;(rw [flat_len isN_len];omega);exact hset2)
        exact J.fin ih
       ·have ih:=hrec dl fl ch u hdl hfl hfb hdf1 (hRI.skip fun w hw _=>by
         rw [hms] at hw
         cases hw
         exact Rat.not_lt.1 hlt)
        have hsg:0<=sgnR (dl.getD a 0+y2-dl.getD b 0):=sgn_ge.2 hlt
        clear hrec hRI hy2 hdf hdf1 hmt hms hlt hfs hfa hfb2 hfy
        generalize sgnR (dl.getD a 0+y2-dl.getD b 0)=sg at *
        generalize hq1:rQ (dl.getD a 0+y2)=q1 at hadd hcmp
        generalize hq2:rQ (dl.getD a 0)=q2 at hl1 hadd
        generalize hq3:rQ (dl.getD b 0)=q3 at hl2 hcmp
        generalize hq4:rQ y2=q4 at hld hadd
        clear hq1 hq2 hq3 hq4
        obtain ⟨n1,u1,d1⟩:=q1
        obtain ⟨n2,u2,d2⟩:=q2
        obtain ⟨n3,u3,d3⟩:=q3
        obtain ⟨n4,u4,d4⟩:=q4
        dsimp only [qA] at hadd hcmp hl1 hl2 hld
        repeat' first|(refine gp ?_;and_intros<;>first|exact trivial|repeat first|intro(Bk:Nat)|intro h)|(apply G.ld;rfl;(apply LdV.one;apply CellV.blk;exact mm;exact hm1);rfl)|(apply G.ld;rfl;exact LdV.flatV mvC_len (by (repeat (first|exact hmM _|apply List.Mem.tail))) hme rfl hld;rfl)|(apply G.ld;rfl;exact LdV.flatV qW_len (by exact mm) hda rfl hl1;rfl)|(apply G.ld;rfl;exact LdV.flatV qW_len (by exact mm) hdb rfl hl2;rfl)|(apply G.cV (g:=27);rfl;rfl;exact fun w' _=>hadd w')|(apply G.cV (g:=22);rfl;rfl;exact fun w' _=>hcmp w')
        exact J.fin ih
    ·obtain rfl:n=b:=by omega
     clear ihb
     have iha:=iha (a+1,dl,fl,ch,u) ⟨han,hdl,hfl,hfb,fun y hy=>fewQ_le (hdf y hy) (by dsimp only;omega),hRI.row hmE⟩ (by dsimp only;omega)
     all_goals (refine go ?_;and_intros<;>first|exact trivial|repeat first|intro(Bk:Nat)|intro h)
     exact J.fin iha
   ·obtain rfl:n=a:=by omega
    clear iha
    cases ch with
    | none =>
     have hpot:=fine_pot (fun a b ha hb=>hRI.stop a b ha hb)
     dsimp only [chV]
     all_goals (refine go ?_;and_intros<;>first|exact trivial|repeat first|intro(Bk:Nat)|intro h)
     refine end0 Tryz.func147 Tryz.results147 ?_
     intro w' hw'
     refine ⟨⟨XT,hX,hfs,by rw [hxe];exact hF,fun v=>dl.getD v 0,fun b hb=>?_,by rw [hxe];exact hpot⟩,rfl,hw'.sel (by (repeat' (first|exact Sel.refl|(refine Sel.cons (by (repeat (first|exact Pick.head|apply Pick.tail))) ?_)|apply Sel.drop|refine Sel.dropA ?_ _)))⟩
     dsimp only
     rw [List.getD_eq_getElem?_getD,List.getElem?_eq_getElem (by omega),Option.getD_some]
     exact fewQ_le (hdf _ (List.getElem_mem _)) (by omega)
    | some c =>
     obtain ⟨hc1,hc2⟩:=hRI.last c rfl
     have ihr:=ihr (r+1,dl,fl,some c,u) ⟨hrn,hdl,hfl,hfb,fun y hy=>fewQ_le (hdf y hy) (by dsimp only;omega),hRI.again hmE,fun _=>⟨_,c,hRI.inv,rfl,hc1,hc2⟩⟩ (by dsimp only;omega)
     dsimp only [chV] at ihr ⊢
     all_goals (refine go ?_;and_intros<;>first|exact trivial|repeat first|intro(Bk:Nat)|intro h)
     exact J.fin ihr
  ·obtain rfl:r=n+1:=by omega
   obtain ⟨P,c,hB2,rfl,hcn,huc⟩:=hlast (by omega)
   obtain ⟨p,hp,hall,k,hkn,hcyc,hneg,hedge⟩:=cyc_all hB2 huc
   clear ihr hBI hlast hB2 hdf huc
   have hfr:∀ b,b < n->(flat isN fl)[0+b*1]?=some (.int .i64 ((p b:Nat):Int)):=fun b hb=>by
    refine flat_one (f:=isN) isN_len (i:=b) (by omega) ?_
    rw [hp,List.getD_eq_getElem?_getD,List.getElem?_eq_getElem (by omega)];rfl
   clear hp
   have hxr:∀ s c,s < S->c < n->0<=x s c/\x s c<=1402560:=fun s a hsS han=>⟨hxn s a hsS han,by
     have h1:=iS_le1 (f:=x s) (fun c hc=>hxn s c hsS hc) a han
     rw [hF.row s hsS] at h1
     exact Int.le_trans h1 (hrow s hsS)⟩
   dsimp only [chV]
   all_goals (refine go ?_;and_intros<;>first|exact trivial|repeat first|intro(Bk:Nat)|intro h)
   refine J.loop (c:=_) (0:Nat) (fun s=>n-s) (fun s=>[(0,.pointer (some ⟨bt,0,none⟩)),(2,.int .i64 n),(3,.slice (some ⟨Bm,0,none⟩) n n),(4,.slice (some ⟨Bd,0,none⟩) n n),(5,.slice (some ⟨Bf,0,none⟩) n n),(14,.int .i64 ((itP p s c:Nat):Int)),(192,.int .i64 n),(193,.int .i64 s)]) (fun s=>.blk Bm 219 cs (n*1)::.blk Bd 25 (flat qW dl) (n*3)::.blk Bf 3 (flat isN fl) (n*1)::.blk bt 200 [.int .i64 rf,.int .i64 rt,.slice ra rl rc,.int .i64 rlo,.int .i64 rhi,.slice ca n cc,.slice (some ⟨bc,0,none⟩) S kc,.slice (some ⟨bx,0,none⟩) S kx] 8::.blk bc 61 (flat (costS n) CT) tc::.blk bx 28 (flat (asgS n) XT) tx::(rws (movF n) MT++(rws costF CT++(rws (asgF n) XT++M0)))) (fun s=>s<=n) ?_ sbT sbL ?_
   ·exact Nat.zero_le _
   intro i hi ihi
   by_cases hin:i < n
   ·have ihi:=ihi (i+1) hin (by omega)
    rw [itP_succ] at ihi
    have hfi:=hfr _ (hall i)
    have hbi:=hall i
    generalize itP p i c=b at *
    repeat' first|(refine gp ?_;and_intros<;>first|exact trivial|repeat first|intro(Bk:Nat)|intro h)|(apply G.ld;rfl;(apply LdV.one;apply CellV.blk;exact mm;exact hfi);rfl)
    exact J.fin ihi
   ·obtain rfl:n=i:=by omega
    clear ihi
    have hall2:∀ j,itP p j (itP p n c) < n:=fun j=>by rw [<- itP_add];exact hall _
    generalize itP p n c=v at *
    all_goals (refine go ?_;and_intros<;>first|exact trivial|repeat first|intro(Bk:Nat)|intro h)
    refine J.loop (c:=_) ((0,1402560):Nat×Int) (fun s=>k-s.1) (fun s=>[(0,.pointer (some ⟨bt,0,none⟩)),(2,.int .i64 n),(3,.slice (some ⟨Bm,0,none⟩) n n),(4,.slice (some ⟨Bd,0,none⟩) n n),(5,.slice (some ⟨Bf,0,none⟩) n n),(14,.int .i64 (v:Nat)),(15,.int .i64 s.2),(16,.int .i64 ((itP p s.1 v:Nat):Int)),(17,.bool (begunB s.1))]) (fun s=>.blk Bm 219 cs (n*1)::.blk Bd 25 (flat qW dl) (n*3)::.blk Bf 3 (flat isN fl) (n*1)::.blk bt 200 [.int .i64 rf,.int .i64 rt,.slice ra rl rc,.int .i64 rlo,.int .i64 rhi,.slice ca n cc,.slice (some ⟨bc,0,none⟩) S kc,.slice (some ⟨bx,0,none⟩) S kx] 8::.blk bc 61 (flat (costS n) CT) tc::.blk bx 28 (flat (asgS n) XT) tx::(rws (movF n) MT++(rws costF CT++(rws (asgF n) XT++M0)))) (fun s=>s.1<=k/\0 < s.2/\s.2<=1402560/\∀ i,i < s.1->s.2<=x (mS S x g (itP p (i+1) v) (itP p i v)) (itP p (i+1) v)) ?_ sbT sbL ?_
    ·exact ⟨Nat.zero_le _,by decide,by decide,fun i h=>absurd h (Nat.not_lt_zero _)⟩
    intro ⟨j,mo⟩ ⟨hjk,hm0,hm1,hmle⟩ ihj
    dsimp only at hjk hm0 hm1 hmle ⊢
    by_cases hj:j < k
    ·
     skip
     ·obtain ⟨q,hq,hab⟩:=hedge j
      obtain ⟨_,_,hmv,hsS,hx0,_⟩:=mE_some hq
      have hbv:begunB j=true->itP p j v≠v:=fun hb=>hcyc.once j (by cases j with
       | zero=>cases hb
       | succ j=>exact Nat.succ_pos _) hj
      have ha:=hall2 (j+1)
      have hb:=hall2 j
      have hfb2:=hfr _ hb
      rw [<- itP_succ p j v] at hfb2
      have haM:itP p (j+1) v < MT.length:=by omega
      have hmM:=fun R=>rws_mem (F:=movF n) (M0:=R) haM
      obtain ⟨hq1,hq2⟩:=hmt _ haM
      have hq1:cs[0+itP p (j+1) v*1]?=some (.slice (some ⟨MT[itP p (j+1) v].1,0,none⟩) n n):=by rw [Nat.zero_add,Nat.mul_one];exact hq1
      have hme:MT[itP p (j+1) v].2[itP p j v]?=some (mvV (mvF x g (itP p (j+1) v) (itP p j v) S)):=by rw [hq2];exact mvRow_at hb
      have hstg:=mv_stg hme
      rw [hmv] at hstg
      dsimp only [mvV] at hstg
      have hxv:=hxr _ _ hsS ha
      have ihj:=ihj (j+1,min mo (x (mS S x g (itP p (j+1) v) (itP p j v)) (itP p (j+1) v))) ⟨hj,by dsimp only;omega,by dsimp only;omega,fun i hi=>by
       dsimp only at hi ⊢
       by_cases e:i=j
       ·subst e;exact Int.min_le_right _ _
       ·exact Int.le_trans (Int.min_le_left _ _) (hmle i (by omega))⟩ (by dsimp only;omega)
      dsimp only at ihj
      have hx1:=xt_hd hX hsS
      have hxa:=xt_cell hX hsS ha
      have hmX:=xt_row hX hsS
      rw [hxe] at hxa
      clear hme hq2 hmle hq hmv hab hx0
      generalize MT[itP p (j+1) v]=me at *
      generalize XT.getD (mS S x g (itP p (j+1) v) (itP p j v)) (0,[])=xe at *
      generalize x (mS S x g (itP p (j+1) v) (itP p j v)) (itP p (j+1) v)=xv at *
      generalize mS S x g (itP p (j+1) v) (itP p j v)=s at *
      generalize itP p (j+1) v=a at *
      generalize itP p j v=b at *
      generalize hbg:begunB j=bg at *
      obtain ⟨bme,Lme⟩:=me
      obtain ⟨bxe,Lxe⟩:=xe
      dsimp only [movF,asgF] at hmM hq1 hstg hx1 hxa hmX
      cases bg with
      | false =>
       repeat' first|(refine gp ?_;and_intros<;>first|exact trivial|repeat first|intro(Bk:Nat)|intro h)|(apply G.ld;rfl;(apply LdV.one;apply CellV.blk;exact mm;exact hfb2);rfl)|(apply G.ld;rfl;(apply LdV.one;apply CellV.blk;exact mm;exact hq1);rfl)|(apply G.ld;rfl;(apply LdV.one;apply CellV.blk;(repeat (first|exact hmM _|apply List.Mem.tail));exact hstg);rfl)|(apply G.ld;rfl;(apply LdV.one;apply CellV.blk;exact mm;exact hx1);rfl)|(apply G.ld;rfl;(apply LdV.one;apply CellV.blk;((repeat (first|exact List.mem_append_right _ (List.mem_append_right _ (hmX _))|apply List.Mem.tail)));exact hxa);rfl)
       exact J.fin ihj
      | true =>
       have hne:=hbv rfl
       repeat' first|(refine gp ?_;and_intros<;>first|exact trivial|repeat first|intro(Bk:Nat)|intro h)|(apply G.ld;rfl;(apply LdV.one;apply CellV.blk;exact mm;exact hfb2);rfl)|(apply G.ld;rfl;(apply LdV.one;apply CellV.blk;exact mm;exact hq1);rfl)|(apply G.ld;rfl;(apply LdV.one;apply CellV.blk;(repeat (first|exact hmM _|apply List.Mem.tail));exact hstg);rfl)|(apply G.ld;rfl;(apply LdV.one;apply CellV.blk;exact mm;exact hx1);rfl)|(apply G.ld;rfl;(apply LdV.one;apply CellV.blk;((repeat (first|exact List.mem_append_right _ (List.mem_append_right _ (hmX _))|apply List.Mem.tail)));exact hxa);rfl)
       exact J.fin ihj
    ·obtain rfl:k=j:=by omega
     have hkv:=hcyc.back
     have hk1:begunB k=true:=by
      have:=hcyc.pos
      cases k with
      | zero=>omega
      | succ k=>rfl
     clear ihj
     rw [hkv,hk1]
     all_goals (refine go ?_;and_intros<;>first|exact trivial|repeat first|intro(Bk:Nat)|intro h)
     refine J.loop (c:=_) ((0,XT):Nat×List (Nat×List Int)) (fun s=>k-s.1) (fun s=>[(0,.pointer (some ⟨bt,0,none⟩)),(2,.int .i64 n),(3,.slice (some ⟨Bm,0,none⟩) n n),(4,.slice (some ⟨Bd,0,none⟩) n n),(5,.slice (some ⟨Bf,0,none⟩) n n),(14,.int .i64 (v:Nat)),(15,.int .i64 mo),(18,.int .i64 ((itP p s.1 v:Nat):Int)),(19,.bool (begunB s.1))]) (fun s=>.blk Bm 219 cs (n*1)::.blk Bd 25 (flat qW dl) (n*3)::.blk Bf 3 (flat isN fl) (n*1)::.blk bt 200 [.int .i64 rf,.int .i64 rt,.slice ra rl rc,.int .i64 rlo,.int .i64 rhi,.slice ca n cc,.slice (some ⟨bc,0,none⟩) S kc,.slice (some ⟨bx,0,none⟩) S kx] 8::.blk bc 61 (flat (costS n) CT) tc::.blk bx 28 (flat (asgS n) s.2) tx::(rws (movF n) MT++(rws costF CT++(rws (asgF n) s.2++M0)))) (fun s=>s.1<=k/\XtOk S n s.2/\flat (asgS n) s.2=flat (asgS n) XT/\∀ a b,a < S->b < n->xOf s.2 a b=updC p (mS S x g) mo s.1 v x a b) ?_ sbT sbL ?_
     ·exact ⟨Nat.zero_le _,hX,rfl,fun a b _ _=>by dsimp only;rw [hxe];rfl⟩
     intro ⟨j,XU⟩ ⟨hjk,hX',hfl',hxu⟩ ihj
     dsimp only at hjk hX' hfl' hxu ⊢
     by_cases hj:j < k
     ·obtain ⟨q,hq,hab⟩:=hedge j
      obtain ⟨_,_,hmv,hsS,hx0,_⟩:=mE_some hq
      have hbv:begunB j=true->itP p j v≠v:=fun hb=>hcyc.once j (by cases j with
       | zero=>cases hb
       | succ j=>exact Nat.succ_pos _) hj
      have ha:=hall2 (j+1)
      have hb:=hall2 j
      have hfb2:=hfr _ hb
      rw [<- itP_succ p j v] at hfb2
      have haM:itP p (j+1) v < MT.length:=by omega
      have hmM:=fun R=>rws_mem (F:=movF n) (M0:=R) haM
      obtain ⟨hq1,hq2⟩:=hmt _ haM
      have hq1:cs[0+itP p (j+1) v*1]?=some (.slice (some ⟨MT[itP p (j+1) v].1,0,none⟩) n n):=by rw [Nat.zero_add,Nat.mul_one];exact hq1
      have hme:MT[itP p (j+1) v].2[itP p j v]?=some (mvV (mvF x g (itP p (j+1) v) (itP p j v) S)):=by rw [hq2];exact mvRow_at hb
      have hstg:=mv_stg hme
      rw [hmv] at hstg
      dsimp only [mvV] at hstg
      have hbd:∀ s c,s < S->c < n->-60000000<=xOf XU s c/\xOf XU s c<=60000000:=fun s c hs hc=>by
       have h1:=updC_bd (p:=p) (sg:=mS S x g) (m:=mo) (by omega) j v x 1402560 (by
        have h2:=xOf_out hX (by rw [hxe];exact hxr)
        rw [hxe] at h2;exact h2) s c
       rw [<- hxu s c hs hc] at h1
       have h2:(j:Int)*mo<=31*1402560:=Int.mul_le_mul (by omega) hm1 (by omega) (by omega)
       omega
      have hxa:=xt_cell hX' hsS ha
      have hba:=hbd _ _ hsS ha
      have hbb:=hbd _ _ hsS hb
      have hx1:=xt_hd hX' hsS
      have hmX:=xt_row hX' hsS
      have hra:=xt_rat hX' hsS M0
      have hla:itP p (j+1) v < (XU.getD (mS S x g (itP p (j+1) v) (itP p j v)) (0,[])).2.length:=by rw [xt_len hX' hsS];exact ha
      have hX1:=putC_ok (c:=itP p (j+1) v) hX' hsS (xOf XU (mS S x g (itP p (j+1) v) (itP p j v)) (itP p (j+1) v)-mo)
      have hpr1:=putC_rws (n:=n) (XT:=XU) (s:=mS S x g (itP p (j+1) v) (itP p j v)) (c:=itP p (j+1) v) (xOf XU (mS S x g (itP p (j+1) v) (itP p j v)) (itP p (j+1) v)-mo)
      have hat1:=putC_at (c:=itP p (j+1) v) hX' hsS (xOf XU (mS S x g (itP p (j+1) v) (itP p j v)) (itP p (j+1) v)-mo)
      have hpx1:=fun t d=>putC_x hX' hsS ha (xOf XU (mS S x g (itP p (j+1) v) (itP p j v)) (itP p (j+1) v)-mo) t d
      have hpf1:=putC_flat (c:=itP p (j+1) v) hX' hsS (xOf XU (mS S x g (itP p (j+1) v) (itP p j v)) (itP p (j+1) v)-mo)
      generalize putC XU (mS S x g (itP p (j+1) v) (itP p j v)) (itP p (j+1) v) (xOf XU (mS S x g (itP p (j+1) v) (itP p j v)) (itP p (j+1) v)-mo)=XV at *
      have hxb:=xt_cell hX1 hsS hb
      have hxbe:xOf XV (mS S x g (itP p (j+1) v) (itP p j v)) (itP p j v)=xOf XU (mS S x g (itP p (j+1) v) (itP p j v)) (itP p j v):=by rw [hpx1,if_pos rfl,if_neg fun e=>hab e.symm]
      rw [hxbe] at hxb
      have hmX1:=xt_row hX1 hsS
      have hra1:=xt_rat hX1 hsS M0
      have hlb:itP p j v < (XV.getD (mS S x g (itP p (j+1) v) (itP p j v)) (0,[])).2.length:=by rw [xt_len hX1 hsS];exact hb
      have hpr2:=putC_rws (n:=n) (XT:=XV) (s:=mS S x g (itP p (j+1) v) (itP p j v)) (c:=itP p j v) (xOf XU (mS S x g (itP p (j+1) v) (itP p j v)) (itP p j v)+mo)
      have ihj:=ihj (j+1,putC XV (mS S x g (itP p (j+1) v) (itP p j v)) (itP p j v) (xOf XU (mS S x g (itP p (j+1) v) (itP p j v)) (itP p j v)+mo)) ⟨hj,putC_ok hX1 hsS _,by dsimp only;rw [putC_flat hX1 hsS,hpf1];exact hfl',fun t d ht hd=>by
       dsimp only
       rw [putC_x hX1 hsS hb,hpx1,updC_snoc,upd1,<- hxu t d ht hd]
       by_cases e1:t=mS S x g (itP p (j+1) v) (itP p j v)
       ·subst e1
        rw [if_pos rfl,if_pos rfl,if_pos rfl]
        by_cases e2:d=itP p j v
        ·subst e2
         rw [if_pos rfl,if_pos rfl,if_neg fun e=>hab e.symm];omega
        ·rw [if_neg e2,if_neg e2]
         by_cases e3:d=itP p (j+1) v
         ·subst e3
          rw [if_pos rfl,if_pos rfl];omega
         ·rw [if_neg e3,if_neg e3];omega
       ·rw [if_neg e1,if_neg e1,if_neg e1]⟩ (by dsimp only;omega)
      dsimp only at ihj
      rw [putC_flat hX1 hsS,hpf1,<- hpr2] at ihj
      clear hme hq2 hq hmv hx0 hpr2 hpf1 hpx1 hX1 hxu hxbe hbd hX'
      rw [hat1] at hxb hmX1 hra1 hlb ihj
      clear hat1
      generalize MT[itP p (j+1) v]=me at *
      generalize XU.getD (mS S x g (itP p (j+1) v) (itP p j v)) (0,[])=xe at *
      generalize xOf XU (mS S x g (itP p (j+1) v) (itP p j v)) (itP p (j+1) v)=xv at *
      generalize xOf XU (mS S x g (itP p (j+1) v) (itP p j v)) (itP p j v)=xw at *
      generalize mS S x g (itP p (j+1) v) (itP p j v)=s at *
      generalize itP p (j+1) v=a at *
      generalize itP p j v=b at *
      generalize hbg:begunB j=bg at *
      obtain ⟨bme,Lme⟩:=me
      obtain ⟨bxe,Lxe⟩:=xe
      dsimp only at hla hlb
      have hset1:=isV_set hla (xv-mo)
      have hset2:=isV_set hlb (xw+mo)
      dsimp only [movF,asgF] at hmM hq1 hstg hx1 hxa hmX hra hra1 hmX1 hxb hpr1 ihj
      cases bg with
      | false =>
       repeat' first|(refine gp ?_;and_intros<;>first|exact trivial|repeat first|intro(Bk:Nat)|intro h)|(apply G.ld;rfl;(apply LdV.one;apply CellV.blk;exact mm;exact hfb2);rfl)|(apply G.ld;rfl;(apply LdV.one;apply CellV.blk;exact mm;exact hq1);rfl)|(apply G.ld;rfl;(apply LdV.one;apply CellV.blk;(repeat (first|exact hmM _|apply List.Mem.tail));exact hstg);rfl)|(apply G.ld;rfl;(apply LdV.one;apply CellV.blk;exact mm;exact hx1);rfl)|(apply G.ld;rfl;(apply LdV.one;apply CellV.blk;((repeat (first|exact List.mem_append_right _ (List.mem_append_right _ (hmX _))|apply List.Mem.tail)));exact hxa);rfl)|(apply G.ld;rfl;(apply LdV.one;apply CellV.blk;((repeat (first|exact List.mem_append_right _ (List.mem_append_right _ (hmX1 _))|apply List.Mem.tail)));exact hxb);rfl)|(apply J.regA (.q 0 <| .q 1 <| .q 2 <| .q 3 <| .q 4 <| .q 5 <| .q 6 <| .q 7 <| .q 8 <| .q 9 <| .q 10 <| .q 11 <| .q 12 <| .q 13 <| .q 14 <| .q 15 <| .r 16 <| .nil);exact Tryz.mixed;decide +kernel)|(apply G.s1e;rfl;rfl;rfl;exact RAt.tail (RAt.tail (RAt.tail (RAt.tail (RAt.tail (RAt.tail (RAt.app (RAt.app hra _) _))))));exact ⟨rfl,rfl⟩;(rw [flat_len isV_len];omega);exact hset1;(show _::_::_::_::_::_::(rws (movF n) MT++(rws costF CT++((rws (asgF n) XU).set s (.blk bxe 3 (flat isV (Lxe.set a (xv-mo))) (n*1))++M0)))=_;rw [hpr1]))|(apply G.s1;rfl;rfl;rfl;exact RAt.tail (RAt.tail (RAt.tail (RAt.tail (RAt.tail (RAt.tail (RAt.app (RAt.app hra1 _) _))))));exact ⟨rfl,rfl⟩;(rw [flat_len isV_len];omega);exact hset2)
       exact J.fin ihj
      | true =>
       have hne:=hbv rfl
       repeat' first|(refine gp ?_;and_intros<;>first|exact trivial|repeat first|intro(Bk:Nat)|intro h)|(apply G.ld;rfl;(apply LdV.one;apply CellV.blk;exact mm;exact hfb2);rfl)|(apply G.ld;rfl;(apply LdV.one;apply CellV.blk;exact mm;exact hq1);rfl)|(apply G.ld;rfl;(apply LdV.one;apply CellV.blk;(repeat (first|exact hmM _|apply List.Mem.tail));exact hstg);rfl)|(apply G.ld;rfl;(apply LdV.one;apply CellV.blk;exact mm;exact hx1);rfl)|(apply G.ld;rfl;(apply LdV.one;apply CellV.blk;((repeat (first|exact List.mem_append_right _ (List.mem_append_right _ (hmX _))|apply List.Mem.tail)));exact hxa);rfl)|(apply G.ld;rfl;(apply LdV.one;apply CellV.blk;((repeat (first|exact List.mem_append_right _ (List.mem_append_right _ (hmX1 _))|apply List.Mem.tail)));exact hxb);rfl)|(apply J.regA (.q 0 <| .q 1 <| .q 2 <| .q 3 <| .q 4 <| .q 5 <| .q 6 <| .q 7 <| .q 8 <| .q 9 <| .q 10 <| .q 11 <| .q 12 <| .q 13 <| .q 14 <| .q 15 <| .r 16 <| .nil);exact Tryz.mixed;decide +kernel)|(apply G.s1e;rfl;rfl;rfl;exact RAt.tail (RAt.tail (RAt.tail (RAt.tail (RAt.tail (RAt.tail (RAt.app (RAt.app hra _) _))))));exact ⟨rfl,rfl⟩;(rw [flat_len isV_len];omega);exact hset1;(show _::_::_::_::_::_::(rws (movF n) MT++(rws costF CT++((rws (asgF n) XU).set s (.blk bxe 3 (flat isV (Lxe.set a (xv-mo))) (n*1))++M0)))=_;rw [hpr1]))|(apply G.s1;rfl;rfl;rfl;exact RAt.tail (RAt.tail (RAt.tail (RAt.tail (RAt.tail (RAt.tail (RAt.app (RAt.app hra1 _) _))))));exact ⟨rfl,rfl⟩;(rw [flat_len isV_len];omega);exact hset2)
       exact J.fin ihj
     ·obtain rfl:k=j:=by omega
      clear ihj
      rw [hkv,hk1]
      obtain ⟨hF2,hlt⟩:=feas_cycle hF (w:=mE S n x g) (sg:=mS S x g) (fun a b r h=>⟨(mE_some h).2.2.2.1,(mE_some h).2.2.2.2.2⟩) hcyc hall2 (fun i=>by obtain ⟨q,hq,_⟩:=hedge i;rw [hq];rfl) hm0 hmle hneg
      have hF3:=hF2.congr (y:=xOf XU) hxu
      have ih:=ih (XU,cs,dl,fl) ⟨hX',hfl'.trans hfs,hF3,hcs,hdl,hfl,hfb⟩ (by dsimp only;exact mea_lt hDp hiq (hK _ hF3) (by rw [cost_congr hxu];exact hlt))
      all_goals (refine go ?_;and_intros<;>first|exact trivial|repeat first|intro(Bk:Nat)|intro h)
      exact J.sel (J.sub (by (repeat' (first|exact trivial|refine ⟨rfl,?_⟩))) ih) (by (repeat' (first|exact Sel.refl|(refine Sel.cons (by (repeat (first|exact Pick.head|apply Pick.tail))) ?_)|apply Sel.drop|refine Sel.dropA ?_ _)))
end Go.Proofs.YtjcecdmbfmccoaaGreatDoor
