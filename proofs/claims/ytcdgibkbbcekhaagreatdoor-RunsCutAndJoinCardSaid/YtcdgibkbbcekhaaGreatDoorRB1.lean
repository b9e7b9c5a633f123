/-
  Strings: lengths, bytes, parts, sums, comparisons, and conversions from and to bytes.
-/
import Derived.Test.YtcdgibkbbcekhaaGreatDoorRA40
import Derived.Test.YtcdgibkbbcekhaaGreatDoorRA39
import Derived.Laws.IdiomStrings
import Derived.Laws.Concat
import Derived.Laws.Strings3
import Derived.Test.YtcdgibkbbcekhaaGreatDoorRows
import Derived.ProofKit
set_option linter.unusedVariables false
set_option linter.unusedSimpArgs false
set_option linter.unusedSectionVars false
namespace Go.Sl
open Go.RowKit
variable {C:Ctx}{st:List (Nat×Value)}{M:List Row}{k:List Item}{q q':Md}{all rest:List Oper}{d:Nat}{ty:TypeId}{pos:String}{after:Array Edge}{gd:Option (Nat×Bool)}
theorem OpV.neqStr {t:TypeId}{x y:Operand}{yt:TypeId}{a b:List UInt8} (hx:evS st x=some (.string (bs a))) (hy:evS st y=some (.string (bs b))):OpV C st M (.binOp .neq t x y yt) ty (.bool (!decide (a=b))) :=
 OpV.binStr hx hy fun w=>by
  rw [binOp_string_neq,bs_toList,bs_toList]
  have:(a == b)=decide (a=b):=by by_cases h:a=b<;>simp [h]
  rw [this];rfl
theorem G.neqStr {t:TypeId}{x y:Operand}{yt:TypeId}{a b:List UInt8} (hx:evS st x=some (.string (bs a))) (hy:evS st y=some (.string (bs b))) (hg:wnB all st gd=true) (hd:Nat.blt d C.N=true) (hq:q.calm=some q') (h1:a=b→G q' C all ((d,.bool false)::st) M rest k) (h2:a≠b→G q' C all ((d,.bool true)::st) M rest k) :
  G q C all st M ({ dst:=some d,op:=.binOp .neq t x y yt,type:=ty,pos,after,guard:=gd }::rest) k:=by
 refine G.opBool (OpV.neqStr hx hy) hg rfl hd hq (fun e=>h2 (by simpa using e)) (fun e=>h1 (by simpa using e))
end Go.Sl
/-
 How arguments read: what all chapters share.
-/
namespace Go.Proofs.YtcdgibkbbcekhaaGreatDoor
open Go.RowKit Go.Sl Go.Num Go.ChangeShapes Go.WideShapes
theorem rU8:Reads Tryz.prog 5 (fun n:Nat=>[.int .u8 n]) (fun _ n=>n≤255):=(Reads.int Tryz.underlying5).turn fun _ n h=>by
 have h2:0≤n∧n≤255:=by rw [Lit.wf,Bool.and_eq_true,decide_eq_true_eq,decide_eq_true_eq] at h;exact h
 exact ⟨n.toNat,by rw [Int.toNat_of_nonneg h2.1],by omega⟩
end Go.Proofs.YtcdgibkbbcekhaaGreatDoor
/-
 Plain: what is cut at a tick and joined again.
-/
namespace Go.Proofs.YtcdgibkbbcekhaaGreatDoor
open Go.RowKit Go.Sl Go.Num
theorem joinF_eqB {o o' l l':List Rn} (h:o.map rbare=o'.map rbare) (hl:l.map rbare=l'.map rbare):(joinF o l).map rbare=(joinF o' l').map rbare:=by
 rw [← joinF_bare,← joinF_bare,h,hl]
theorem putL_two {x x1 x2:Rn} (h12:jblB x1 x2=true) (hj:rbare (jnR x1 x2)=rbare x) (hy:∀ y,jblB y x1=jblB y x) (hy2:∀ y,jblB y x=true→jblB (jnR y x1) x2=true∧rbare (jnR (jnR y x1) x2)=rbare (jnR y x)) (o:List Rn):(putL (putL o x1) x2).map rbare=(putL o x).map rbare:=by
 rcases nil_or_snoc o with rfl|⟨o,y,rfl⟩
 ·rw [putL_nil,putL_nil,show [x1]=[]++[x1] from rfl,putL_snoc,if_pos h12]
  show [rbare (jnR x1 x2)]=[rbare x]
  rw [hj]
 ·rw [putL_snoc,putL_snoc,hy]
  by_cases hc:jblB y x=true
  ·rw [if_pos hc,if_pos hc,putL_snoc,if_pos (hy2 y hc).1,List.map_append,List.map_append]
   show _++[rbare (jnR (jnR y x1) x2)]=_++[rbare (jnR y x)]
   rw [(hy2 y hc).2]
  ·rw [if_neg hc,if_neg hc,putL_snoc,if_pos h12,List.map_append,List.map_append (l₂:=[x])]
   show _++[rbare (jnR x1 x2)]=_++[rbare x]
   rw [hj]
theorem jbl_raw {y x:Rn} (hx:x.tab.length=1):jblB y x=decide (y.tab.length=1∧stg y=stg x):=by
 rw [jblB]
 by_cases h:y.tab.length=1
 ·rw [if_pos ⟨h,hx⟩]
  by_cases h2:stg y=stg x
  ·rw [decide_eq_true h2,decide_eq_true ⟨h,h2⟩]
  ·rw [decide_eq_false h2,decide_eq_false fun h3=>h2 h3.2]
 ·rw [if_neg fun h2=>h h2.1,decide_eq_false fun h2=>absurd hx (by omega),decide_eq_false fun h2=>h h2.1]
theorem jbl_gap {y x:Rn} (hx:x.tab.length=0):jblB y x=decide (y.tab.length=0∧y.lo=x.lo∧y.hi=x.hi):=by
 rw [jblB,if_neg fun h2=>absurd h2.2 (by omega)]
 by_cases h:y.tab.length=0∧y.lo=x.lo∧y.hi=x.hi
 ·rw [decide_eq_true h,decide_eq_true ⟨h.1,hx,h.2⟩]
 ·rw [decide_eq_false h,decide_eq_false fun h2=>h ⟨h2.1,h2.2.2⟩]
theorem cutd_one {at_:Int}{x x1 x2:Rn} (hx:OkR x) (h1:x.from_ < at_) (h2:at_ < x.to_) (h:(x.tab.length=1∧x1=mkR x.from_ at_ (stg x)∧x2=mkR at_ x.to_ (stg x))∨(x.tab.length=0∧x1={ x with to_:=at_ }∧x2={ x with from_:=at_ })) :
  OkR x1∧OkR x2∧x1.from_=x.from_∧x1.to_=at_∧x2.from_=at_∧x2.to_=x.to_∧cntR x1*cntR x2=cntR x∧∀ o,(putL (putL o x1) x2).map rbare=(putL o x).map rbare:=by
 have hr:=hx.rng
 rcases h with ⟨h0,rfl,rfl⟩|⟨h0,rfl,rfl⟩
 ·obtain ⟨⟨a1,a2,a3⟩,a4⟩:=hx.raw h0
  refine ⟨mkR_ok ⟨hr.1,h1,by omega⟩ a4,mkR_ok ⟨by omega,h2,hr.2.2⟩ a4,rfl,rfl,rfl,rfl,?_,?_⟩
  ·have e:∀ f t s,cntR (mkR f t s)=1:=fun f t s=>by
    rw [cntR,if_neg (by show ¬ (1=0);decide)]
    show chs 0 _*1=1
    rw [Nat.mul_one]
    cases (t-f).toNat<;>rfl
   have e2:cntR x=1:=by
    rw [cntR,if_neg (by omega),a1]
    show chs 0 _*1=1
    rw [Nat.mul_one]
    cases (x.to_-x.from_).toNat<;>rfl
   rw [e,e,e2]
  ·have hb:rbare x=mkR x.from_ x.to_ (stg x):=by
    obtain ⟨xf,xt,tab,ad,cp,lo,hi⟩:=x
    dsimp only at a1 a2 a3
    rw [a2,a3]
    show (⟨xf,xt,tab,none,0,0,0⟩:Rn)=_
    rw [a1];rfl
   refine putL_two (by rw [jbl_raw rfl];exact decide_eq_true ⟨rfl,rfl⟩) (hb ▸ rfl) (fun y=>by rw [jbl_raw rfl,jbl_raw h0];rfl) fun y hy=>⟨by rw [jbl_raw rfl];exact decide_eq_true ⟨rfl,rfl⟩,?_⟩
   rw [← jnR_bare y x,hb];rfl
 ·obtain ⟨g1,g2,g3⟩:=hx.gap h0
  have e0:∀ f t:Int,0≤f→f < t→t≤1402560→OkR { x with from_:=f,to_:=t }:=fun f t q1 q2 q3=>⟨by rw [inT,decide_eq_true_eq];exact ⟨q1,q2,q3⟩,by rw [oneE,if_pos h0,if_neg];show ¬ (x.lo < 0∨x.hi < x.lo∨1000 < x.hi);omega⟩
  refine ⟨e0 _ _ hr.1 h1 (by omega),e0 _ _ (by omega) h2 hr.2.2,rfl,rfl,rfl,rfl,?_,?_⟩
  ·rw [cntR,if_pos h0,cntR,if_pos h0,cntR,if_pos h0,← Nat.pow_add]
   show (x.hi-x.lo+1).toNat ^ ((at_-x.from_).toNat+(x.to_-at_).toNat)=_
   rw [show (at_-x.from_).toNat+(x.to_-at_).toNat=(x.to_-x.from_).toNat by omega]
  ·have e1:x.tab=[]:=List.length_eq_zero_iff.1 h0
   have hb:∀ y z:Rn,jnR y { x with from_:=at_ }=⟨y.from_,x.to_,[],none,0,x.lo,x.hi⟩:=fun y _=>by show (⟨y.from_,x.to_,if x.tab.length=0 then [] else _,none,0,x.lo,x.hi⟩:Rn)=_;rw [if_pos h0]
   refine putL_two ((jbl_gap (x:={ x with from_:=at_ }) h0).trans (decide_eq_true ⟨h0,rfl,rfl⟩)) ?_ (fun y=>(jbl_gap (x:={ x with to_:=at_ }) h0).trans (jbl_gap h0).symm) fun y hy=>⟨(jbl_gap (x:={ x with from_:=at_ }) h0).trans (decide_eq_true ⟨by show (if x.tab.length=0 then [] else _).length=0;rw [if_pos h0];rfl,rfl,rfl⟩),?_⟩
   ·rw [hb _ x]
    show (⟨x.from_,x.to_,[],none,0,x.lo,x.hi⟩:Rn)=⟨x.from_,x.to_,x.tab,none,0,x.lo,x.hi⟩
    rw [e1]
   ·rw [hb _ x]
    show (⟨y.from_,x.to_,[],none,0,x.lo,x.hi⟩:Rn)=⟨y.from_,x.to_,if x.tab.length=0 then [] else _,none,0,x.lo,x.hi⟩
    rw [if_pos h0]
theorem cutd_all {at_:Int}:∀ {l:List Rn}{f t:Int}{a b:List Rn},Cn f l t→(∀ r∈l,OkR r)→at_≤f→cutF at_ (a,b) l=some (a,b++l)
 | [],_,_,_,b,_,_,_=>by rw [cutF,List.append_nil]
 | x::l,f,t,a,b,hC,hO,hf=>by
  have hx:=(hO x (List.mem_cons_self ..)).rng
  have h1:=hC.1
  rw [cutF,cutR,if_neg (by omega),if_pos (by omega)]
  dsimp only
  rw [List.append_nil,cutd_all hC.2 (fun r hr=>hO r (List.mem_cons_of_mem _ hr)) (by omega),List.append_assoc];rfl
theorem cutd_of {at_:Int}:∀ {l:List Rn}{f t:Int}{a A B:List Rn},Cn f l t→(∀ r∈l,OkR r)→f≤at_→at_≤t→cutF at_ (a,[]) l=some (A,B)→∃ A',A=a++A'∧Cutd at_ f t l A' B
 | [],f,t,a,A,B,hC,_,h1,h2,h=>by
  rw [Cn] at hC
  rw [cutF] at h
  cases h
  exact ⟨[],(List.append_nil _).symm,by rw [Cn];omega,by rw [Cn];omega,fun r hr=>(by cases hr),fun r hr=>(by cases hr),fun o=>rfl,rfl⟩
 | x::l,f,t,a,A,B,hC,hO,h1,h2,h=>by
  have hx:=hO x (List.mem_cons_self ..)
  have hO':=fun r hr=>hO r (List.mem_cons_of_mem x hr)
  have hr:=hx.rng
  have hf:=hC.1
  by_cases q1:x.to_≤at_
  ·rw [cutF,cutR,if_pos q1] at h
   dsimp only at h
   rw [List.append_nil] at h
   obtain ⟨A',e,hc⟩:=cutd_of hC.2 hO' q1 h2 h
   refine ⟨x::A',by rw [e,List.append_assoc];rfl,⟨hf,hc.ca⟩,hc.cb,fun r hr=>?_,hc.ob,fun o=>?_,?_⟩
   ·rcases List.mem_cons.1 hr with rfl|hr
    ·exact hx
    ·exact hc.oa r hr
   ·rw [List.cons_append,joinF_cons,joinF_cons];exact hc.jn _
   ·rw [cntL,cntL,← hc.ct,Nat.mul_assoc]
  by_cases q2:at_≤x.from_
  ·rw [cutd_all hC hO (by omega)] at h
   cases h
   exact ⟨[],(List.append_nil _).symm,by rw [Cn];omega,by rw [show at_=f by omega];exact hC,fun r hr=>(by cases hr),hO,fun o=>rfl,by rw [cntL,Nat.one_mul];rfl⟩
  rw [cutF,cutR,if_neg q1,if_neg q2] at h
  by_cases q3:1 < x.tab.length
  ·rw [if_pos q3] at h;cases h
  rw [if_neg q3] at h
  have key:∀ x1 x2,((x.tab.length=1∧x1=mkR x.from_ at_ (stg x)∧x2=mkR at_ x.to_ (stg x))∨(x.tab.length=0∧x1={ x with to_:=at_ }∧x2={ x with from_:=at_ }))→cutF at_ (a++[x1],[]++[x2]) l=some (A,B)→∃ A',A=a++A'∧Cutd at_ f t (x::l) A' B:=fun x1 x2 hxx hh=>by
   obtain ⟨c1,c2,c3,c4,c5,c6,c7,c8⟩:=cutd_one hx (by omega) (by omega) hxx
   rw [List.nil_append,cutd_all hC.2 hO' (by omega)] at hh
   cases hh
   refine ⟨[x1],rfl,⟨by omega,by rw [Cn];exact c4⟩,⟨c5,by rw [c6];exact hC.2⟩,fun r hr=>by rw [List.mem_singleton.1 hr];exact c1,fun r hr=>?_,fun o=>?_,?_⟩
   ·rcases List.mem_cons.1 hr with rfl|hr
    ·exact c2
    ·exact hO' r hr
   ·show (joinF (putL (putL o x1) x2) l).map rbare=(joinF (putL o x) l).map rbare
    exact joinF_eqB (c8 o) rfl
   ·show cntR x1*1*(cntR x2*cntL l)=cntR x*cntL l
    rw [Nat.mul_one,← Nat.mul_assoc,c7]
  by_cases q4:x.tab.length=1
  ·rw [if_pos q4] at h
   exact key _ _ (.inl ⟨q4,rfl,rfl⟩) h
  ·rw [if_neg q4] at h
   exact key _ _ (.inr ⟨by omega,rfl,rfl⟩) h
theorem cut_law {l A B:List Rn}{tick:Int} (h:runsErr l=0) (h0:l≠[]) (h1:(headD' l).from_≤tick) (h2:tick≤(lastD l).to_) (h3:(lastD l).to_-(headD' l).from_≤60) (hc:cutE' l tick=((A,B),0)) :
  Cutd tick (headD' l).from_ (lastD l).to_ l A B∧joinE A B=(joinL (A++B),0)∧joinE l []=(joinL l,0)∧(joinL (A++B)).map rbare=(joinL l).map rbare∧runsErr (joinL l)=0∧runsErr A=0∧runsErr B=0:=by
 obtain ⟨hO,_,hC⟩:=runs_ok h
 obtain ⟨hC,_⟩:=hC h0
 rw [cutE',if_neg (fun e=>e h),if_neg (by rintro (e|e|e);exact h0 (List.length_eq_zero_iff.1 e);omega;omega)] at hc
 cases hf:cutF tick ([],[]) l with
 | none=>rw [hf] at hc;cases hc
 | some o =>
  rw [hf] at hc
  obtain ⟨rfl,_⟩:=Prod.mk.inj hc
  obtain ⟨A',e,hd⟩:=cutd_of hC hO h1 h2 hf
  rw [List.nil_append] at e
  subst e
  obtain ⟨j1,j2,_⟩:=joinL_ok hC hO
  refine ⟨hd,joinE_ok hd.ca hd.cb hd.oa hd.ob (by omega),?_,hd.jn [],runs_of j1 j2 (by omega),runs_of hd.ca hd.oa (by omega),runs_of hd.cb hd.ob (by omega)⟩
  have:=joinE_ok hC (B:=[]) (t:=(lastD l).to_) rfl hO (fun r hr=>by cases hr) (by omega)
  rw [List.append_nil] at this
  exact this
theorem cut_either {l:List Rn}{tick:Int} (h:runsErr l=0) (h0:l≠[]) (h1:(headD' l).from_≤tick) (h2:tick≤(lastD l).to_):(cutE' l tick).2=0∨(cutE' l tick).2=29:=by
 rw [cutE',if_neg (fun e=>e h),if_neg (by rintro (e|e|e);exact h0 (List.length_eq_zero_iff.1 e);omega;omega)]
 cases cutF tick ([],[]) l with
 | none=>exact .inr rfl
 | some o=>exact .inl rfl
end Go.Proofs.YtcdgibkbbcekhaaGreatDoor
/-
 Plain: all histories of few ticks,and how many agree.
-/
namespace Go.Proofs.YtcdgibkbbcekhaaGreatDoor
open Go.RowKit Go.Sl Go.Num
section
variable {α β γ:Type} (op:α→β→γ)
end
def pf:List (Int×Int)→Nat
 | []=>1
 | (_,n)::r=>fct n.toNat*pf r
theorem mnl_fct:∀ (t:List (Int×Int)) (n:Nat),(∀ x∈t,1≤x.2)→mnl n t*(fct n*pf t)=fct (n+(sumT t).toNat)
 | [],n,_=>by rw [mnl,pf,Nat.one_mul,Nat.mul_one];rfl
 | (y,c)::r,n,h=>by
  have hc:1≤c:=h (y,c) (List.mem_cons_self ..)
  have hr:0≤sumT r:=sumT_nn r fun x hx=>h x (List.mem_cons_of_mem _ hx)
  have ih:=mnl_fct r (n+c.toNat) fun x hx=>h x (List.mem_cons_of_mem _ hx)
  have h1:=chs_fct n c.toNat
  rw [mnl,pf]
  have e:chs n c.toNat*mnl (n+c.toNat) r*(fct n*(fct c.toNat*pf r))=mnl (n+c.toNat) r*(chs n c.toNat*(fct n*fct c.toNat)*pf r):=by
   simp only [Nat.mul_comm,Nat.mul_left_comm,Nat.mul_assoc]
  rw [e,h1,ih]
  congr 1
  rw [sumT]
  show n+c.toNat+(sumT r).toNat=n+(c+sumT r).toNat
  omega
end Go.Proofs.YtcdgibkbbcekhaaGreatDoor
/-
 The law RunsCutAndJoin.
-/
namespace Go.Proofs.YtcdgibkbbcekhaaGreatDoor
open Go.RowKit Go.Sl Go.Num
theorem fct_le:∀ n,n≤65536→fct n≤65536 ^ n
 | 0,_=>Nat.le_refl _
 | n+1,h=>by
  have:=fct_le n (by omega)
  rw [fct,Nat.pow_succ,Nat.mul_comm]
  exact Nat.mul_le_mul this h
theorem pf_pos:∀ t:List (Int×Int),0 < pf t
 | []=>Nat.one_pos
 | (_,n)::r=>Nat.mul_pos (fct_pos _) (pf_pos r)
theorem cntR_le {r:Rn} (h:OkR r) (hn:r.to_-r.from_≤65535):cntR r≤65536 ^ (r.to_-r.from_).toNat:=by
 have hr:=h.rng
 by_cases h0:r.tab.length=0
 ·have g:=h.gap h0
  rw [cntR,if_pos h0]
  exact Nat.pow_le_pow_left (by omega) _
 ·obtain ⟨o1,_,o3,_⟩:=oneE_tab h.2 h0
  rw [cntR,if_neg h0]
  have h1:=mnl_fct r.tab 0 fun x hx=>by have:=(o1 x hx).2;omega
  rw [show fct 0=1 from rfl,Nat.one_mul,Nat.zero_add,o3] at h1
  have h2:mnl 0 r.tab≤mnl 0 r.tab*pf r.tab:=Nat.le_mul_of_pos_right _ (pf_pos _)
  rw [h1] at h2
  exact Nat.le_trans h2 (fct_le _ (by omega))
theorem cntL_le:∀ {l:List Rn}{f t:Int},Cn f l t→(∀ r∈l,OkR r)→t-f≤65535→cntL l≤65536 ^ (t-f).toNat
 | [],f,t,_,_,_=>Nat.pow_pos (by decide)
 | r::l,f,t,hC,hO,ht=>by
  have hr:=hO r (List.mem_cons_self ..)
  have hO':=fun x hx=>hO x (List.mem_cons_of_mem r hx)
  have h1:=hr.rng
  have h2:=hC.2.le hO'
  have h3:=hC.1
  have ih:=cntL_le hC.2 hO' (by omega)
  rw [cntL,show (t-f).toNat=(r.to_-r.from_).toNat+(t-r.to_).toNat by omega,Nat.pow_add]
  exact Nat.mul_le_mul (cntR_le hr (by omega)) ih
theorem cntL_len {l:List Rn}{f t:Int} (hC:Cn f l t) (hO:∀ r∈l,OkR r) (ht:t-f≤400):(nB (cntL l)).length≤1000:=by
 have h1:=cntL_le hC hO (by omega)
 refine Nat.le_trans (nB_bound (k:=2*(t-f).toNat+1) (Nat.lt_of_le_of_lt h1 ?_)) (by omega)
 rw [show (65536:Nat)=256 ^ 2 from rfl,← Nat.pow_mul]
 exact Nat.pow_lt_pow_right (by decide) (Nat.lt_succ_self _)
theorem cntE_ok {l:List Rn}{f t:Int} (hC:Cn f l t) (hO:∀ r∈l,OkR r) (ht:t-f≤400):cntE l=(nB (cntL l),0):=by
 rw [cntE,if_neg (fun h=>h (runs_of hC hO (by omega))),if_neg]
 rintro ⟨h1,h2⟩
 have h0:l≠[]:=fun e=>h1 (by rw [e];rfl)
 rw [hC.last h0,(hC.first h0).1] at h2
 omega
theorem okB {l m:List Rn} (h:l.map rbare=m.map rbare) (hm:∀ r∈m,OkR r):∀ r∈l,OkR r:=fun r hr=>by
 have h1:=List.mem_map_of_mem (f:=rbare) hr
 rw [h] at h1
 obtain ⟨x,hx,e⟩:=List.mem_map.1 h1
 exact ok_bare.1 (e ▸ ok_bare.2 (hm x hx))
theorem cnB {l m:List Rn}{f t:Int} (h:l.map rbare=m.map rbare) (hm:Cn f m t):Cn f l t:=cn_bare.1 (h ▸ cn_bare.2 hm)
theorem cntB {l m:List Rn} (h:l.map rbare=m.map rbare):cntL l=cntL m:=by rw [← cntL_bare,h,cntL_bare]
theorem lenT_few {l:List Rn} (h:fewR 30 60 l) (h1:runsErr l=0) (h0:l≠[]):(lastD l).to_-(headD' l).from_≤60:=by
 rcases h.2.2 with h|h|h
 ·exact absurd h1 h
 ·exact absurd (List.length_eq_zero_iff.1 h) h0
 ·rw [← lenT_eq h0];exact h
set_option maxHeartbeats 4000000 in
theorem runs5_holds (w:World) (a:Option Addr) (l:List Rn) (c:Nat) (n:Nat) (hA:RunsAt w a l) (hn:n≤255) :
  Calls Tryz.prog 7 #[.slice a l.length c,.int .u8 n] w fun e w'=>e=.returned (.bool true)∧Below w.heap.size w w':=by
 have hfw:=fun w' (hb:Below w.heap.size w w')=>few16_holds a l c w' (hA.below hb)
 by_cases hfe:fewR 30 60 l
 case neg =>
  rw [decide_eq_false hfe] at hfw
  clear hfe
  refine enterA [(0,.slice a l.length c),(1,.int .u8 n)] Tryz.func7 Tryz.ntmps7 ?_
  all_goals (refine go ?_;and_intros<;>(try exact trivial)<;>repeat (first|refine fun (Bk:Nat)=>?_|intro h))
  repeat' ((first|(apply G.cV (g:=19);rfl;rfl;exact fun w' hw'=>hfw w' hw'.below)|(apply G.cV (g:=20);rfl;rfl;exact fun w' _=>sanity16_holds w'))<;>(refine go ?_;and_intros<;>(try exact trivial)<;>repeat (first|refine fun (Bk:Nat)=>?_|intro h)))
  all_goals refine ret1b Tryz.func7 Tryz.results7 ?_
  all_goals rfl
 rw [decide_eq_true hfe] at hfw
 obtain ⟨hl,ht⟩:=few_ok hfe
 have HK:=fun w' (hb:Below w.heap.size w w')=>vRuns_holds a l c w' (hA.below hb) ht
 by_cases hE:runsErr l=0
 case neg =>
  clear hfe
  generalize runsErr l=E at *
  refine enterA [(0,.slice a l.length c),(1,.int .u8 n)] Tryz.func7 Tryz.ntmps7 ?_
  all_goals (refine go ?_;and_intros<;>(try exact trivial)<;>repeat (first|refine fun (Bk:Nat)=>?_|intro h))
  repeat' ((first|(apply G.cV (g:=19);rfl;rfl;exact fun w' hw'=>hfw w' hw'.below)|(apply G.cV (g:=20);rfl;rfl;exact fun w' _=>sanity16_holds w')|(apply G.cV (g:=27) (d:=24);rfl;rfl;exact fun w' hw'=>HK w' hw'.below))<;>(refine go ?_;and_intros<;>(try exact trivial)<;>repeat (first|refine fun (Bk:Nat)=>?_|intro h)))
  all_goals refine ret1b Tryz.func7 Tryz.results7 ?_
  all_goals rfl
 rw [hE] at HK
 by_cases h0:l.length=0
 ·clear hfe
  refine enterA [(0,.slice a l.length c),(1,.int .u8 n)] Tryz.func7 Tryz.ntmps7 ?_
  all_goals (refine go ?_;and_intros<;>(try exact trivial)<;>repeat (first|refine fun (Bk:Nat)=>?_|intro h))
  repeat' ((first|(apply G.cV (g:=19);rfl;rfl;exact fun w' hw'=>hfw w' hw'.below)|(apply G.cV (g:=20);rfl;rfl;exact fun w' _=>sanity16_holds w')|(apply G.cV (g:=27) (d:=24);rfl;rfl;exact fun w' hw'=>HK w' hw'.below))<;>(refine go ?_;and_intros<;>(try exact trivial)<;>repeat (first|refine fun (Bk:Nat)=>?_|intro h)))
  all_goals refine ret1b Tryz.func7 Tryz.results7 ?_
  all_goals rfl
 have hne:l≠[]:=fun e=>h0 (by rw [e];rfl)
 have h60:=lenT_few hfe hE hne
 have h00:0 < l.length:=by omega
 have h01:l.length-1 < l.length:=by omega
 obtain ⟨hO,_,hC⟩:=runs_ok hE
 obtain ⟨hC,_⟩:=hC hne
 have hlt:=hC.le hO
 have i0:=(hO _ (List.getElem_mem h00)).rng
 have i1:=(hO _ (List.getElem_mem h01)).rng
 obtain ⟨ba,oa,rfl,hra⟩:=SlAt.all hA.1 (by omega)
 have r0:=hra 0 h00
 have r1:=hra (l.length-1) h01
 have hz:(l.length:Int)-1=((l.length-1:Nat):Int):=by omega
 have hTpos:0 < (lastD l).to_-(headD' l).from_+1:=by omega
 have hr1:=Int.emod_nonneg (n:Int) (show (lastD l).to_-(headD' l).from_+1≠0 by omega)
 have hr2:=Int.emod_lt_of_pos (n:Int) hTpos
 have hti:(headD' l).from_≤(headD' l).from_+(n:Int) % ((lastD l).to_-(headD' l).from_+1)∧(headD' l).from_+(n:Int) % ((lastD l).to_-(headD' l).from_+1)≤(lastD l).to_:=by omega
 have hei:=cut_either hE hne hti.1 hti.2
 have hlaw:=fun A B (h:cutE' l ((headD' l).from_+(n:Int) % ((lastD l).to_-(headD' l).from_+1))=((A,B),0))=>cut_law hE hne hti.1 hti.2 h60 h
 have HX:=fun w' (hb:Below w.heap.size w w')=>runCut_holds (some ⟨ba,oa,none⟩) l c ((headD' l).from_+(n:Int) % ((lastD l).to_-(headD' l).from_+1)) w' (hA.below hb) ht (by omega)
 have HJ2:=fun w' (hb:Below w.heap.size w w')=>vJoin_holds (some ⟨ba,oa,none⟩) l c none [] 0 w' (hA.below hb) ⟨SlAt.nil,fun r hr=>by cases hr⟩ ht (fun r hr=>by cases hr) (by omega) (by decide)
 have HC3:=fun w' (hb:Below w.heap.size w w')=>vCount_holds (some ⟨ba,oa,none⟩) l c w' (hA.below hb) ht (by omega)
 rw [cntE_ok hC hO (by omega)] at HC3
 obtain ⟨c1,c2,c3,c4⟩:=cutE_bd (n:=64) (by decide) (at_:=(headD' l).from_+(n:Int) % ((lastD l).to_-(headD' l).from_+1)) ht
 generalize hcu:cutE' l ((headD' l).from_+(n:Int) % ((lastD l).to_-(headD' l).from_+1))=cc at *
 obtain ⟨⟨XA,XB⟩,ex⟩:=cc
 dsimp only at *
 have hb0:(lastD l).to_-(headD' l).from_+1≠0:=by omega
 have e0:headD' l=l[0]:=headD_at h00
 have e1:lastD l=l[l.length-1]:=lastD_at h00
 rw [← e0] at r0 i0
 rw [← e1] at r1 i1
 clear e0 e1 hE hra
 generalize headD' l=x1 at *
 generalize lastD l=x2 at *
 dsimp only [rnV] at r0 r1
 refine enterA [(0,.slice (some ⟨ba,oa,none⟩) l.length c),(1,.int .u8 n)] Tryz.func7 Tryz.ntmps7 ?_
 rcases hei with he|he
 case inr =>
  subst he
  clear hlaw hcu c1 c2 c3 c4 hfe HJ2 HC3
  all_goals (refine go ?_;and_intros<;>(try exact trivial)<;>repeat (first|refine fun (Bk:Nat)=>?_|intro h))
  repeat' ((first|(apply G.cV (g:=19);rfl;rfl;exact fun w' hw'=>hfw w' hw'.below)|(apply G.cV (g:=20);rfl;rfl;exact fun w' _=>sanity16_holds w')|(apply G.cV (g:=27) (d:=24);rfl;rfl;exact fun w' hw'=>HK w' hw'.below)|(apply G.ix (i:=l.length-1);rfl;rfl;exact hz;exact h01;rfl)|(apply G.ix (i:=0);rfl;rfl;exact rfl;exact h00;rfl)|(refine G.cU2 (g:=33) (fun a' n c' b' m d'=>.tuple #[.slice a' n c',.slice b' m d',.int .i64 29]) (fun A B=>A.map rbare=XA.map rbare∧B.map rbare=XB.map rbare) [] (.inl rfl) rfl rfl (fun w' hw'=>HX w' hw'.below) ?_;intro A1 aA1 cA1 B1 aB1 cB1 ⟨hA1,hB1⟩ _ _))<;>(refine go ?_;and_intros<;>(try exact trivial)<;>repeat (first|refine fun (Bk:Nat)=>?_|intro h)))
  all_goals refine ret1b Tryz.func7 Tryz.results7 ?_
  all_goals rfl
 subst he
 obtain ⟨hd,j1,j2,j3,j4,j5,j6⟩:=hlaw XA XB rfl
 clear hlaw hcu hfe
 have hMul:=fun w'=>natMul_holds (nB (cntL XA)) (nB (cntL XB)) w' (by have:=cntL_len hd.ca hd.oa (by omega);omega) (by have:=cntL_len hd.cb hd.ob (by omega);omega)
 rw [vB_nB,vB_nB,hd.ct] at hMul
 have HC1:∀ (aX:Option Addr) (X Y:List Rn) (cX:Nat) (f t:Int),Cn f Y t→(∀ r∈Y,OkR r)→TbLe 64 Y→t-f≤400→X.map rbare=Y.map rbare→∀ w',RunsAt w' aX X→Calls Tryz.prog 23 #[.slice aX X.length cX] w' fun e w2=>e=.returned (.tuple #[.string (bs (nB (cntL Y))),.int .i64 0])∧Below w'.heap.size w' w2:=fun aX X Y cX f t q1 q2 q3 q4 q5 w' h=>by
  have h5:=(cnB q5 q1).le (okB q5 q2)
  have h6:=vCount_holds aX X cX w' h (tabs_bare q5 q3) (by omega)
  rw [cntE_ok (cnB q5 q1) (okB q5 q2) q4,cntB q5] at h6
  exact h6
 have HJ1:∀ (a1:Option Addr) (A1:List Rn) (d1:Nat) (a2:Option Addr) (B1:List Rn) (d2:Nat),A1.map rbare=XA.map rbare→B1.map rbare=XB.map rbare→∀ w',RunsAt w' a1 A1→RunsAt w' a2 B1→Calls Tryz.prog 34 #[.slice a1 A1.length d1,.slice a2 B1.length d2] w' (RetU [] (fun X=>X.map rbare=(joinL l).map rbare) (fun a' n c'=>.tuple #[.slice a' n c',.int .i64 0]) w'):=fun a1 A1 d1 a2 B1 d2 q1 q2 w' h1 h2=>by
  have h3:=vJoin_holds a1 A1 d1 a2 B1 d2 w' h1 h2 (tabs_bare q1 c1) (tabs_bare q2 c2) (by rw [length_bare q1];omega) (by rw [length_bare q2];omega)
  have h4:=joinE_bare XA XB
  rw [j1] at h4
  obtain ⟨k1,k2⟩:=join_of q1 q2 h4
  simp only [k1,k2,j3] at h3
  exact h3
 rw [j2] at HJ2
 have hjT:=joinE_bd (n:=64) (by decide) (a:=l) (b:=[]) ht .nil
 rw [j2] at hjT
 dsimp only at hjT HJ2
 have HK2:∀ (aJ:Option Addr) (J:List Rn) (cJ:Nat),J.map rbare=(joinL l).map rbare→∀ w',RunsAt w' aJ J→Calls Tryz.prog 27 #[.slice aJ J.length cJ] w' fun e w2=>e=.returned (.int .i64 0)∧Below w'.heap.size w' w2:=fun aJ J cJ q w' h=>by
  have h1:=vRuns_holds aJ J cJ w' h (tabs_bare q hjT.1)
  have h2:runsErr J=0:=by rw [← runsErr_bare,q,runsErr_bare];exact j4
  rw [h2] at h1
  exact h1
 clear j1 j2 j3 j5 j6
 all_goals (refine go ?_;and_intros<;>(try exact trivial)<;>repeat (first|refine fun (Bk:Nat)=>?_|intro h))
 repeat' ((first|(apply G.cV (g:=19);rfl;rfl;exact fun w' hw'=>hfw w' hw'.below)|(apply G.cV (g:=20);rfl;rfl;exact fun w' _=>sanity16_holds w')|(apply G.cV (g:=27) (d:=24);rfl;rfl;exact fun w' hw'=>HK w' hw'.below)|(apply G.ix (i:=l.length-1);rfl;rfl;exact hz;exact h01;rfl)|(apply G.ix (i:=0);rfl;rfl;exact rfl;exact h00;rfl)|(refine G.cU2 (g:=33) (fun a' n c' b' m d'=>.tuple #[.slice a' n c',.slice b' m d',.int .i64 0]) (fun A B=>A.map rbare=XA.map rbare∧B.map rbare=XB.map rbare) [] (.inl rfl) rfl rfl (fun w' hw'=>HX w' hw'.below) ?_;intro A1 aA1 cA1 B1 aB1 cB1 ⟨hA1,hB1⟩ hA2 hB2)|(refine G.cU (g:=34) (d:=71) (fun a' n c'=>.tuple #[.slice a' n c',.int .i64 0]) (fun L=>L.map rbare=(joinL l).map rbare) [] (.inl rfl) rfl rfl (fun w' hw'=>HJ1 aA1 A1 cA1 aB1 B1 cB1 hA1 hB1 w' (RunsAt.of hw') (RunsAt.of hw')) ?_;intro J1 aJ1 cJ1 hJ1 _ _)|(refine G.cU (g:=34) (d:=76) (fun a' n c'=>.tuple #[.slice a' n c',.int .i64 0]) (fun L=>L.map rbare=(joinL l).map rbare) [] (.inl rfl) rfl rfl (fun w' hw'=>HJ2 w' hw'.below) ?_;intro J2 aJ2 cJ2 hJ2 _ _)|(apply G.cV (g:=23) (d:=81);rfl;rfl;exact fun w' hw'=>HC1 aA1 A1 XA cA1 _ _ hd.ca hd.oa c1 (by omega) hA1 w' (RunsAt.of hw'))|(apply G.cV (g:=23) (d:=86);rfl;rfl;exact fun w' hw'=>HC1 aB1 B1 XB cB1 _ _ hd.cb hd.ob c2 (by omega) hB1 w' (RunsAt.of hw'))|(apply G.cV (g:=23) (d:=91);rfl;rfl;exact fun w' hw'=>HC3 w' hw'.below)|(apply G.cV (g:=29) (d:=115);rfl;rfl;exact fun w' hw'=>same_true aJ1 aJ2 J1 J2 _ _ _ _ w' (RunsAt.of hw') (RunsAt.of hw') (hJ1.trans hJ2.symm) rfl rfl (by rw [length_bare hJ1];have:=hjT.2;rw [List.length_nil] at this;omega) (tabs_bare hJ1 fun r hr=>Nat.le_trans (hjT.1 r hr) (by decide)))|(apply G.cV (g:=43) (vs:=[.string (bs (nB (cntL XA))),.string (bs (nB (cntL XB)))]);rfl;rfl;exact fun w' _=>hMul w')|(apply G.neqStr;rfl;rfl;rfl;rfl;rfl;all_goals intro h;all_goals try (exact absurd rfl h))|(apply G.cV (g:=27) (d:=127);rfl;rfl;exact fun w' hw'=>HK2 aJ2 J2 cJ2 hJ2 w' (RunsAt.of hw')))<;>(refine go ?_;and_intros<;>(try exact trivial)<;>repeat (first|refine fun (Bk:Nat)=>?_|intro h)))
 ·refine ret1b Tryz.func7 Tryz.results7 ?_
  rfl
 ·skip
  obtain ⟨bB,oB,rfl⟩:=hB2.1 (by omega)
  have hltB:0 < B1.length:=by omega
  have hBf:B1[0].from_=x1.from_+(n:Int) % (x2.to_-x1.from_+1):=by
   have h:=((cnB hB1 hd.cb).first fun e=>by rw [e] at hltB;exact absurd hltB (Nat.lt_irrefl _)).1
   rwa [headD_at hltB] at h
  all_goals (refine goR ?_;and_intros<;>(try exact trivial)<;>repeat (first|refine fun (Bk:Nat)=>?_|intro h))
  repeat' ((first|(apply G.ix (i:=0);rfl;rfl;exact rfl;exact hltB;rfl)|(apply G.ld;rfl;(apply LdV.one;exact CellV.sl0 (f:=rnV) (l:=B1) (i:=0) (N:=w.heap.size) (by exact mm) hltB rfl);rfl))<;>(refine goR ?_;and_intros<;>(try exact trivial)<;>repeat (first|refine fun (Bk:Nat)=>?_|intro h)))
  refine ret1b Tryz.func7 Tryz.results7 ?_
  rfl
 ·have hAl:A1.length≤30:=by rw [length_bare hA1];omega
  obtain ⟨bA,oA,rfl⟩:=hA2.1 (by omega)
  have hltA:A1.length-1 < A1.length:=by omega
  have hzA:(A1.length:Int)-1=((A1.length-1:Nat):Int):=by omega
  have hAt:(A1[A1.length-1]).to_=x1.from_+(n:Int) % (x2.to_-x1.from_+1):=by
   have h:=(cnB hA1 hd.ca).last fun e=>by rw [e] at hltA;exact absurd hltA (Nat.not_lt_zero _)
   rwa [lastD_at (by omega)] at h
  all_goals (refine goR ?_;and_intros<;>(try exact trivial)<;>repeat (first|refine fun (Bk:Nat)=>?_|intro h))
  repeat' ((first|(apply G.ix (i:=A1.length-1);rfl;rfl;exact hzA;exact hltA;rfl)|(apply G.ld;rfl;(apply LdV.one;exact CellV.sl (f:=rnV) (l:=A1) (i:=A1.length-1) (j:=1) (N:=w.heap.size) (by exact mm) hltA rfl);rfl))<;>(refine goR ?_;and_intros<;>(try exact trivial)<;>repeat (first|refine fun (Bk:Nat)=>?_|intro h)))
  ·refine ret1b Tryz.func7 Tryz.results7 ?_
   rfl
  ·skip
   obtain ⟨bB,oB,rfl⟩:=hB2.1 (by omega)
   have hltB:0 < B1.length:=by omega
   have hBf:B1[0].from_=x1.from_+(n:Int) % (x2.to_-x1.from_+1):=by
    have h:=((cnB hB1 hd.cb).first fun e=>by rw [e] at hltB;exact absurd hltB (Nat.lt_irrefl _)).1
    rwa [headD_at hltB] at h
   all_goals (refine goR ?_;and_intros<;>(try exact trivial)<;>repeat (first|refine fun (Bk:Nat)=>?_|intro h))
   repeat' ((first|(apply G.ix (i:=0);rfl;rfl;exact rfl;exact hltB;rfl)|(apply G.ld;rfl;(apply LdV.one;exact CellV.sl0 (f:=rnV) (l:=B1) (i:=0) (N:=w.heap.size) (by exact mm) hltB rfl);rfl))<;>(refine goR ?_;and_intros<;>(try exact trivial)<;>repeat (first|refine fun (Bk:Nat)=>?_|intro h)))
   refine ret1b Tryz.func7 Tryz.results7 ?_
   rfl
end Go.Proofs.YtcdgibkbbcekhaaGreatDoor
/-
 How a lone byte and two bytes read.
-/
namespace Go.Proofs.YtcdgibkbbcekhaaGreatDoor
open Go.RowKit Go.Sl Go.Num Go.ChangeShapes Go.WideShapes
set_option maxRecDepth 100000 in
theorem argU16 {H:Type}{enc:TypeId×Value→H}{W:World}{r:Reach}{base:Nat}{v:Value}{d:DataW H}{ps:List MemPlace} (hk:Value.okWide Tryz.prog W r base 5 v) (hv:DataW.Trod enc Tryz.prog W 0 (fun _=>true) true 5 v d ps):∃ n:Nat,v=.int .u8 n∧n≤255:=by
 obtain ⟨i,rfl⟩:=okWide_int Tryz.underlying5 hk
 obtain ⟨n,h1,h2⟩:=rU8.arg hv
 have h3:[Value.int .u8 i]=[Value.int .u8 n]:=h1
 cases h3
 exact ⟨n,rfl,h2⟩
end Go.Proofs.YtcdgibkbbcekhaaGreatDoor
