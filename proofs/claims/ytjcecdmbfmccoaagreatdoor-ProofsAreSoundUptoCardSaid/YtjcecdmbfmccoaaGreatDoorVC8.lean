/-
  Plain: when a history agrees with runs.
-/
import Derived.Test.YtjcecdmbfmccoaaGreatDoorVC7
set_option linter.unusedVariables false
set_option linter.unusedSimpArgs false
set_option linter.unusedSectionVars false
namespace Go.Proofs.YtjcecdmbfmccoaaGreatDoor
open Go.RowKit Go.Sl Go.Num
theorem goC_gap_iff {lo hi:Int}:∀ (seg:List Int) (C:List (Int×Int)),goC true lo hi C seg=true ↔ ∀ x∈seg,lo<=x/\x<=hi
 | [],_=>⟨fun _ x hx=>(by cases hx),fun _=>rfl⟩
 | s::r,C=>by
  rw [goC,Bool.and_eq_true,goC_gap_iff r,badC,if_pos rfl,Bool.not_not,decide_eq_true_eq]
  exact ⟨fun ⟨h1,h2⟩ x hx=>(List.mem_cons.1 hx).elim (fun e=>e ▸ h1) (h2 x),fun h=>⟨h s (List.mem_cons_self ..),fun x hx=>h x (List.mem_cons_of_mem _ hx)⟩⟩
theorem goC_tab_iff {lo hi:Int}:∀ (seg:List Int) (C:List (Int×Int)),(∀ x,0<=cnt x C)->(goC false lo hi C seg=true ↔ ∀ x,nIn x seg<=cnt x C)
 | [],C,h=>⟨fun _ x=>h x,fun _=>rfl⟩
 | s::r,C,h=>by
  have hs:=h s
  rw [goC,Bool.and_eq_true,badC,if_neg (by decide),Bool.not_eq_true',decide_eq_false_iff_not]
  constructor
  ·rintro ⟨h1,h2⟩ x
   have h3:=(goC_tab_iff r (setC s (cnt s C-1) C) fun y=>by rw [cnt_setC];have:=h y;split<;>omega).1 h2 x
   rw [cnt_setC] at h3
   rw [nIn]
   by_cases hx:x=s
   ·subst hx;rw [if_pos rfl] at h3 ⊢;omega
   ·rw [if_neg hx] at h3;rw [if_neg (fun e=>hx e.symm)];omega
  ·intro h1
   have h2:=h1 s
   have h3:=nIn_bd s r
   rw [nIn,if_pos rfl] at h2
   refine ⟨by omega,(goC_tab_iff r (setC s (cnt s C-1) C) fun y=>by rw [cnt_setC];have:=h y;split<;>omega).2 fun x=>?_⟩
   have h4:=h1 x
   rw [nIn] at h4
   rw [cnt_setC]
   by_cases hx:x=s
   ·subst hx;rw [if_pos rfl] at h4 ⊢;omega
   ·rw [if_neg (fun e=>hx e.symm)] at h4;rw [if_neg hx];omega
theorem le_perm:∀ {a b:List Int},a.length=b.length->(∀ x,nIn x a<=nIn x b)->a.Perm b
 | [],b,h,_=>by rw [List.length_eq_zero_iff.1 h.symm]
 | x::a,b,h,h1=>by
  have hx:x∈b:=by
   have:=h1 x
   have h2:=nIn_bd x a
   rw [nIn,if_pos rfl] at this
   exact nIn_pos.1 (by omega)
  have hp:=List.perm_cons_erase hx
  refine List.Perm.trans (List.Perm.cons x (le_perm (a:=a) (b:=b.erase x) ?_ fun y=>?_)) hp.symm
  ·rw [List.length_erase_of_mem hx]
   rw [List.length_cons] at h;omega
  ·have h3:=h1 y
   rw [nIn_perm hp,nIn,nIn] at h3
   omega
theorem cnt_nn {t:List (Int×Int)} (h:∀ p∈t,1<=p.2) (x:Int):0<=cnt x t:=by
 induction t with
 | nil=>exact Int.le_refl _
 | cons p t ih =>
  obtain ⟨y,n⟩:=p
  have:=h (y,n) (List.mem_cons_self ..)
  have:=ih fun q hq=>h q (List.mem_cons_of_mem _ hq)
  rw [cnt]
  dsimp only at *
  split<;>omega
theorem tab_cnt {r:Rn} (h:OkR r) (h0:r.tab.length≠0) (x:Int):nIn x (tabS r.tab)=cnt x r.tab:=by
 obtain ⟨h2,h3,_⟩:=oneE_tab h.2 h0
 exact nIn_tabS _ none h3 (fun p hp=>(h2 p hp).2.1) x
theorem agr1_iff {r:Rn}{seg:List Int} (h:OkR r) (hl:(seg.length:Int)=r.to_-r.from_):agr1 r seg=true ↔ AgP r seg:=by
 rw [agr1,AgP]
 by_cases h0:r.tab.length=0
 ·rw [if_pos h0,decide_eq_true h0,goC_gap_iff]
  exact ⟨fun h=>⟨by omega,h⟩,fun h=>h.2⟩
 ·obtain ⟨h2,h3,h4,_⟩:=oneE_tab h.2 h0
  rw [if_neg h0,decide_eq_false h0,goC_tab_iff _ _ fun x=>by rw [cnt_fill0 h3];exact cnt_nn (fun p hp=>(h2 p hp).2.1) x]
  constructor
  ·intro h5
   refine le_perm ?_ fun x=>?_
   ·have:=tabS_len _ fun x hx=>(h2 x hx).2.1
    omega
   ·have:=h5 x
    rw [cnt_fill0 h3] at this
    rw [tab_cnt h h0];exact this
  ·intro h5 x
   rw [cnt_fill0 h3,<- tab_cnt h h0,nIn_perm h5]
   exact Int.le_refl _
theorem agrL_iff {f:Int}{hs:List Int}:∀ {L:List Rn}{d:Nat},Cn (f+d) L (f+hs.length)->(∀ r∈L,OkR r)->(agrL f hs L=true ↔ AgS L (hs.drop d))
 | [],d,h,_=>by
  rw [Cn] at h
  rw [AgS,List.drop_eq_nil_of_le (by omega)]
  exact ⟨fun _=>rfl,fun _=>rfl⟩
 | r::t,d,h,ho=>by
  have h1:=ho r (List.mem_cons_self ..)
  have h2:=h1.rng
  have h3:=h.1
  have h4:=h.2.le fun x hx=>ho x (List.mem_cons_of_mem _ hx)
  have h5:r.to_=f+((d+(r.to_-r.from_).toNat:Nat):Int):=by omega
  have h6:=h.2
  rw [h5] at h6
  have ih:=agrL_iff (L:=t) (d:=d+(r.to_-r.from_).toNat) h6 fun x hx=>ho x (List.mem_cons_of_mem _ hx)
  have h7:(((hs.drop d).take (r.to_-r.from_).toNat).length:Int)=r.to_-r.from_:=by rw [List.length_take,List.length_drop];omega
  rw [agrL,Bool.and_eq_true,ih,show (r.from_-f).toNat=d by omega,agr1_iff h1 h7,AgS]
  constructor
  ·rintro ⟨e1,e2⟩
   exact ⟨_,_,by rw [<- List.drop_drop,List.take_append_drop],e1,e2⟩
  ·rintro ⟨A,B,e1,e2,e3⟩
   have e4:=AgP.len h1 e2
   have e5:(r.to_-r.from_).toNat=A.length:=by omega
   rw [e5,<- List.drop_drop,e1,List.take_left,List.drop_left]
   exact ⟨e2,e3⟩
theorem agreeB_iff {rs:List Rn}{f:Int}{hs:List Int} (h:runsErr rs=0) (h0:rs≠[]):agreeB rs f hs=true ↔ f=(headD' rs).from_/\AgS rs hs:=by
 obtain ⟨h1,h2,h3⟩:=runs_ok h
 obtain ⟨h4,h5⟩:=h3 h0
 have hp:0 < rs.length:=List.length_pos_iff.2 h0
 have e0:rs[0]?=some (headD' rs):=by cases rs with
  | nil=>exact absurd rfl h0
  | cons r t=>rfl
 have e1:rs[rs.length-1]?=some (lastD rs):=by
  rw [<- List.getLast?_eq_getElem?,lastD,List.getLast?_eq_some_getLast h0];rfl
 rw [agreeB,e0,e1]
 dsimp only
 constructor
 ·intro h6
  split at h6
  ·cases h6
  split at h6
  ·cases h6
  rename_i h7 h8
  rw [not_or,Decidable.not_not,Decidable.not_not] at h8
  refine ⟨h8.1,?_⟩
  have h9:=(agrL_iff (f:=f) (hs:=hs) (L:=rs) (d:=0) (by rw [Int.natCast_zero,Int.add_zero,h8.1,show (headD' rs).from_+(hs.length:Int)=(lastD rs).to_ by omega];exact h4) h1).1 h6
  rw [List.drop_zero] at h9
  exact h9
 ·rintro ⟨rfl,h6⟩
  have h7:=AgS.len h4 h1 h6
  have h8:=(h1 _ (List.mem_of_getElem? e0)).rng
  have h9:=(h1 _ (List.mem_of_getElem? e1)).rng
  have hr:rightH (headD' rs).from_ hs=true:=by
   rw [rightH,Bool.and_eq_true,decide_eq_true_eq,Bool.not_eq_true']
   refine ⟨by omega,List.any_eq_false.2 fun x hx=>?_⟩
   have:=AgS.bd' h1 h6 x hx
   rw [badSt,decide_eq_true this];decide
  rw [if_neg (by rw [h,hr];simp),if_neg (by rw [not_or,Decidable.not_not,Decidable.not_not];omega)]
  have h9:=(agrL_iff (f:=(headD' rs).from_) (hs:=hs) (L:=rs) (d:=0) (by rw [Int.natCast_zero,Int.add_zero,h7];exact h4) h1).2
  rw [List.drop_zero] at h9
  exact h9 h6
theorem agreeB_nil (f:Int) (hs:List Int):agreeB [] f hs=(rightH f hs && decide (hs.length=0)):=by
 rw [agreeB]
 cases h:rightH f hs
 ·rw [if_pos (.inr rfl)];rfl
 ·rw [if_neg (by rw [show runsErr []=0 from rfl];simp)];rfl
section
variable {C:Ctx}{st:List (Nat×Value)}{M:List Row}{k:List Item}{q q':Md}{all rest:List Oper}{d:Nat}{ty:TypeId}{pos:String}{after:Array Edge}{gd:Option (Nat×Bool)}
abbrev tfam (N:Nat) (L:List Rn):Row:=famRow N Rn.adr 2 (fun r:Rn=>r.tab.map hoV) L
def srcR (n:Nat) (L0 L:List Rn):Prop:=∀ r∈L,r.tab.length=0∨(∀ p,r.adr=some p->n<=p.block)∨∃ r'∈L0,r'.adr=r.adr/\r'.tab=r.tab
theorem srcR.mono {n m:Nat}{L0 L1 L:List Rn} (h:srcR n L0 L) (h1:m<=n) (h2:∀ r∈L0,r∈L1):srcR m L1 L:=fun r hr=>(h r hr).imp id (Or.imp (fun h p hp=>Nat.le_trans h1 (h p hp)) fun ⟨r',h3,h4⟩=>⟨r',h2 r' h3,h4⟩)
theorem srcR.nil {n:Nat}{L0:List Rn}:srcR n L0 []:=fun r hr=>by cases hr
theorem srcR.app {n:Nat}{L0 a b:List Rn} (h1:srcR n L0 a) (h2:srcR n L0 b):srcR n L0 (a++b):=fun r hr=>(List.mem_append.1 hr).elim (h1 r) (h2 r)
theorem srcR.sub {n:Nat}{L0 a b:List Rn} (h1:srcR n L0 a) (h2:∀ r∈b,r∈a):srcR n L0 b:=fun r hr=>h1 r (h2 r hr)
theorem srcR.one {n:Nat}{L0:List Rn}{r:Rn} (h:r.tab.length=0∨(∀ p,r.adr=some p->n<=p.block)∨∃ r'∈L0,r'.adr=r.adr/\r'.tab=r.tab):srcR n L0 [r]:=fun r hr=>by rw [List.mem_singleton.1 hr];exact h
theorem srcR.comp {n:Nat}{L0 L1 L:List Rn} (h:srcR n L0 L) (h1:srcR n L1 L0):srcR n L1 L:=fun r hr=>by
 rcases h r hr with h2|h2|⟨r',h2,h3,h4⟩
 ·exact .inl h2
 ·exact .inr (.inl h2)
 ·have:=h1 r' h2
  rw [h3,h4] at this;exact this
theorem SlAt.lt {w:World}{a:Option Addr}{sz:Nat}{L:List (List Value)} (h:SlAt w a sz L) (h0:0 < L.length):∀ p,a=some p->p.block < w.heap.size:=fun p hp=>by
 obtain ⟨b,off,e,hr⟩:=h h0
 rw [e] at hp;cases hp
 exact (hr 0 _ (List.getElem?_eq_getElem h0)).1
def RetU (L0:List Rn) (P:List Rn->Prop) (v:Option Addr->Nat->Nat->Value) (w:World) (e:Ending) (w':World):Prop :=
 ∃ L a' c',P L/\e=.returned (v a' L.length c')/\RunsAt w' a' L/\((∀ p,a'=some p->w.heap.size<=p.block)/\L.length<=c')/\srcR w.heap.size L0 L/\Below w.heap.size w w'
end
theorem RunsAt.of {w0 w:World}{M:List Row}{N:Nat}{a:Option Addr}{L:List Rn} (hw:Sat w0 M w) (h1:slRow N a 5 (L.map rnV)∈M:=by (repeat (first|exact List.Mem.head _|apply List.Mem.tail))) (h2:tfam N L∈M:=by (repeat (first|exact List.Mem.head _|apply List.Mem.tail))):RunsAt w a L:=⟨hw.sl h1,fun r hr=>hw.fam h2 r hr⟩
def newT (N:Nat) (L:List Rn):Prop:=∀ r∈L,∀ p,r.adr=some p->N<=p.block
theorem newT.app {N:Nat}{a b:List Rn} (h1:newT N a) (h2:newT N b):newT N (a++b):=fun r hr=>(List.mem_append.1 hr).elim (h1 r) (h2 r)
section
variable {C:Ctx}{st:List (Nat×Value)}{M:List Row}{k:List Item}{q q':Md}{all rest:List Oper}{d:Nat}{ty:TypeId}{pos:String}{after:Array Edge}{gd:Option (Nat×Bool)}
end
theorem joinF_take {l:List Rn}{n:Nat} (h:n < l.length):joinL ((l.take (n+1)).map rbare)=putL (joinL ((l.take n).map rbare)) (rbare l[n]):=by
 rw [List.take_add_one,List.getElem?_eq_getElem h,List.map_append,joinL,joinF_app];rfl
theorem ok_bare {r:Rn}:OkR (rbare r) ↔ OkR r:=Iff.rfl
theorem cn_bare:∀ {l:List Rn}{f t:Int},Cn f (l.map rbare) t ↔ Cn f l t
 | [],_,_=>Iff.rfl
 | r::l,f,t=>and_congr Iff.rfl (cn_bare (l:=l))
structure JnAt (l:List Rn) (n:Nat) (o:List Rn):Prop where
 le:n<=l.length
 eq:o.map rbare=joinL ((l.take n).map rbare)
theorem JnAt.step {l:List Rn}{n:Nat}{o o':List Rn} (h:JnAt l n o) (hn:n < l.length) (ho:o'.map rbare=putL (o.map rbare) (rbare l[n])):JnAt l (n+1) o':=⟨hn,by rw [ho,joinF_take hn,h.eq]⟩
theorem JnAt.ok {l:List Rn}{n:Nat}{o:List Rn}{f t:Int} (h:JnAt l n o) (hC:Cn f l t) (hO:∀ r∈l,OkR r) (hn:n < l.length):(∀ r∈o,OkR r)/\Cn f o l[n].from_:=by
 rw [<- List.take_append_drop n l] at hC
 obtain ⟨m,h1,h2⟩:=Cn.app.1 hC
 rw [List.drop_eq_getElem_cons hn] at h2
 obtain ⟨q1,q2,_⟩:=joinL_ok (cn_bare.2 h1) (fun r hr=>by obtain ⟨r',h3,rfl⟩:=List.mem_map.1 hr;exact ok_bare.2 (hO r' (List.mem_of_mem_take h3)))
 rw [<- h.eq] at q1 q2
 exact ⟨fun r hr=>ok_bare.1 (q2 _ (List.mem_map_of_mem hr)),by rw [h2.1];exact cn_bare.1 q1⟩
theorem JnAt.len {l:List Rn}{n:Nat}{o:List Rn} (h:JnAt l n o):o.length<=n:=by
 have:=congrArg List.length h.eq
 rw [List.length_map] at this
 have:=joinL_len ((l.take n).map rbare)
 rw [List.length_map,List.length_take] at this
 omega
end Go.Proofs.YtjcecdmbfmccoaaGreatDoor
/-
 Contract: run.Join.
-/
namespace Go.Sl
open Go.RowKit Go.Proofs.YtjcecdmbfmccoaaGreatDoor
variable {C:Ctx}{st:List (Nat×Value)}{M:List Row}{k:List Item}
theorem SrcV.own {A:Type}{f:A->List Value}{base sz n c E:Nat}{l:List A}{a:Option Addr} (hf:∀ x,(f x).length=sz) (h1:∀ x,(f x).all (·.oneCell')=true) (hn:l.length=n) (h0:0 < n->∃ b off,a=some ⟨b,off,none⟩) (hm:Row.own base (.slice a n c) E sz n (Sl.flat f l)∈M):SrcV C M a n sz (Sl.flat f l) where
 len:=by rw [flat_len hf,hn]
 one:=by
  refine List.all_eq_true.2 fun v hv=>?_
  obtain ⟨cs,hcs,hv⟩:=List.mem_flatten.1 hv
  obtain ⟨x,_,rfl⟩:=List.mem_map.1 hcs
  exact List.all_eq_true.1 (h1 x) v hv
 nil:=fun e=>by
  rcases Nat.eq_zero_or_pos n with h|h
  ·exact h
  ·obtain ⟨b,off,h2⟩:=h0 h
   rw [h2] at e;cases e
 go:=fun ad ha w hw j u hj=>by
  subst ha
  obtain ⟨h3,h4,h5⟩:=flat_back hf hj
  obtain ⟨b,off,h6,h7⟩:=(SlAt.ofOwn hf (hw.hold _ hm) hn) (by rw [List.length_map];exact Nat.lt_of_le_of_lt (Nat.zero_le _) h4)
  cases h6
  have:=(h7 (j / sz) _ (by rw [List.getElem?_map,List.getElem?_eq_getElem h4];rfl)).2 (j % sz) u h5
  rw [addr_add,addO_eq,<- this]
  congr 2
  have:=Nat.div_add_mod j sz
  rw [Nat.mul_comm] at this
  omega
end Go.Sl
namespace Go.Proofs.YtjcecdmbfmccoaaGreatDoor
open Go.RowKit Go.Sl Go.Num
theorem RetU.nil {L0:List Rn}{P:List Rn->Prop} (v:Option Addr->Nat->Nat->Value) {w w':World} (hb:Below w.heap.size w w') (hP:P []):RetU L0 P v w (.returned (v none 0 0)) w':=⟨[],none,0,hP,rfl,⟨fun h=>absurd h (Nat.lt_irrefl _),fun r hr=>by cases hr⟩,⟨fun p hp=>(by cases hp),Nat.le_refl _⟩,srcR.nil,hb⟩
end Go.Proofs.YtjcecdmbfmccoaaGreatDoor
/-
 Appends in regions that fork,with the form of the slice.
-/
namespace Go.Sl
open Go.RowKit
variable {C:Ctx}{st:List (Nat×Value)}{M:List Row}{k:List Item}{q q':Md}{all rest:List Oper}{d:Nat}{ty:TypeId}{pos:String}{after:Array Edge}{gd:Option (Nat×Bool)}
theorem Sat.ownForm {w0 w:World}{base E size n:Nat}{v:Value}{xs:List Value} (hw:Sat w0 M w) (hm:Row.own base v E size n xs∈M):∃ a c,v=.slice a n c:=by
 obtain ⟨hl,hv⟩:=hw.hold _ hm
 rcases hv with ⟨rfl,rfl⟩|⟨g,cap,cur,rfl,_⟩
 ·exact ⟨_,_,rfl⟩
 ·exact ⟨_,_,rfl⟩
theorem G.ownFormS {p:Pt}{M0:List Row}{l:List Oper}{base E size n:Nat}{v:Value}{xs:List Value} (hm:Row.own base v E size n xs∈M) (h:∀ a c,v=.slice a n c->G (.anys M0 p) C all st M l k):G (.anys M0 p) C all st M l k :=
 ⟨fun hs hl hsel listed hdc hp a w hf hdf hw=>by
  obtain ⟨a',c',e⟩:=hw.ownForm hm
  exact (h a' c' e).go hs hl hsel listed hdc hp a w hf hdf hw⟩
theorem G.apSF {p:Pt}{T ty' E bytes size n m c base:Nat}{z v:Value}{x y:Operand}{a:Option Addr}{xs news cs:List Value}{F:Row->List Row}{M0:List Row}{i:Nat} (hs:sdB all st gd d C.N=true)
  (hx:evS st x=some v) (hy:evS st y=some (.slice a m c)) (hm:RAt (.own base v E size n xs) M F) [hT:TElem C.P T E z size bytes] (hsrc:SrcV C M a m size news) (hcs:xs++news=cs) (hb:(n+m)*bytes<=140737488355328) (hnm:n+m<=9223372036854775807)
  (hsub:∀ v',M0.Sublist (F (.own 0 v' E size (n+m) cs))) (hin:∀ v',Row.own 0 v' E size (n+m) cs∈F (.own 0 v' E size (n+m) cs))
  (h:∀ a' c',G (.anys M0 p) C all ((d,.slice a' (n+m) c')::st) (F (.own 0 (.slice a' (n+m) c') E size (n+m) cs)) rest k) :
  G (.anys M0 (.e i p)) C all st M ({ dst:=some d,op:=.call { callee:=.builtin .append,args:=#[x,y],argTypes:=#[T,T] },type:=ty',pos,after,guard:=gd }::rest) k :=
 G.apS hs rfl hx hy hm hsrc hcs hb hnm fun v'=>⟨hsub v',G.ownFormS (hin v') fun a' c' e=>by subst e;exact h a' c'⟩
theorem G.apSOF {p:Pt}{T ty' E bytes size n m c base:Nat}{z v:Value}{x y:Operand}{a:Option Addr}{xs news cs:List Value}{F:Row->List Row}{M0:List Row}{i:Nat} (hs:sdB all st gd d C.N=true)
  (hx:evS st x=some v) (hy:evS st y=some (.slice a m c)) (hm:RAt (.own base v E size n xs) M F) [hT:TElem C.P T E z size bytes] (hsrc:SrcV C M a m size news) (hcs:xs++news=cs) (hb:(n+m)*bytes<=140737488355328) (hnm:n+m<=9223372036854775807)
  (hsub:∀ v',M0.Sublist (F (.own 0 v' E size (n+m) cs))) (hin:∀ v',Row.own 0 v' E size (n+m) cs∈F (.own 0 v' E size (n+m) cs))
  (h:∀ a' c',G (.anys M0 p) C all ((d,.slice a' (n+m) c')::st) (F (.own 0 (.slice a' (n+m) c') E size (n+m) cs)) rest k) :
  G (.ones M0 i p) C all st M ({ dst:=some d,op:=.call { callee:=.builtin .append,args:=#[x,y],argTypes:=#[T,T] },type:=ty',pos,after,guard:=gd }::rest) k :=
 G.apSO hs hx hy hm hsrc hcs hb hnm fun v'=>⟨hsub v',G.ownFormS (hin v') fun a' c' e=>by subst e;exact h a' c'⟩
end Go.Sl
/-
 Plain: distances that are lowered along edges,round by round,in place: either nothing changes in a round,or going back leads into a cycle with a negative sum.
-/
namespace Go.Proofs.YtjcecdmbfmccoaaGreatDoor
structure BF where
 d:Nat->Rat
 p:Nat->Nat
 u:Nat->Nat
def fineE (m:Nat->Nat->Option Rat) (d:Nat->Rat) (a b:Nat):Prop:=∀ w,m a b=some w->a≠b->d b<=d a+w
def itP (p:Nat->Nat):Nat->Nat->Nat
 | 0,v=>v
 | k+1,v=>itP p k (p v)
theorem itP_add (p:Nat->Nat):∀ j k v,itP p (j+k) v=itP p k (itP p j v)
 | 0,k,v=>by rw [Nat.zero_add];rfl
 | j+1,k,v=>by rw [Nat.succ_add];exact itP_add p j k (p v)
theorem itP_succ (p:Nat->Nat) (k v:Nat):itP p (k+1) v=p (itP p k v):=itP_add p k 1 v
def wsP (m:Nat->Nat->Option Rat) (p:Nat->Nat):Nat->Nat->Rat
 | 0,_=>0
 | k+1,v=>(m (p v) v).getD 0+wsP m p k (p v)
theorem wsP_add (m:Nat->Nat->Option Rat) (p:Nat->Nat):∀ j k v,wsP m p (j+k) v=wsP m p j v+wsP m p k (itP p j v)
 | 0,k,v=>by rw [Nat.zero_add,wsP,Rat.zero_add];rfl
 | j+1,k,v=>by
  rw [Nat.succ_add]
  show (m (p v) v).getD 0+wsP m p (j+k) (p v)=(m (p v) v).getD 0+wsP m p j (p v)+wsP m p k (itP p j (p v))
  rw [wsP_add m p j k (p v),Rat.add_assoc]
theorem it_congr {p q:Nat->Nat}:∀ {k v},(∀ i,i < k->q (itP p i v)=p (itP p i v))->itP q k v=itP p k v
 | 0,v,_=>rfl
 | k+1,v,h=>by
  have h0:q v=p v:=h 0 (Nat.succ_pos _)
  show itP q k (q v)=itP p k (p v)
  rw [h0]
  exact it_congr fun i hi=>h (i+1) (Nat.succ_lt_succ hi)
theorem ws_congr {m:Nat->Nat->Option Rat}{p q:Nat->Nat}:∀ {k v},(∀ i,i < k->q (itP p i v)=p (itP p i v))->wsP m q k v=wsP m p k v
 | 0,v,_=>rfl
 | k+1,v,h=>by
  have h0:q v=p v:=h 0 (Nat.succ_pos _)
  show (m (q v) v).getD 0+wsP m q k (q v)=(m (p v) v).getD 0+wsP m p k (p v)
  rw [h0,ws_congr fun i hi=>h (i+1) (Nat.succ_lt_succ hi)]
structure Cyc (p:Nat->Nat) (u:Nat->Nat) (k v:Nat):Prop where
 pos:1<=k
 back:itP p k v=v
 once:∀ i,0 < i->i < k->itP p i v≠v
 set:∀ i,i < k->1<=u (itP p i v)
theorem Cyc.inj {p u:Nat->Nat}{k v:Nat} (h:Cyc p u k v) {i j:Nat} (hij:i < j) (hj:j < k):itP p i v≠itP p j v:=fun e=>by
 have h1:itP p (k-j) (itP p j v)=v:=by
  rw [<- itP_add,show j+(k-j)=k by omega];exact h.back
 rw [<- e,<- itP_add] at h1
 exact h.once (i+(k-j)) (by omega) (by omega) h1
structure BInv (m:Nat->Nat->Option Rat) (r:Nat) (P:Nat->Nat->Prop) (s:BF):Prop where
 un:∀ a b,¬ fineE m s.d a b->r<=s.u a+1/\(P a b->r<=s.u a)
 pr:∀ v,1<=s.u v->∃ w,m (s.p v) v=some w/\s.p v≠v/\s.d (s.p v)+w<=s.d v/\s.u v<=s.u (s.p v)+1
 le:∀ v,s.u v<=r
 cy:∀ k v,Cyc s.p s.u k v->wsP m s.p k v < 0
theorem tele {m:Nat->Nat->Option Rat}{r:Nat}{P:Nat->Nat->Prop}{s:BF} (h:BInv m r P s):∀ {k v},(∀ i,i < k->1<=s.u (itP s.p i v))->s.d (itP s.p k v)+wsP m s.p k v<=s.d v
 | 0,v,_=>by show s.d v+0<=s.d v;rw [Rat.add_zero];exact Rat.le_refl
 | k+1,v,hk=>by
  obtain ⟨w,h1,_,h2,_⟩:=h.pr v (hk 0 (Nat.succ_pos _))
  have ih:=tele h (k:=k) (v:=s.p v) fun i hi=>hk (i+1) (Nat.succ_lt_succ hi)
  show s.d (itP s.p k (s.p v))+((m (s.p v) v).getD 0+wsP m s.p k (s.p v))<=s.d v
  rw [h1]
  show s.d (itP s.p k (s.p v))+(w+wsP m s.p k (s.p v))<=s.d v
  grind
def rlxB (s:BF) (r a b:Nat) (w:Rat):BF:=⟨fun v=>if v=b then s.d a+w else s.d v,fun v=>if v=b then a else s.p v,fun v=>if v=b then r else s.u v⟩
def doneP (P:Nat->Nat->Prop) (a b:Nat):Nat->Nat->Prop:=fun x y=>P x y∨(x=a/\y=b)
theorem BInv.skip {m:Nat->Nat->Option Rat}{r:Nat}{P:Nat->Nat->Prop}{s:BF} (h:BInv m r P s) {a b:Nat} (hf:fineE m s.d a b):BInv m r (doneP P a b) s :=
 ⟨fun x y hn=>⟨(h.un x y hn).1,fun hp=>hp.elim (h.un x y hn).2 fun ⟨e1,e2⟩=>absurd (e1 ▸ e2 ▸ hf) hn⟩,h.pr,h.le,h.cy⟩
theorem BInv.relax {m:Nat->Nat->Option Rat}{r:Nat}{P:Nat->Nat->Prop}{s:BF} (h:BInv m r P s) (hr:1<=r) {a b:Nat}{w:Rat} (hm:m a b=some w) (hab:a≠b) (hlt:s.d a+w < s.d b):BInv m r (doneP P a b) (rlxB s r a b w):=by
 have hnf:¬ fineE m s.d a b:=fun hf=>by
  have:=hf w hm hab
  grind
 have hua:=(h.un a b hnf).1
 have da:(rlxB s r a b w).d a=s.d a:=if_neg hab
 have db:(rlxB s r a b w).d b=s.d a+w:=if_pos rfl
 have dn:∀ v,v≠b->(rlxB s r a b w).d v=s.d v:=fun v hv=>if_neg hv
 have dle:∀ v,(rlxB s r a b w).d v<=s.d v:=fun v=>by
  by_cases e:v=b
  ·subst e;rw [db];exact Rat.le_of_lt hlt
  ·rw [dn v e];exact Rat.le_refl
 have ub:(rlxB s r a b w).u b=r:=if_pos rfl
 have un':∀ v,v≠b->(rlxB s r a b w).u v=s.u v:=fun v hv=>if_neg hv
 have ule:∀ v,s.u v<=(rlxB s r a b w).u v:=fun v=>by
  by_cases e:v=b
  ·subst e;rw [ub];exact h.le v
  ·rw [un' v e];exact Nat.le_refl _
 have pb:(rlxB s r a b w).p b=a:=if_pos rfl
 have pn:∀ v,v≠b->(rlxB s r a b w).p v=s.p v:=fun v hv=>if_neg hv
 refine ⟨fun x y hn=>?_,fun v hv=>?_,fun v=>?_,fun k v hc=>?_⟩
 ·by_cases hx:x=b
  ·subst hx
   rw [ub]
   exact ⟨by omega,fun _=>Nat.le_refl _⟩
  ·rw [un' x hx]
   have hn':¬ fineE m s.d x y:=fun hf=>hn fun w' hm' hxy=>by
    have:=hf w' hm' hxy
    have:=dle y
    rw [dn x hx]
    grind
   refine ⟨(h.un x y hn').1,fun hp=>?_⟩
   rcases hp with hp|⟨e1,e2⟩
   ·exact (h.un x y hn').2 hp
   ·exfalso
    subst e1 e2
    refine hn fun w' hm' _=>?_
    rw [hm] at hm'
    cases hm'
    rw [db,da];exact Rat.le_refl
 ·by_cases hvb:v=b
  ·subst hvb
   refine ⟨w,by rw [pb];exact hm,by rw [pb];exact hab,?_,?_⟩
   ·rw [pb,da,db];exact Rat.le_refl
   ·rw [pb,ub,un' a hab];exact hua
  ·rw [un' v hvb] at hv ⊢
   obtain ⟨w',g1,g2,g3,g4⟩:=h.pr v hv
   rw [pn v hvb,dn v hvb]
   refine ⟨w',g1,g2,?_,?_⟩
   ·have:=dle (s.p v)
    grind
   ·have:=ule (s.p v)
    omega
 ·by_cases hvb:v=b
  ·subst hvb;rw [ub];exact Nat.le_refl _
  ·rw [un' v hvb];exact h.le v
 ·generalize hs':rlxB s r a b w=s' at *
  by_cases hin:∃ j,j < k/\itP s'.p j v=b
  ·obtain ⟨j,hj,hjb⟩:=hin
   have hoth:∀ i,i < k->i≠j->itP s'.p i v≠b:=fun i hi hij e=>by
    rcases Nat.lt_or_gt_of_ne hij with q|q
    ·exact hc.inj q hj (e.trans hjb.symm)
    ·exact hc.inj q hi (hjb.trans e.symm)
   have c1:∀ i,i < j->s.p (itP s'.p i v)=s'.p (itP s'.p i v):=fun i hi=>(pn _ (hoth i (by omega) (by omega))).symm
   have i1:itP s.p j v=b:=(it_congr c1).trans hjb
   have w1:wsP m s'.p j v=wsP m s.p j v:=(ws_congr c1).symm
   have u1:∀ i,i < j->1<=s.u (itP s.p i v):=fun i hi=>by
    have e:itP s.p i v=itP s'.p i v:=it_congr fun x hx=>c1 x (by omega)
    rw [e,<- un' _ (hoth i (by omega) (by omega))]
    exact hc.set i (by omega)
   have t1:=tele h u1
   rw [i1] at t1
   have hk:k=j+1+(k-(j+1)):=by omega
   have ia:itP s'.p (j+1) v=a:=by rw [itP_succ,hjb,pb]
   have c2:∀ i,i < k-(j+1)->s.p (itP s'.p i a)=s'.p (itP s'.p i a):=fun i hi=>by
    have e:itP s'.p i a=itP s'.p (j+1+i) v:=by rw [itP_add,ia]
    rw [e]
    exact (pn _ (hoth (j+1+i) (by omega) (by omega))).symm
   have ev:itP s'.p (k-(j+1)) a=v:=by
    have:=hc.back
    rw [hk,itP_add,ia] at this
    exact this
   have i2:itP s.p (k-(j+1)) a=v:=(it_congr c2).trans ev
   have w2:wsP m s'.p (k-(j+1)) a=wsP m s.p (k-(j+1)) a:=(ws_congr c2).symm
   have u2:∀ i,i < k-(j+1)->1<=s.u (itP s.p i a):=fun i hi=>by
    have e:itP s.p i a=itP s'.p i a:=it_congr fun x hx=>c2 x (by omega)
    have e2:itP s'.p i a=itP s'.p (j+1+i) v:=by rw [itP_add,ia]
    rw [e,e2,<- un' _ (hoth (j+1+i) (by omega) (by omega))]
    exact hc.set (j+1+i) (by omega)
   have t2:=tele h u2
   rw [i2] at t2
   have hw:wsP m s'.p 1 b=w:=by
    show (m (s'.p b) b).getD 0+0=w
    rw [pb,hm,Rat.add_zero];rfl
   rw [hk,wsP_add,wsP_add,hjb,hw,ia,w1,w2]
   grind
  ·have hoth:∀ i,i < k->itP s'.p i v≠b:=fun i hi e=>hin ⟨i,hi,e⟩
   have c1:∀ i,i < k->s.p (itP s'.p i v)=s'.p (itP s'.p i v):=fun i hi=>(pn _ (hoth i hi)).symm
   have ei:∀ i,i<=k->itP s.p i v=itP s'.p i v:=fun i hi=>it_congr fun x hx=>c1 x (by omega)
   rw [<- ws_congr c1]
   refine h.cy k v ⟨hc.pos,by rw [ei k (Nat.le_refl _)];exact hc.back,fun i h0 hi=>by rw [ei i (by omega)];exact hc.once i h0 hi,fun i hi=>?_⟩
   rw [ei i (by omega),<- un' _ (hoth i hi)]
   exact hc.set i hi
theorem BInv.round {m:Nat->Nat->Option Rat}{r n:Nat}{P:Nat->Nat->Prop}{s:BF} (h:BInv m r P s) (hP:∀ a b,(m a b).isSome=true->P a b):BInv m (r+1) (fun _ _=>False) s :=
 ⟨fun a b hn=>⟨by
  have hs:(m a b).isSome=true:=by
   cases e:m a b with
   | some w=>rfl
   | none=>exact absurd (fun w hw=>by rw [e] at hw;cases hw) hn
  have:=(h.un a b hn).2 (hP a b hs)
  omega,fun hf=>hf.elim⟩,h.pr,fun v=>Nat.le_succ_of_le (h.le v),h.cy⟩
theorem BInv.start (m:Nat->Nat->Option Rat):BInv m 1 (fun _ _=>False) ⟨fun _=>0,fun _=>0,fun _=>0⟩ :=
 ⟨fun a b _=>⟨Nat.le_refl _,fun hf=>hf.elim⟩,fun v hv=>absurd hv (Nat.not_succ_le_zero 0),fun v=>Nat.zero_le _,fun k v hc=>absurd (hc.set 0 hc.pos) (Nat.not_succ_le_zero 0)⟩
theorem nodup_leG:∀ (n:Nat) (L:List Nat),L.Nodup->(∀ x∈L,x < n)->L.length<=n
 | 0,L,_,h=>by
  cases L with
  | nil=>exact Nat.le_refl _
  | cons x L=>exact absurd (h x (List.mem_cons_self ..)) (Nat.not_lt_zero _)
 | n+1,L,hn,h=>by
  have ih:=nodup_leG n (L.erase n) (hn.erase n) fun x hx=>by
   have h1:=h x (List.mem_of_mem_erase hx)
   have h2:x≠n:=fun e=>by
    subst e
    exact (List.Nodup.mem_erase_iff hn).1 hx |>.1 rfl
   omega
  rw [List.length_erase] at ih
  split at ih<;>omega
theorem pigeon {n:Nat}{f:Nat->Nat} (h:∀ i,i<=n->f i < n):∃ i j,i < j/\j<=n/\f i=f j:=Classical.byContradiction fun hno=>by
 have hnd:((List.range (n+1)).map f).Nodup:=by
  rw [List.nodup_iff_pairwise_ne,List.pairwise_map]
  refine List.Pairwise.imp_of_mem (R:=(· < ·)) (fun {a b} ha hb hab e=>hno ⟨a,b,hab,by have:=List.mem_range.1 hb;omega,e⟩) List.pairwise_lt_range
 have:=nodup_leG n _ hnd fun x hx=>by
  obtain ⟨i,hi,rfl⟩:=List.mem_map.1 hx
  exact h i (by have:=List.mem_range.1 hi;omega)
 rw [List.length_map,List.length_range] at this
 omega
theorem BInv.cycle {m:Nat->Nat->Option Rat}{n:Nat}{P:Nat->Nat->Prop}{s:BF} (h:BInv m (n+1) P s) (hm:∀ a b,(m a b).isSome=true->a < n/\b < n) {v:Nat} (hv:s.u v=n+1):(∀ i,itP s.p i v < n/\1<=s.u (itP s.p i v))/\∃ k,k<=n/\Cyc s.p s.u k (itP s.p n v)/\wsP m s.p k (itP s.p n v) < 0:=by
 have h1:∀ i,i<=n->n+1<=s.u (itP s.p i v)+i:=fun i=>by
  induction i with
  | zero=>exact fun _=>Nat.le_of_eq hv.symm
  | succ i ih =>
   intro hi
   have:=ih (by omega)
   obtain ⟨_,_,_,_,h4⟩:=h.pr (itP s.p i v) (by omega)
   rw [itP_succ]
   omega
 have hlt:∀ x,1<=s.u x->x < n:=fun x hx=>by
  obtain ⟨w,h2,_⟩:=h.pr x hx
  exact (hm _ _ (by rw [h2];rfl)).2
 obtain ⟨i,j,hij,hj,e⟩:=pigeon (n:=n) (f:=fun i=>itP s.p i v) fun i hi=>hlt _ (by have:=h1 i hi;omega)
 have hper:∀ t,j<=t->itP s.p t v=itP s.p (t-(j-i)) v:=fun t ht=>by
  have a1:itP s.p t v=itP s.p (t-j) (itP s.p j v):=by rw [<- itP_add];congr 1;omega
  have a2:itP s.p (t-(j-i)) v=itP s.p (t-j) (itP s.p i v):=by rw [<- itP_add];congr 1;omega
  rw [a1,a2]
  exact congrArg _ e.symm
 have hall:∀ t,1<=s.u (itP s.p t v):=fun t=>by
  induction t using Nat.strongRecOn with
  | _ t ih =>
   by_cases ht:t<=n
   ·have:=h1 t ht;omega
   ·rw [hper t (by omega)]
    exact ih _ (by omega)
 refine ⟨fun t=>⟨hlt _ (hall t),hall t⟩,?_⟩
 have hback:itP s.p (j-i) (itP s.p n v)=itP s.p n v:=by
  rw [<- itP_add,hper (n+(j-i)) (by omega)]
  congr 1
  omega
 have hex:∃ k,1<=k/\k<=j-i/\itP s.p k (itP s.p n v)=itP s.p n v/\∀ i',0 < i'->i' < k->itP s.p i' (itP s.p n v)≠itP s.p n v:=by
  have:∀ N k,k<=N->1<=k->k<=j-i->itP s.p k (itP s.p n v)=itP s.p n v->∃ k,1<=k/\k<=j-i/\itP s.p k (itP s.p n v)=itP s.p n v/\∀ i',0 < i'->i' < k->itP s.p i' (itP s.p n v)≠itP s.p n v:=fun N=>by
   induction N with
   | zero=>exact fun k hk h1=>by omega
   | succ N ih =>
    intro k hk k1 k2 k3
    by_cases hno:∃ i',0 < i'/\i' < k/\itP s.p i' (itP s.p n v)=itP s.p n v
    ·obtain ⟨i',q1,q2,q3⟩:=hno
     exact ih i' (by omega) q1 (by omega) q3
    ·exact ⟨k,k1,k2,k3,fun i' q1 q2 q3=>hno ⟨i',q1,q2,q3⟩⟩
  exact this (j-i) (j-i) (Nat.le_refl _) (by omega) (Nat.le_refl _) hback
 obtain ⟨k,k1,k2,k3,k4⟩:=hex
 have hc:Cyc s.p s.u k (itP s.p n v):=⟨k1,k3,k4,fun i' _=>by rw [<- itP_add];exact hall _⟩
 exact ⟨k,by omega,hc,h.cy k _ hc⟩
def iS (f:Nat->Int):Nat->Int
 | 0=>0
 | n+1=>iS f n+f n
def rS' (f:Nat->Rat):Nat->Rat
 | 0=>0
 | n+1=>rS' f n+f n
theorem iS_congr {f g:Nat->Int}:∀ {n},(∀ i,i < n->f i=g i)->iS f n=iS g n
 | 0,_=>rfl
 | n+1,h=>by rw [iS,iS,iS_congr fun i hi=>h i (by omega),h n (by omega)]
theorem iS_add (f g:Nat->Int):∀ n,iS (fun i=>f i+g i) n=iS f n+iS g n
 | 0=>rfl
 | n+1=>by rw [iS,iS,iS,iS_add f g n];omega
theorem iS_zero:∀ n,iS (fun _=>0) n=0
 | 0=>rfl
 | n+1=>by rw [iS,iS_zero n];rfl
theorem iS_one (a:Nat) (m:Int):∀ {n},iS (fun i=>if i=a then m else 0) n=if a < n then m else 0
 | 0=>by rw [if_neg (Nat.not_lt_zero _)];rfl
 | n+1=>by
  rw [iS,iS_one a m (n:=n)]
  by_cases e:n=a
  ·rw [if_neg (by omega),if_pos e,if_pos (by omega)];omega
  ·rw [if_neg e]
   by_cases h:a < n
   ·rw [if_pos h,if_pos (by omega)];omega
   ·rw [if_neg h,if_neg (by omega)];rfl
theorem iS_nn {f:Nat->Int}:∀ {n},(∀ i,i < n->0<=f i)->0<=iS f n
 | 0,_=>Int.le_refl _
 | n+1,h=>by
  have:=iS_nn (n:=n) fun i hi=>h i (by omega)
  have:=h n (by omega)
  rw [iS];omega
theorem iS_le1 {f:Nat->Int}:∀ {n},(∀ i,i < n->0<=f i)->∀ i,i < n->f i<=iS f n
 | 0,_,i,hi=>absurd hi (Nat.not_lt_zero _)
 | n+1,h,i,hi=>by
  have h1:=iS_nn (n:=n) fun i hi=>h i (by omega)
  have h2:=h n (by omega)
  rw [iS]
  by_cases e:i=n
  ·subst e;omega
  ·have:=iS_le1 (n:=n) (fun i hi=>h i (by omega)) i (by omega)
   omega
theorem rT_congr {f g:Nat->Rat}:∀ {n},(∀ i,i < n->f i=g i)->rS' f n=rS' g n
 | 0,_=>rfl
 | n+1,h=>by rw [rS',rS',rT_congr fun i hi=>h i (by omega),h n (by omega)]
theorem rT_add (f g:Nat->Rat):∀ n,rS' (fun i=>f i+g i) n=rS' f n+rS' g n
 | 0=>by rw [rS',rS',rS'];grind
 | n+1=>by rw [rS',rS',rS',rT_add f g n];grind
theorem rT_mul (c:Rat) (f:Nat->Rat):∀ n,rS' (fun i=>c*f i) n=c*rS' f n
 | 0=>by rw [rS',rS',Rat.mul_zero]
 | n+1=>by rw [rS',rS',rT_mul c f n];grind
theorem rT_zero:∀ n,rS' (fun _=>0) n=0
 | 0=>rfl
 | n+1=>by rw [rS',rT_zero n];grind
theorem rS_one (a:Nat) (m:Rat):∀ {n},rS' (fun i=>if i=a then m else 0) n=if a < n then m else 0
 | 0=>by rw [if_neg (Nat.not_lt_zero _)];rfl
 | n+1=>by
  rw [rS',rS_one a m (n:=n)]
  by_cases e:n=a
  ·rw [if_neg (by omega),if_pos e,if_pos (by omega)];grind
  ·rw [if_neg e]
   by_cases h:a < n
   ·rw [if_pos h,if_pos (by omega)];grind
   ·rw [if_neg h,if_neg (by omega)];grind
theorem rS_le {f g:Nat->Rat}:∀ {n},(∀ i,i < n->f i<=g i)->rS' f n<=rS' g n
 | 0,_=>Rat.le_refl
 | n+1,h=>by
  have h1:=rS_le (n:=n) fun i hi=>h i (by omega)
  have h2:=h n (by omega)
  rw [rS',rS'];grind
theorem rS_swap (f:Nat->Nat->Rat) (m:Nat):∀ n,rS' (fun i=>rS' (fun j=>f i j) m) n=rS' (fun j=>rS' (fun i=>f i j) n) m
 | 0=>by
  rw [rS']
  have:rS' (fun j=>rS' (fun i=>f i j) 0) m=rS' (fun _=>0) m:=rfl
  rw [this,rT_zero]
 | n+1=>by
  rw [rS',rS_swap f m n,<- rT_add];rfl
theorem rS_cast (f:Nat->Int):∀ n,rS' (fun i=>(f i:Rat)) n=(iS f n:Rat)
 | 0=>rfl
 | n+1=>by rw [rS',iS,rS_cast f n,Rat.intCast_add]
theorem row_min {n:Nat}{x y:Nat->Int}{g:Nat->Rat} (hx:∀ c,c < n->0<=x c) (hy:∀ c,c < n->0<=y c) (hs:iS x n=iS y n) (hg:∀ c,c < n->0 < x c->∀ d,d < n->g c<=g d):rS' (fun c=>(x c:Rat)*g c) n<=rS' (fun c=>(y c:Rat)*g c) n:=by
 by_cases hex:∃ a,a < n/\0 < x a
 ·obtain ⟨a,ha,hxa⟩:=hex
  have hm:=hg a ha hxa
  have e1:rS' (fun c=>(x c:Rat)*g c) n=rS' (fun c=>(x c:Rat)*g a) n:=rT_congr fun c hc=>by
   by_cases h0:0 < x c
   ·have h1:=hg c hc h0 a ha
    have h2:=hm c hc
    rw [Rat.le_antisymm h1 h2]
   ·have:x c=0:=by have:=hx c hc;omega
    rw [this];grind
  have e2:rS' (fun c=>(x c:Rat)*g a) n=g a*(iS x n:Rat):=by
   rw [<- rS_cast,<- rT_mul];exact rT_congr fun c _=>Rat.mul_comm _ _
  have e3:rS' (fun c=>(y c:Rat)*g a) n=g a*(iS y n:Rat):=by
   rw [<- rS_cast,<- rT_mul];exact rT_congr fun c _=>Rat.mul_comm _ _
  rw [e1,e2,hs,<- e3]
  exact rS_le fun c hc=>Rat.mul_le_mul_of_nonneg_left (hm c hc) (Rat.intCast_nonneg.2 (hy c hc))
 ·have hx0:∀ c,c < n->x c=0:=fun c hc=>by
   have:=hx c hc
   have:¬ 0 < x c:=fun h=>hex ⟨c,hc,h⟩
   omega
  have hsx:iS x n=0:=by rw [iS_congr hx0,iS_zero]
  have hy0:∀ c,c < n->y c=0:=fun c hc=>by
   have h1:=iS_le1 hy c hc
   have h2:=hy c hc
   rw [<- hs,hsx] at h1;omega
  rw [rT_congr (g:=fun c=>(y c:Rat)*g c) fun c hc=>by rw [hx0 c hc,hy0 c hc]]
  exact Rat.le_refl
structure Feas (S n:Nat) (row col:Nat->Int) (x:Nat->Nat->Int):Prop where
 nn:∀ s c,s < S->c < n->0<=x s c
 row:∀ s,s < S->iS (x s) n=row s
 col:∀ c,c < n->iS (fun s=>x s c) S=col c
def costX (S n:Nat) (cost:Nat->Nat->Rat) (x:Nat->Nat->Int):Rat:=rS' (fun s=>rS' (fun c=>(x s c:Rat)*cost s c) n) S
theorem feas_opt {S n:Nat}{row col:Nat->Int}{cost:Nat->Nat->Rat}{x y:Nat->Nat->Int} (hx:Feas S n row col x) (hy:Feas S n row col y) (d:Nat->Rat) (hd:∀ s a b,s < S->a < n->b < n->0 < x s a->d b-d a<=cost s b-cost s a):costX S n cost x<=costX S n cost y:=by
 have hrow:∀ s,s < S->rS' (fun c=>(x s c:Rat)*(cost s c-d c)) n<=rS' (fun c=>(y s c:Rat)*(cost s c-d c)) n:=fun s hs =>
  row_min (hx.nn s · hs) (hy.nn s · hs) ((hx.row s hs).trans (hy.row s hs).symm) fun c hc h0 b hb=>by
   have:=hd s c b hs hc hb h0
   grind
 have hsum:=rS_le hrow
 have key:∀ z:Nat->Nat->Int,Feas S n row col z->rS' (fun s=>rS' (fun c=>(z s c:Rat)*(cost s c-d c)) n) S=costX S n cost z-rS' (fun c=>d c*(col c:Rat)) n:=fun z hz=>by
  have e1:rS' (fun s=>rS' (fun c=>(z s c:Rat)*cost s c) n) S=rS' (fun s=>rS' (fun c=>(z s c:Rat)*(cost s c-d c)) n+rS' (fun c=>(z s c:Rat)*d c) n) S:=rT_congr fun s _=>by
   rw [<- rT_add]
   exact rT_congr fun c _=>by grind
  have e2:rS' (fun s=>rS' (fun c=>(z s c:Rat)*d c) n) S=rS' (fun c=>d c*(col c:Rat)) n:=by
   rw [rS_swap]
   refine rT_congr fun c hc=>?_
   rw [<- hz.col c hc,<- rS_cast,<- rT_mul]
   exact rT_congr fun s _=>Rat.mul_comm _ _
  unfold costX
  rw [e1,rT_add,e2]
  grind
 rw [key x hx,key y hy] at hsum
 grind
def upd1 (x:Nat->Nat->Int) (m:Int) (s a b:Nat):Nat->Nat->Int:=fun s' c=>if s'=s then x s' c+((if c=b then m else 0)-if c=a then m else 0) else x s' c
def updC (p:Nat->Nat) (sg:Nat->Nat->Nat) (m:Int):Nat->Nat->(Nat->Nat->Int)->Nat->Nat->Int
 | 0,_,x=>x
 | k+1,v,x=>updC p sg m k (p v) (upd1 x m (sg (p v) v) (p v) v)
theorem upd1_row {x:Nat->Nat->Int}{m:Int}{s a b n:Nat} (ha:a < n) (hb:b < n) (s':Nat):iS (upd1 x m s a b s') n=iS (x s') n:=by
 unfold upd1
 by_cases e:s'=s
 ·simp only [if_pos e]
  rw [iS_add (fun c=>x s' c) (fun c=>(if c=b then m else 0)-if c=a then m else 0)]
  have:iS (fun c=>(if c=b then m else 0)-if c=a then m else 0) n=0:=by
   have e1:=iS_add (fun c=>(if c=b then m else 0)-if c=a then m else 0) (fun c=>if c=a then m else 0) n
   have e2:iS (fun c=>((if c=b then m else 0)-if c=a then m else 0)+if c=a then m else 0) n=iS (fun c=>if c=b then m else 0) n:=iS_congr fun c _=>by omega
   rw [e2,iS_one,iS_one,if_pos ha,if_pos hb] at e1
   omega
  rw [this,Int.add_zero]
 ·simp only [if_neg e]
theorem upd1_col {x:Nat->Nat->Int}{m:Int}{s a b S:Nat} (hs:s < S) (c:Nat):iS (fun s'=>upd1 x m s a b s' c) S=iS (fun s'=>x s' c) S+((if c=b then m else 0)-if c=a then m else 0):=by
 have e:iS (fun s'=>upd1 x m s a b s' c) S=iS (fun s'=>x s' c+if s'=s then ((if c=b then m else 0)-if c=a then m else 0) else 0) S:=iS_congr fun s' _=>by
  unfold upd1
  split
  ·rfl
  ·rw [Int.add_zero]
 rw [e,iS_add,iS_one,if_pos hs]
theorem upd1_cost {x:Nat->Nat->Int}{m:Int}{s a b S n:Nat} (cost:Nat->Nat->Rat) (hs:s < S) (ha:a < n) (hb:b < n):costX S n cost (upd1 x m s a b)=costX S n cost x+(m:Rat)*(cost s b-cost s a):=by
 have e1:∀ s',s' < S->rS' (fun c=>(upd1 x m s a b s' c:Rat)*cost s' c) n=rS' (fun c=>(x s' c:Rat)*cost s' c) n+if s'=s then (m:Rat)*(cost s b-cost s a) else 0:=fun s' _=>by
  by_cases e:s'=s
  ·subst e
   rw [if_pos rfl]
   have e2:rS' (fun c=>(upd1 x m s' a b s' c:Rat)*cost s' c) n=rS' (fun c=>((x s' c:Rat)*cost s' c+(if c=b then (m:Rat)*cost s' b else 0))+if c=a then -((m:Rat)*cost s' a) else 0) n:=rT_congr fun c _=>by
    unfold upd1
    rw [if_pos rfl]
    by_cases cb:c=b
    ·by_cases ca:c=a
     ·subst cb;subst ca
      rw [if_pos rfl,if_pos rfl,if_pos rfl,Int.sub_self,Int.add_zero];grind
     ·subst cb
      rw [if_pos rfl,if_neg ca,if_pos rfl,if_neg ca,Int.sub_zero,Rat.intCast_add];grind
    ·by_cases ca:c=a
     ·subst ca
      rw [if_neg cb,if_pos rfl,if_neg cb,if_pos rfl,Int.zero_sub,Rat.intCast_add,Rat.intCast_neg];grind
     ·rw [if_neg cb,if_neg ca,if_neg cb,if_neg ca,Int.sub_zero,Int.add_zero];grind
   rw [e2,rT_add,rT_add,rS_one,rS_one,if_pos ha,if_pos hb]
   grind
  ·rw [if_neg e,Rat.add_zero]
   refine rT_congr fun c _=>?_
   unfold upd1
   rw [if_neg e]
 unfold costX
 rw [rT_congr e1,rT_add,rS_one,if_pos hs]
theorem updC_row {p:Nat->Nat}{sg:Nat->Nat->Nat}{m:Int}{n:Nat}:∀ (k v:Nat) (x:Nat->Nat->Int),(∀ i,i<=k->itP p i v < n)->∀ s',iS (updC p sg m k v x s') n=iS (x s') n
 | 0,_,_,_,_=>rfl
 | k+1,v,x,h,s'=>by
  have h0:v < n:=h 0 (Nat.zero_le _)
  have h1:p v < n:=h 1 (by omega)
  show iS (updC p sg m k (p v) (upd1 x m (sg (p v) v) (p v) v) s') n=_
  rw [updC_row k (p v) _ (fun i hi=>h (i+1) (by omega)) s',upd1_row h1 h0]
theorem updC_col {p:Nat->Nat}{sg:Nat->Nat->Nat}{m:Int}{S:Nat}:∀ (k v:Nat) (x:Nat->Nat->Int),(∀ i,i < k->sg (itP p (i+1) v) (itP p i v) < S)->∀ c,iS (fun s'=>updC p sg m k v x s' c) S=iS (fun s'=>x s' c) S+((if c=v then m else 0)-if c=itP p k v then m else 0)
 | 0,v,x,_,c=>by
  show iS (fun s'=>x s' c) S=_+((if c=v then m else 0)-if c=v then m else 0)
  omega
 | k+1,v,x,h,c=>by
  have h0:sg (p v) v < S:=h 0 (Nat.succ_pos _)
  show iS (fun s'=>updC p sg m k (p v) (upd1 x m (sg (p v) v) (p v) v) s' c) S=_+((if c=v then m else 0)-if c=itP p k (p v) then m else 0)
  rw [updC_col k (p v) _ (fun i hi=>h (i+1) (by omega)) c,upd1_col h0 c]
  omega
theorem updC_cost {p:Nat->Nat}{sg:Nat->Nat->Nat}{m:Int}{S n:Nat} (cost:Nat->Nat->Rat) {w:Nat->Nat->Option Rat}:∀ (k v:Nat) (x:Nat->Nat->Int),(∀ i,i<=k->itP p i v < n)->(∀ i,i < k->sg (itP p (i+1) v) (itP p i v) < S/\w (itP p (i+1) v) (itP p i v)=some (cost (sg (itP p (i+1) v) (itP p i v)) (itP p i v)-cost (sg (itP p (i+1) v) (itP p i v)) (itP p (i+1) v)))->costX S n cost (updC p sg m k v x)=costX S n cost x+(m:Rat)*wsP w p k v
 | 0,v,x,_,_=>by
  show costX S n cost x=costX S n cost x+(m:Rat)*0
  grind
 | k+1,v,x,h,hw=>by
  have h0:v < n:=h 0 (Nat.zero_le _)
  have h1:p v < n:=h 1 (by omega)
  obtain ⟨q1,q2⟩:=hw 0 (Nat.succ_pos _)
  have q1':sg (p v) v < S:=q1
  have q2':w (p v) v=some (cost (sg (p v) v) v-cost (sg (p v) v) (p v)):=q2
  show costX S n cost (updC p sg m k (p v) (upd1 x m (sg (p v) v) (p v) v))=costX S n cost x+(m:Rat)*((w (p v) v).getD 0+wsP w p k (p v))
  rw [updC_cost cost k (p v) _ (fun i hi=>h (i+1) (by omega)) (fun i hi=>hw (i+1) (by omega)),upd1_cost cost q1' h1 h0,q2']
  show costX S n cost x+(m:Rat)*(cost (sg (p v) v) v-cost (sg (p v) v) (p v))+(m:Rat)*wsP w p k (p v)=costX S n cost x+(m:Rat)*(cost (sg (p v) v) v-cost (sg (p v) v) (p v)+wsP w p k (p v))
  grind
theorem updC_ge {p:Nat->Nat}{sg:Nat->Nat->Nat}{m:Int} (hm:0<=m):∀ (k v:Nat) (x:Nat->Nat->Int),(∀ i j,i < j->j < k->itP p (i+1) v≠itP p (j+1) v)->∀ s c,(∀ i,i < k->itP p (i+1) v=c->sg (itP p (i+1) v) (itP p i v)=s->m<=x s c)->(0<=x s c)->0<=updC p sg m k v x s c
 | 0,_,_,_,_,_,_,h0=>h0
 | k+1,v,x,hd,s,c,hx,h0=>by
  show 0<=updC p sg m k (p v) (upd1 x m (sg (p v) v) (p v) v) s c
  have e:upd1 x m (sg (p v) v) (p v) v s c=if s=sg (p v) v then x s c+((if c=v then m else 0)-if c=p v then m else 0) else x s c:=rfl
  refine updC_ge hm k (p v) _ (fun i j hij hj=>hd (i+1) (j+1) (by omega) (by omega)) s c (fun i hi hc hs=>?_) ?_
  ·have hne:c≠p v:=fun q=>hd 0 (i+1) (by omega) (by omega) (q.symm.trans hc.symm)
   have h1:=hx (i+1) (by omega) hc hs
   rw [e,if_neg hne]
   split
   ·split<;>omega
   ·exact h1
  ·rw [e]
   split
   ·rename_i hs
    by_cases hc:c=p v
    ·have h1:=hx 0 (Nat.succ_pos _) hc.symm hs.symm
     rw [if_pos hc]
     split<;>omega
    ·rw [if_neg hc]
     split<;>omega
   ·exact h0
theorem feas_cycle {S n:Nat}{row col:Nat->Int}{cost:Nat->Nat->Rat}{x:Nat->Nat->Int} (hx:Feas S n row col x) {w:Nat->Nat->Option Rat}{sg:Nat->Nat->Nat} (hw:∀ a b r,w a b=some r->sg a b < S/\r=cost (sg a b) b-cost (sg a b) a) {p u:Nat->Nat}{k v:Nat} (hc:Cyc p u k v) (hn:∀ i,itP p i v < n) (hs:∀ i,(w (itP p (i+1) v) (itP p i v)).isSome=true) {m:Int} (hm:0 < m) (hle:∀ i,i < k->m<=x (sg (itP p (i+1) v) (itP p i v)) (itP p (i+1) v)) (hneg:wsP w p k v < 0) :
  Feas S n row col (updC p sg m k v x)/\costX S n cost (updC p sg m k v x) < costX S n cost x:=by
 have hw':∀ i,i < k->sg (itP p (i+1) v) (itP p i v) < S/\w (itP p (i+1) v) (itP p i v)=some (cost (sg (itP p (i+1) v) (itP p i v)) (itP p i v)-cost (sg (itP p (i+1) v) (itP p i v)) (itP p (i+1) v)):=fun i _=>by
  have:=hs i
  cases e:w (itP p (i+1) v) (itP p i v) with
  | none=>rw [e] at this;cases this
  | some r =>
   obtain ⟨q1,q2⟩:=hw _ _ _ e
   exact ⟨q1,by rw [q2]⟩
 refine ⟨⟨fun s c hs' hc'=>?_,fun s hs'=>?_,fun c hc'=>?_⟩,?_⟩
 ·refine updC_ge (Int.le_of_lt hm) k v x (fun i j hij hj e=>?_) s c (fun i hi e1 e2=>?_) (hx.nn s c hs' hc')
  ·by_cases hjk:j+1 < k
   ·exact hc.inj (i:=i+1) (j:=j+1) (by omega) hjk e
   ·have ej:j+1=k:=by omega
    rw [ej,hc.back] at e
    exact hc.once (i+1) (Nat.succ_pos _) (by omega) e
  ·have:=hle i hi
   rw [e1,] at this
   rw [e1] at e2
   rwa [e2] at this
 ·rw [updC_row k v x fun i _=>hn i];exact hx.row s hs'
 ·rw [updC_col k v x fun i hi=>(hw' i hi).1,hc.back,hx.col c hc']
  omega
 ·rw [updC_cost cost k v x (fun i _=>hn i) hw']
  have h1:(0:Rat) < (m:Rat):=by
   have:=Rat.intCast_le_intCast.2 (show (1:Int)<=m by omega)
   have h2:((1:Int):Rat)=1:=rfl
   grind
  have h2:=Rat.mul_lt_mul_of_pos_right hneg h1
  grind
def meaX (S n:Nat) (cost:Nat->Nat->Rat) (D:Rat) (K:Int) (x:Nat->Nat->Int):Nat:=(((costX S n cost x)*D).num+K).toNat
theorem cost_iq {S n:Nat}{cost:Nat->Nat->Rat}{D:Rat} (hD:∀ s c,s < S->c < n->∃ N:Int,cost s c*D=(N:Rat)) (x:Nat->Nat->Int):∃ N:Int,costX S n cost x*D=(N:Rat):=by
 have one:∀ s,s < S->∃ N:Int,rS' (fun c=>(x s c:Rat)*cost s c) n*D=(N:Rat):=fun s hs=>by
  have:∀ j,j<=n->∃ N:Int,rS' (fun c=>(x s c:Rat)*cost s c) j*D=(N:Rat):=fun j=>by
   induction j with
   | zero=>exact fun _=>⟨0,by rw [rS',Rat.zero_mul];rfl⟩
   | succ j ih =>
    intro hj
    obtain ⟨N,hN⟩:=ih (by omega)
    obtain ⟨M,hM⟩:=hD s j hs (by omega)
    refine ⟨N+x s j*M,?_⟩
    rw [rS',Rat.intCast_add,Rat.intCast_mul,<- hN,<- hM]
    grind
  exact this n (Nat.le_refl _)
 have:∀ j,j<=S->∃ N:Int,rS' (fun s=>rS' (fun c=>(x s c:Rat)*cost s c) n) j*D=(N:Rat):=fun j=>by
  induction j with
  | zero=>exact fun _=>⟨0,by rw [rS',Rat.zero_mul];rfl⟩
  | succ j ih =>
   intro hj
   obtain ⟨N,hN⟩:=ih (by omega)
   obtain ⟨M,hM⟩:=one j (by omega)
   exact ⟨N+M,by rw [rS',Rat.intCast_add,<- hN,<- hM];grind⟩
 exact this S (Nat.le_refl _)
theorem mea_lt {S n:Nat}{cost:Nat->Nat->Rat}{D:Rat} (hDp:0 < D) (hD:∀ s c,s < S->c < n->∃ N:Int,cost s c*D=(N:Rat)) {K:Int}{x y:Nat->Nat->Int} (hy:-(K:Rat)<=costX S n cost y*D) (hlt:costX S n cost y < costX S n cost x):meaX S n cost D K y < meaX S n cost D K x:=by
 obtain ⟨N,hN⟩:=cost_iq hD x
 obtain ⟨M,hM⟩:=cost_iq hD y
 have h1:=Rat.mul_lt_mul_of_pos_right hlt hDp
 rw [hN,hM] at h1
 have h2:M < N:=by
  refine Int.not_le.1 fun h=>?_
  have:=Rat.intCast_le_intCast.2 h
  grind
 rw [hM] at hy
 have h3:-K<=M:=by
  refine Rat.intCast_le_intCast.1 ?_
  rw [Rat.intCast_neg];exact hy
 unfold meaX
 rw [hN,hM,Rat.num_intCast,Rat.num_intCast]
 omega
def cntX (L:List (Nat×Nat)) (s c:Nat):Int:=(L.count (s,c):Nat)
def sumG (g:Nat->Nat->Rat):List (Nat×Nat)->Rat
 | []=>0
 | y::L=>g y.1 y.2+sumG g L
theorem cntX_cons (y:Nat×Nat) (L:List (Nat×Nat)) (s c:Nat):cntX (y::L) s c=(if s=y.1 then (if c=y.2 then 1 else 0) else 0)+cntX L s c:=by
 unfold cntX
 rw [List.count_cons]
 obtain ⟨a,b⟩:=y
 by_cases h1:s=a
 ·by_cases h2:c=b
  ·subst h1;subst h2
   rw [if_pos rfl,if_pos rfl,if_pos (by simp)];omega
  ·rw [if_pos h1,if_neg h2,if_neg (by simp;intro _ e;exact h2 e.symm)];omega
 ·rw [if_neg h1,if_neg (by simp;intro e;exact absurd e.symm h1)];omega
theorem sum_cnt {S n:Nat} (g:Nat->Nat->Rat):∀ {L:List (Nat×Nat)},(∀ y∈L,y.1 < S/\y.2 < n)->sumG g L=costX S n g (cntX L)
 | [],_=>by
  unfold costX
  have:∀ s,rS' (fun c=>(cntX [] s c:Rat)*g s c) n=0:=fun s=>by
   rw [rT_congr (g:=fun _=>0) fun c _=>by show ((0:Int):Rat)*g s c=0;rw [show ((0:Int):Rat)=0 from rfl,Rat.zero_mul],rT_zero]
  rw [rT_congr (g:=fun _=>0) fun s _=>this s,rT_zero];rfl
 | y::L,h=>by
  obtain ⟨h1,h2⟩:=h y (List.mem_cons_self ..)
  have ih:=sum_cnt (S:=S) (n:=n) g (L:=L) fun z hz=>h z (List.mem_cons_of_mem _ hz)
  rw [sumG,ih]
  unfold costX
  have e:∀ s,s < S->rS' (fun c=>(cntX (y::L) s c:Rat)*g s c) n=rS' (fun c=>(cntX L s c:Rat)*g s c) n+if s=y.1 then g y.1 y.2 else 0:=fun s _=>by
   by_cases hs:s=y.1
   ·rw [if_pos hs]
    have e2:rS' (fun c=>(cntX (y::L) s c:Rat)*g s c) n=rS' (fun c=>(cntX L s c:Rat)*g s c+if c=y.2 then g y.1 y.2 else 0) n:=rT_congr fun c _=>by
     rw [cntX_cons,if_pos hs]
     by_cases hc:c=y.2
     ·rw [if_pos hc,if_pos hc,Rat.intCast_add,show ((1:Int):Rat)=1 from rfl,hs,hc];grind
     ·rw [if_neg hc,if_neg hc,Int.zero_add];grind
    rw [e2,rT_add,rS_one,if_pos h2]
   ·rw [if_neg hs,Rat.add_zero]
    refine rT_congr fun c _=>?_
    rw [cntX_cons,if_neg hs,Int.zero_add]
  rw [rT_congr e,rT_add,rS_one,if_pos h1]
  grind
theorem cnt_row {n:Nat} (s:Nat):∀ {L:List (Nat×Nat)},(∀ y∈L,y.2 < n)->iS (cntX L s) n=((L.map (·.1)).count s:Nat)
 | [],_=>by
  have:iS (cntX [] s) n=iS (fun _=>0) n:=rfl
  rw [this,iS_zero];rfl
 | y::L,h=>by
  have ih:=cnt_row (n:=n) s (L:=L) fun z hz=>h z (List.mem_cons_of_mem _ hz)
  have e:iS (cntX (y::L) s) n=iS (fun c=>(if c=y.2 then (if s=y.1 then 1 else 0) else 0)+cntX L s c) n:=iS_congr fun c _=>by
   rw [cntX_cons]
   split<;>split<;>rfl
  rw [e,iS_add,iS_one,if_pos (h y (List.mem_cons_self ..)),ih,List.map_cons,List.count_cons]
  by_cases hs:s=y.1
  ·rw [if_pos hs,if_pos (by simp [hs])];omega
  ·rw [if_neg hs,if_neg (by simp;exact fun e=>hs e.symm)];omega
theorem cnt_col {S:Nat} (c:Nat):∀ {L:List (Nat×Nat)},(∀ y∈L,y.1 < S)->iS (fun s=>cntX L s c) S=((L.map (·.2)).count c:Nat)
 | [],_=>by
  have:iS (fun s=>cntX [] s c) S=iS (fun _=>0) S:=rfl
  rw [this,iS_zero];rfl
 | y::L,h=>by
  have ih:=cnt_col (S:=S) c (L:=L) fun z hz=>h z (List.mem_cons_of_mem _ hz)
  have e:iS (fun s=>cntX (y::L) s c) S=iS (fun s=>(if s=y.1 then (if c=y.2 then 1 else 0) else 0)+cntX L s c) S:=iS_congr fun s _=>cntX_cons y L s c
  rw [e,iS_add,iS_one,if_pos (h y (List.mem_cons_self ..)),ih,List.map_cons,List.count_cons]
  by_cases hc:c=y.2
  ·rw [if_pos hc,if_pos (by simp [hc])];omega
  ·rw [if_neg hc,if_neg (by simp;exact fun e=>hc e.symm)];omega
theorem cnt_feas {S n:Nat}{row col:Nat->Int}{L:List (Nat×Nat)} (h:∀ y∈L,y.1 < S/\y.2 < n) (hr:∀ s,s < S->(((L.map (·.1)).count s:Nat):Int)=row s) (hc:∀ c,c < n->(((L.map (·.2)).count c:Nat):Int)=col c):Feas S n row col (cntX L) :=
 ⟨fun s c _ _=>by unfold cntX;omega,fun s hs=>(cnt_row s fun y hy=>(h y hy).2).trans (hr s hs),fun c hc'=>(cnt_col c fun y hy=>(h y hy).1).trans (hc c hc')⟩
def tlQ (q:Nat->List Nat) (c:Nat):Nat->List Nat:=fun d=>if d=c then (q c).tail else q d
def deal:List Nat->(Nat->List Nat)->List Nat
 | [],_=>[]
 | c::K,q=>(q c).headD 0::deal K (tlQ q c)
theorem deal_len:∀ (K:List Nat) (q:Nat->List Nat),(deal K q).length=K.length
 | [],_=>rfl
 | c::K,q=>by rw [deal,List.length_cons,List.length_cons,deal_len K]
theorem deal_cnt (s c:Nat):∀ (K:List Nat) (q:Nat->List Nat),(∀ d,K.count d<=(q d).length)->((deal K q).zip K).count (s,c)=((q c).take (K.count c)).count s
 | [],q,_=>by rw [List.count_nil,List.take_zero];rfl
 | d::K,q,h=>by
  have hd:=h d
  rw [List.count_cons_self] at hd
  obtain ⟨x,t,hq⟩:∃ x t,q d=x::t:=by
   cases e:q d with
   | nil=>rw [e] at hd;simp at hd
   | cons x t=>exact ⟨x,t,rfl⟩
  have ht:tlQ q d d=t:=by unfold tlQ;rw [if_pos rfl,hq];rfl
  have ho:∀ e,e≠d->tlQ q d e=q e:=fun e he=>by unfold tlQ;rw [if_neg he]
  have ih:=deal_cnt s c K (tlQ q d) fun e=>by
   by_cases he:e=d
   ·subst he
    rw [ht]
    rw [hq,List.length_cons] at hd
    omega
   ·rw [ho e he]
    have:=h e
    rw [List.count_cons_of_ne (Ne.symm he)] at this
    exact this
  rw [deal,List.zip_cons_cons,List.count_cons,ih,hq]
  show _+(if ((x,d) == (s,c))=true then 1 else 0)=_
  by_cases hc:c=d
  ·subst hc
   rw [ht,hq,List.count_cons_self,List.take_succ_cons,List.count_cons]
   congr 1
   by_cases hx:x=s
   ·rw [if_pos (by simp [hx]),if_pos (by simp [hx])]
   ·rw [if_neg (by simp [hx]),if_neg (by simp [hx])]
  ·rw [ho c hc,List.count_cons_of_ne (Ne.symm hc),if_neg (by simp;exact fun _ e=>hc e.symm),Nat.add_zero]
def colL (x:Nat->Nat->Int) (c:Nat):Nat->List Nat
 | 0=>[]
 | s+1=>colL x c s++List.replicate (x s c).toNat s
theorem colL_cnt (x:Nat->Nat->Int) (c s:Nat):∀ S,(colL x c S).count s=if s < S then (x s c).toNat else 0
 | 0=>by rw [if_neg (Nat.not_lt_zero _)];rfl
 | S+1=>by
  rw [colL,List.count_append,colL_cnt x c s S,List.count_replicate]
  by_cases e:S=s
  ·subst e
   rw [if_neg (Nat.lt_irrefl _),if_pos (by simp),if_pos (Nat.lt_succ_self _)];omega
  ·have hb:(S == s)=false:=by simp [e]
   rw [hb]
   by_cases h:s < S
   ·rw [if_pos h,if_neg Bool.false_ne_true,if_pos (by omega)];omega
   ·rw [if_neg h,if_neg Bool.false_ne_true,if_neg (by omega)]
theorem colL_len (x:Nat->Nat->Int) (c:Nat):∀ S,(∀ s,s < S->0<=x s c)->((colL x c S).length:Int)=iS (fun s=>x s c) S
 | 0,_=>rfl
 | S+1,h=>by
  have ih:=colL_len x c S fun s hs=>h s (by omega)
  have:=h S (by omega)
  rw [colL,List.length_append,List.length_replicate,iS]
  omega
theorem deal_x {S n:Nat}{row col:Nat->Int}{x:Nat->Nat->Int} (hx:Feas S n row col x) {K:List Nat} (hK:∀ c∈K,c < n) (hc:∀ c,c < n->((K.count c:Nat):Int)=col c):∀ s c,s < S->c < n->cntX ((deal K fun c=>colL x c S).zip K) s c=x s c:=fun s c hs hcn=>by
 have hl:∀ d,K.count d<=((fun c=>colL x c S) d).length:=fun d=>by
  by_cases hd:d < n
  ·have h1:=colL_len x d S fun s hs=>hx.nn s d hs hd
   have h2:=hc d hd
   rw [hx.col d hd] at h1
   show K.count d<=(colL x d S).length
   omega
  ·have:K.count d=0:=List.count_eq_zero.2 fun hm=>hd (hK d hm)
   omega
 have h1:=colL_len x c S fun s hs=>hx.nn s c hs hcn
 rw [hx.col c hcn] at h1
 have h2:=hc c hcn
 unfold cntX
 rw [deal_cnt s c K _ hl]
 show (((List.take (K.count c) (colL x c S)).count s:Nat):Int)=x s c
 rw [List.take_of_length_le (by omega),colL_cnt,if_pos hs]
 have:=hx.nn s c hs hcn
 omega
end Go.Proofs.YtjcecdmbfmccoaaGreatDoor
/-
 Plain: curves do not fall;of the stages of a gap one of both ends costs least;dual bounds.
-/
namespace Go.Proofs.YtjcecdmbfmccoaaGreatDoor
open Go.Num
structure RightF (l:List Pnt):Prop extends RightC l where
 nn:∀ k (h:k < l.length),0<=qR l[k].2
 mo:∀ k (h:k+1 < l.length),qR l[k].2<=qR l[k+1].2
theorem div_leG {a w x:Rat} (hw:0 < w):a / w<=x ↔ a<=x*w:=by
 have e:a / w*w=a:=Rat.div_mul_cancel (by grind)
 constructor
 ·intro h
  have:=Rat.mul_le_mul_of_nonneg_right h (Rat.le_of_lt hw)
  rwa [e] at this
 ·intro h
  refine Rat.not_lt.1 fun h2=>?_
  have:=Rat.mul_lt_mul_of_pos_right h2 hw
  rw [e] at this
  grind
theorem le_divG {a w x:Rat} (hw:0 < w):x<=a / w ↔ x*w<=a:=by
 have e:a / w*w=a:=Rat.div_mul_cancel (by grind)
 constructor
 ·intro h
  have:=Rat.mul_le_mul_of_nonneg_right h (Rat.le_of_lt hw)
  rwa [e] at this
 ·intro h
  refine Rat.not_lt.1 fun h2=>?_
  have:=Rat.mul_lt_mul_of_pos_right h2 hw
  rw [e] at this
  grind
theorem sgn_nn' {x:Rat} (h:¬ sgnR x < 0):0<=x:=by
 refine Rat.not_lt.1 fun hx=>h ?_
 unfold sgnR
 rw [if_neg (by grind),if_pos hx]
 decide
theorem qR_nn' {q:Q3} (h:¬ q.neg=true):0<=qR q:=by
 have h0:q.neg=false:=by cases e:q.neg<;>simp_all
 rw [qR]
 split
 ·split
  ·exact Rat.le_refl
  ·rw [ofF,h0,sg]
   simp only [Bool.false_eq_true,if_false]
   by_cases hd:vB q.den=0
   ·rw [hd,Rat.mkRat_zero];exact Rat.le_refl
   ·rw [Rat.mkRat_eq_div]
    rw [le_divG (by
     have:(0:Int) < (vB q.den:Nat):=by omega
     have h1:=Rat.intCast_le_intCast.2 (show (1:Int)<=((vB q.den:Nat):Int) by omega)
     have h2:((1:Int):Rat)=1:=rfl
     have h3:(((vB q.den:Nat):Int):Rat)=((vB q.den:Nat):Rat):=rfl
     grind),Rat.zero_mul]
    exact Rat.intCast_nonneg.2 (by omega)
 ·exact Rat.le_refl
theorem ptsErr_fl {prev:Option Pnt}:∀ {l:List Pnt},ptsErr prev l=0->(∀ p∈l,0<=qR p.2)/\(∀ q,prev=some q->∀ p,l[0]?=some p->qR q.2<=qR p.2)/\∀ k (h:k+1 < l.length),qR (l[k]'(by omega)).2<=qR l[k+1].2
 | [],_=>⟨by simp,by simp,by simp⟩
 | p::r,h=>by
  rw [ptsErr.eq_def] at h
  dsimp only at h
  split at h
  ·cases h
  split at h
  ·cases h
  rename_i c1 c2
  have c3:0<=qR p.2:=qR_nn' fun e=>c2 (.inr e)
  cases prev with
  | none =>
   obtain ⟨i1,i2,i3⟩:=ptsErr_fl (l:=r) h
   refine ⟨fun x hx=>?_,by simp,fun k hk=>?_⟩
   ·rcases List.mem_cons.1 hx with rfl|hx
    ·exact c3
    ·exact i1 x hx
   ·cases k with
    | zero=>exact i2 p rfl _ (List.getElem?_eq_getElem (by simpa using hk))
    | succ j=>exact i3 j (by simpa using hk)
  | some q =>
   dsimp only at h
   split at h
   ·cases h
   rename_i c4
   have c5:qR q.2<=qR p.2:=by
    have:=sgn_nn' fun e=>c4 (.inr e)
    grind
   obtain ⟨i1,i2,i3⟩:=ptsErr_fl (l:=r) h
   refine ⟨fun x hx=>?_,fun x hx y hy=>?_,fun k hk=>?_⟩
   ·rcases List.mem_cons.1 hx with rfl|hx
    ·exact c3
    ·exact i1 x hx
   ·cases hx;cases hy;exact c5
   ·cases k with
    | zero=>exact i2 p rfl _ (List.getElem?_eq_getElem (by simpa using hk))
    | succ j=>exact i3 j (by simpa using hk)
theorem rightF {l:List Pnt} (h:curveErr l=0):RightF l:=by
 have hr:=rightC h
 rw [curveErr] at h
 split at h
 ·cases h
 obtain ⟨h1,_,h3⟩:=ptsErr_fl h
 exact ⟨hr,fun k hk=>h1 _ (List.getElem_mem hk),h3⟩
theorem RightF.fle {l:List Pnt} (h:RightF l):∀ d i (hj:i+d < l.length),qR (l[i]'(by omega)).2<=qR l[i+d].2
 | 0,i,hj=>Rat.le_refl
 | d+1,i,hj=>by
  have h1:=h.fle d i (by omega)
  have h2:=h.mo (i+d) hj
  exact Rat.le_trans h1 h2
theorem btw {p q:Pnt} (h1:p.1 < q.1) (h2:qR p.2<=qR q.2) {s:Int} (hs:p.1<=s) (hs2:s<=q.1):qR p.2<=between p q s/\between p q s<=qR q.2:=by
 have hd:(0:Rat) < ((q.1-p.1:Int):Rat):=by
  have:=Rat.intCast_le_intCast.2 (show (1:Int)<=q.1-p.1 by omega)
  have h2:((1:Int):Rat)=1:=rfl
  grind
 have a1:(0:Rat)<=((s-p.1:Int):Rat) / ((q.1-p.1:Int):Rat):=by
  rw [le_divG hd,Rat.zero_mul]
  exact Rat.intCast_nonneg.2 (by omega)
 have a2:((s-p.1:Int):Rat) / ((q.1-p.1:Int):Rat)<=1:=by
  rw [div_leG hd,Rat.one_mul]
  exact Rat.intCast_le_intCast.2 (by omega)
 have a3:0<=qR q.2-qR p.2:=by grind
 unfold between
 generalize ((s-p.1:Int):Rat) / ((q.1-p.1:Int):Rat)=x at *
 have b1:=Rat.mul_nonneg a1 a3
 have b2:=Rat.mul_le_mul_of_nonneg_right a2 a3
 rw [Rat.one_mul] at b2
 constructor<;>grind
theorem btw_mono {p q:Pnt} (h1:p.1 < q.1) (h2:qR p.2<=qR q.2) {s t:Int} (hst:s<=t):between p q s<=between p q t:=by
 have hd:(0:Rat) < ((q.1-p.1:Int):Rat):=by
  have:=Rat.intCast_le_intCast.2 (show (1:Int)<=q.1-p.1 by omega)
  have h2:((1:Int):Rat)=1:=rfl
  grind
 have a3:0<=qR q.2-qR p.2:=by grind
 have a4:((s-p.1:Int):Rat) / ((q.1-p.1:Int):Rat)<=((t-p.1:Int):Rat) / ((q.1-p.1:Int):Rat):=by
  rw [div_leG hd,Rat.div_mul_cancel (by grind)]
  exact Rat.intCast_le_intCast.2 (by omega)
 have:=Rat.mul_le_mul_of_nonneg_right a4 a3
 unfold between
 grind
theorem at_le' {l:List Pnt} (h:RightF l) {s:Int}:∀ (i:Nat) (hi:i < l.length),nx l s=i->curveAt l s<=qR l[i].2
 | 0,hi,e=>by
  rw [curveAt,e];exact h.nn _ _
 | n+1,hi,e=>by
  have hn:n < l.length:=by omega
  have g1:=nx_lt (l:=l) (s:=s) (i:=n) (by omega)
  have g2:=nx_at (l:=l) (s:=s) (by omega)
  simp only [e] at g2
  rw [curveAt,e]
  dsimp only
  rw [List.getElem?_eq_getElem hn,List.getElem?_eq_getElem hi]
  exact (btw (h.lt n hi) (h.mo n hi) g1 (Int.le_of_lt g2)).2
theorem at_le {l:List Pnt} (h:RightF l) {s:Int} (hn:nx l s < l.length):curveAt l s<=qR (l[nx l s]'hn).2:=at_le' h _ hn rfl
theorem at_ge {l:List Pnt} (h:RightF l) {s:Int}{n:Nat} (e:nx l s=n+1) (hn:n < l.length):qR l[n].2<=curveAt l s:=by
 rw [curveAt,e]
 dsimp only
 rw [List.getElem?_eq_getElem hn]
 dsimp only
 by_cases hn':n+1 < l.length
 ·rw [List.getElem?_eq_getElem hn']
  dsimp only
  have g1:=nx_lt (l:=l) (s:=s) (i:=n) (by omega)
  have g2:=nx_at (l:=l) (s:=s) (by omega)
  simp only [e] at g2
  exact (btw (h.lt n hn') (h.mo n hn') g1 (Int.le_of_lt g2)).1
 ·rw [List.getElem?_eq_none (by omega)]
  exact Rat.le_refl
theorem nx_mono {l:List Pnt} (h:RightF l) {s t:Int} (hst:s<=t):nx l s<=nx l t:=by
 refine Nat.not_lt.1 fun hlt=>?_
 have hl:=nx_le l s
 have h1:=nx_lt (l:=l) (s:=s) (i:=nx l t) hlt
 have h2:=nx_at (l:=l) (s:=t) (by omega)
 omega
theorem curve_mono {l:List Pnt} (h:RightF l) {s t:Int} (hst:s<=t):curveAt l s<=curveAt l t:=by
 have hm:=nx_mono h hst
 have hl:=nx_le l t
 by_cases e:nx l s=nx l t
 ·rw [curveAt,curveAt,e]
  cases e2:nx l t with
  | zero=>exact Rat.le_refl
  | succ n =>
   dsimp only
   rw [List.getElem?_eq_getElem (show n < l.length by omega)]
   dsimp only
   by_cases hn':n+1 < l.length
   ·rw [List.getElem?_eq_getElem hn']
    exact btw_mono (h.lt n hn') (h.mo n hn') hst
   ·rw [List.getElem?_eq_none (by omega)]
    exact Rat.le_refl
 ·obtain ⟨d,hd⟩:∃ d,nx l t=nx l s+d+1:=⟨nx l t-nx l s-1,by omega⟩
  have h1:=at_le h (s:=s) (by omega)
  have h2:=h.fle d (nx l s) (by omega)
  have h3:=at_ge h hd (by omega)
  exact Rat.le_trans h1 (Rat.le_trans h2 h3)
theorem rate_ends {s:Spn} (h:RightS s) {lo hi t:Int} (h1:lo<=t) (h2:t<=hi):(rateOf s lo<=rateOf s t/\rateOf s t<=rateOf s hi)∨(rateOf s hi<=rateOf s t/\rateOf s t<=rateOf s lo):=by
 have hF:=rightF h.2.2
 have c:∀ x,curveFlow s.pts x=curveAt s.pts x:=fun x=>by rw [curveFlow,if_pos h.2.2]
 have m1:=curve_mono hF (show lo+s.dat<=t+s.dat by omega)
 have m2:=curve_mono hF (show t+s.dat<=hi+s.dat by omega)
 unfold rateOf
 rw [c,c,c]
 by_cases hw:0<=qR s.wt
 ·exact .inl ⟨Rat.mul_le_mul_of_nonneg_left m1 hw,Rat.mul_le_mul_of_nonneg_left m2 hw⟩
 ·have hw':0<=-qR s.wt:=by grind
  have a1:=Rat.mul_le_mul_of_nonneg_left m1 hw'
  have a2:=Rat.mul_le_mul_of_nonneg_left m2 hw'
  right
  constructor<;>grind
def dualV (S n:Nat) (row col:Nat->Int) (u v:Nat->Rat):Rat:=rS' (fun s=>(row s:Rat)*u s) S+rS' (fun c=>(col c:Rat)*v c) n
theorem dual_eq {S n:Nat}{row col:Nat->Int}{x:Nat->Nat->Int} (hx:Feas S n row col x) (u v:Nat->Rat):dualV S n row col u v=costX S n (fun s c=>u s+v c) x:=by
 have e1:∀ s,s < S->rS' (fun c=>(x s c:Rat)*(u s+v c)) n=(row s:Rat)*u s+rS' (fun c=>(x s c:Rat)*v c) n:=fun s hs=>by
  rw [<- hx.row s hs,<- rS_cast,Rat.mul_comm,<- rT_mul,<- rT_add]
  exact rT_congr fun c _=>by grind
 unfold costX dualV
 rw [rT_congr e1,rT_add,rS_swap]
 congr 1
 refine rT_congr fun c hc=>?_
 rw [<- hx.col c hc,<- rS_cast,Rat.mul_comm,<- rT_mul]
 exact rT_congr fun s _=>Rat.mul_comm _ _
theorem dual_tight {S n:Nat}{row col:Nat->Int}{g:Nat->Nat->Rat}{x:Nat->Nat->Int} (hx:Feas S n row col x) {u v:Nat->Rat} (h:∀ s c,s < S->c < n->0 < x s c->u s+v c=g s c):dualV S n row col u v=costX S n g x:=by
 rw [dual_eq hx]
 refine rT_congr fun s hs=>rT_congr fun c hc=>?_
 by_cases h0:0 < x s c
 ·show (x s c:Rat)*(u s+v c)=_
  rw [h s c hs hc h0]
 ·have:x s c=0:=by have:=hx.nn s c hs hc;omega
  rw [this];show (0:Rat)*_=(0:Rat)*_;rw [Rat.zero_mul,Rat.zero_mul]
end Go.Proofs.YtjcecdmbfmccoaaGreatDoor
/-
 Plain: potentials that are lowered one by one come to an end,and prove the least cost.
-/
namespace Go.Proofs.YtjcecdmbfmccoaaGreatDoor
structure PotInv (n:Nat) (th:Nat->Nat->Prop) (g:Nat->Nat->Rat) (D:Rat) (K:Int) (pi v:Nat->Rat):Prop where
 pot:∀ a b s,a < n->b < n->th a s->pi b<=pi a+(g s b-g s a)
 low:∀ b,b < n->(K:Rat)<=pi b*D
 ge:∀ b,b < n->pi b<=v b
 iq:∀ b,b < n->∃ N:Int,v b*D=(N:Rat)
def potM (n:Nat) (D:Rat) (K:Int) (v:Nat->Rat):Nat:=(iS (fun b=>((v b*D).num-K)) n).toNat
def putV (v:Nat->Rat) (b:Nat) (x:Rat):Nat->Rat:=fun c=>if c=b then x else v c
section
variable {n:Nat}{th:Nat->Nat->Prop}{g:Nat->Nat->Rat}{D:Rat}{K:Int}{pi v:Nat->Rat}
theorem PotInv.num (h:PotInv n th g D K pi v) (hD:0 < D) {b:Nat} (hb:b < n):K<=(v b*D).num:=by
 obtain ⟨N,hN⟩:=h.iq b hb
 have h1:=Rat.mul_le_mul_of_nonneg_right (h.ge b hb) (Rat.le_of_lt hD)
 have h2:=h.low b hb
 rw [hN,Rat.num_intCast]
 refine Rat.intCast_le_intCast.1 ?_
 rw [<- hN]
 exact Rat.le_trans h2 h1
theorem iS_lt {f f':Nat->Int}:∀ {n b:Nat},b < n->(∀ c,c < n->f' c<=f c)->f' b < f b->iS f' n < iS f n
 | 0,b,hb,_,_=>absurd hb (Nat.not_lt_zero _)
 | n+1,b,hb,hle,hlt=>by
  rw [iS,iS]
  by_cases e:b=n
  ·subst e
   have:iS f' b<=iS f b:=by
    have hh:∀ m,m<=b->iS f' m<=iS f m:=fun m=>by
     induction m with
     | zero=>exact fun _=>Int.le_refl _
     | succ m ih =>
      intro hm
      have:=ih (by omega)
      have:=hle m (by omega)
      rw [iS,iS];omega
    exact hh b (Nat.le_refl _)
   omega
  ·have:=iS_lt (n:=n) (b:=b) (by omega) (fun c hc=>hle c (by omega)) hlt
   have:=hle n (by omega)
   omega
theorem PotInv.step (h:PotInv n th g D K pi v) (hD:0 < D) (hg:∀ s c,c < n->(∃ a,a < n/\th a s)->∃ N:Int,g s c*D=(N:Rat)) {a b s:Nat} (ha:a < n) (hb:b < n) (hs:th a s) (hlt:v a+(g s b-g s a) < v b) :
  PotInv n th g D K pi (putV v b (v a+(g s b-g s a)))/\potM n D K (putV v b (v a+(g s b-g s a))) < potM n D K v:=by
 obtain ⟨Na,hNa⟩:=h.iq a ha
 obtain ⟨N1,hN1⟩:=hg s b hb ⟨a,ha,hs⟩
 obtain ⟨N2,hN2⟩:=hg s a ha ⟨a,ha,hs⟩
 have hx:(v a+(g s b-g s a))*D=((Na+(N1-N2):Int):Rat):=by
  rw [Rat.intCast_add,Rat.intCast_sub,<- hNa,<- hN1,<- hN2];grind
 have hI:PotInv n th g D K pi (putV v b (v a+(g s b-g s a))):=by
  refine ⟨h.pot,h.low,fun c hc=>?_,fun c hc=>?_⟩
  ·unfold putV
   split
   ·rename_i e
    subst e
    have:=h.pot a c s ha hc hs
    have:=h.ge a ha
    grind
   ·exact h.ge c hc
  ·unfold putV
   split
   ·exact ⟨_,hx⟩
   ·exact h.iq c hc
 refine ⟨hI,?_⟩
 have hnn:0<=iS (fun c=>((putV v b (v a+(g s b-g s a)) c*D).num-K)) n:=iS_nn fun c hc=>by
  have:=hI.num hD hc
  omega
 have hl:iS (fun c=>((putV v b (v a+(g s b-g s a)) c*D).num-K)) n < iS (fun c=>((v c*D).num-K)) n:=by
  have hlow:((v a+(g s b-g s a))*D).num < (v b*D).num:=by
   obtain ⟨Nb,hNb⟩:=h.iq b hb
   have h1:=Rat.mul_lt_mul_of_pos_right hlt hD
   rw [hx,hNb] at h1 ⊢
   rw [Rat.num_intCast,Rat.num_intCast]
   refine Int.not_le.1 fun q=>?_
   have:=Rat.intCast_le_intCast.2 q
   grind
  refine iS_lt hb (fun c _=>?_) ?_
  ·unfold putV
   split
   ·rename_i e;subst e;omega
   ·exact Int.le_refl _
  ·unfold putV
   rw [if_pos rfl];omega
 unfold potM
 omega
end
def leastU (g:Nat->Nat->Rat) (v:Nat->Rat) (s:Nat):Nat->Rat
 | 0=>g s 0-v 0
 | c+1=>if g s c-v c < leastU g v s c then g s c-v c else leastU g v s c
theorem leastU_ok (g:Nat->Nat->Rat) (v:Nat->Rat) (s:Nat):∀ n,(∀ c,c < n->leastU g v s n<=g s c-v c)/\(0 < n->∃ c,c < n/\leastU g v s n=g s c-v c)/\leastU g v s n<=g s 0-v 0
 | 0=>⟨fun c hc=>absurd hc (Nat.not_lt_zero _),fun h=>absurd h (Nat.lt_irrefl _),Rat.le_refl⟩
 | n+1=>by
  obtain ⟨h1,h2,h3⟩:=leastU_ok g v s n
  rw [leastU]
  by_cases hc:g s n-v n < leastU g v s n
  ·rw [if_pos hc]
   refine ⟨fun c hc'=>?_,fun _=>⟨n,Nat.lt_succ_self _,rfl⟩,by grind⟩
   by_cases e:c=n
   ·subst e;exact Rat.le_refl
   ·have:=h1 c (by omega)
    grind
  ·rw [if_neg hc]
   refine ⟨fun c hc'=>?_,fun _=>?_,h3⟩
   ·by_cases e:c=n
    ·subst e;grind
    ·exact h1 c (by omega)
   ·by_cases h0:0 < n
    ·obtain ⟨c,q1,q2⟩:=h2 h0
     exact ⟨c,by omega,q2⟩
    ·have hn:n=0:=by omega
     subst hn
     exact ⟨0,by omega,rfl⟩
theorem pot_proof {S n:Nat}{row col:Nat->Int}{g:Nat->Nat->Rat}{x:Nat->Nat->Int} (hx:Feas S n row col x) (hn:0 < n) {v:Nat->Rat} (hv:∀ s a b,s < S->a < n->b < n->0 < x s a->v b<=v a+(g s b-g s a)) :
  (∀ s c,s < S->c < n->leastU g v s n+v c<=g s c)/\dualV S n row col (fun s=>leastU g v s n) v=costX S n g x:=by
 refine ⟨fun s c _ hc=>by have:=(leastU_ok g v s n).1 c hc;grind,dual_tight hx fun s c hs hc h0=>?_⟩
 obtain ⟨d,hd,e⟩:=(leastU_ok g v s n).2.1 hn
 have h1:=(leastU_ok g v s n).1 c hc
 have h2:=hv s c d hs hc hd h0
 show leastU g v s n+v c=g s c
 grind
end Go.Proofs.YtjcecdmbfmccoaaGreatDoor
/-
 Plain: the classes of a run,how many ticks are in which,and the class of a tick.
-/
namespace Go.Proofs.YtjcecdmbfmccoaaGreatDoor
open Go.RowKit Go.Sl Go.Num
def ovC (r:Rn) (s:Spn):Int:=min r.to_ s.to_-max r.from_ s.from_
def clsP (r:Rn) (l:List Spn):Nat->List (Int×Int)
 | 0=>[]
 | k+1=>clsP r l k++match l[k]? with
  | none=>[]
  | some s=>if 0 < ovC r s then [((k:Int),ovC r s)] else []
def sumC:List (Int×Int)->Int
 | []=>0
 | x::l=>x.2+sumC l
def restC (r:Rn) (l:List Spn):Int:=r.to_-r.from_-sumC (clsP r l l.length)
def clsE (r:Rn) (l:List Spn):List (Int×Int):=clsP r l l.length++if 0 < restC r l then [(-1,restC r l)] else []
theorem sumC_app:∀ a b:List (Int×Int),sumC (a++b)=sumC a+sumC b
 | [],b=>by rw [List.nil_append,sumC,Int.zero_add]
 | x::a,b=>by rw [List.cons_append,sumC,sumC,sumC_app a b,Int.add_assoc]
theorem cls_mem {r:Rn}{l:List Spn}{x:Int×Int}:∀ {k},x∈clsP r l k ↔ ∃ (i:Nat) (s:Spn),i < k/\l[i]?=some s/\0 < ovC r s/\x=((i:Int),ovC r s)
 | 0=>by simp [clsP]
 | k+1=>by
  rw [clsP,List.mem_append,cls_mem (k:=k)]
  constructor
  ·rintro (⟨i,s,h1,h2⟩|h)
   ·exact ⟨i,s,by omega,h2⟩
   ·cases hk:l[k]? with
    | none=>rw [hk] at h;cases h
    | some s =>
     rw [hk] at h
     dsimp only at h
     split at h
     ·rename_i h1
      exact ⟨k,s,by omega,hk,h1,by simpa using h⟩
     ·cases h
  ·rintro ⟨i,s,h1,h2,h3,rfl⟩
   by_cases e:i=k
   ·subst e
    refine .inr ?_
    rw [h2]
    dsimp only
    rw [if_pos h3];exact List.mem_singleton.2 rfl
   ·exact .inl ⟨i,s,by omega,h2,h3,rfl⟩
theorem cls_pw (r:Rn) (l:List Spn):∀ k,(clsP r l k).Pairwise fun x y=>x.1 < y.1
 | 0=>List.Pairwise.nil
 | k+1=>by
  rw [clsP,List.pairwise_append]
  refine ⟨cls_pw r l k,?_,fun x hx y hy=>?_⟩
  ·split
   ·exact List.Pairwise.nil
   ·split
    ·exact List.pairwise_singleton _ _
    ·exact List.Pairwise.nil
  ·obtain ⟨i,s,h1,_,_,rfl⟩:=cls_mem.1 hx
   split at hy
   ·cases hy
   ·split at hy
    ·rw [List.mem_singleton.1 hy];dsimp only;omega
    ·cases hy
theorem clsE_mem {r:Rn}{l:List Spn}{x:Int×Int}:x∈clsE r l ↔ (∃ (i:Nat) (s:Spn),l[i]?=some s/\0 < ovC r s/\x=((i:Int),ovC r s))∨(0 < restC r l/\x=(-1,restC r l)):=by
 rw [clsE,List.mem_append,cls_mem]
 refine or_congr ⟨fun ⟨i,s,_,h⟩=>⟨i,s,h⟩,fun ⟨i,s,h⟩=>⟨i,s,(List.getElem?_eq_some_iff.1 h.1).1,h⟩⟩ ?_
 split
 ·rename_i h;simp [h]
 ·rename_i h;simp [h]
theorem clsE_nd (r:Rn) (l:List Spn):(clsE r l).Pairwise fun x y=>x.1≠y.1:=by
 rw [clsE,List.pairwise_append]
 refine ⟨(cls_pw r l _).imp fun h=>by omega,?_,fun x hx y hy=>?_⟩
 ·split
  ·exact List.pairwise_singleton _ _
  ·exact List.Pairwise.nil
 ·obtain ⟨i,s,h1,_,_,rfl⟩:=cls_mem.1 hx
  split at hy
  ·rw [List.mem_singleton.1 hy];dsimp only;omega
  ·cases hy
theorem clsE_pos {r:Rn}{l:List Spn}:∀ x∈clsE r l,0 < x.2:=fun x hx=>by
 rcases clsE_mem.1 hx with ⟨i,s,_,h,rfl⟩|⟨h,rfl⟩
 ·exact h
 ·exact h
def nP (P:Int->Bool):Int->Nat->Int
 | _,0=>0
 | f,N+1=>(if P f=true then 1 else 0)+nP P (f+1) N
def kF (ix:Int->Nat):Int->Nat->List Nat
 | _,0=>[]
 | f,N+1=>ix f::kF ix (f+1) N
theorem kF_len (ix:Int->Nat):∀ (N:Nat) (f:Int),(kF ix f N).length=N
 | 0,_=>rfl
 | N+1,f=>by rw [kF,List.length_cons,kF_len ix N]
theorem kF_get (ix:Int->Nat):∀ {N:Nat}{f:Int}{j:Nat},j < N->(kF ix f N)[j]?=some (ix (f+j))
 | 0,_,j,h=>absurd h (Nat.not_lt_zero _)
 | N+1,f,0,_=>by rw [kF];simp
 | N+1,f,j+1,h=>by rw [kF,List.getElem?_cons_succ,kF_get ix (by omega)];congr 2;omega
theorem kF_mem {ix:Int->Nat}{c:Nat}:∀ {N:Nat}{f:Int},c∈kF ix f N->∃ t,f<=t/\t < f+N/\c=ix t
 | 0,_,h=>by cases h
 | N+1,f,h=>by
  rcases List.mem_cons.1 h with rfl|h
  ·exact ⟨f,Int.le_refl _,by omega,rfl⟩
  ·obtain ⟨t,h1,h2,h3⟩:=kF_mem h
   exact ⟨t,by omega,by omega,h3⟩
theorem kF_cnt {ix:Int->Nat}{P:Int->Bool}{c:Nat}:∀ {N:Nat}{f:Int},(∀ t,f<=t->t < f+N->(ix t=c ↔ P t=true))->(((kF ix f N).count c:Nat):Int)=nP P f N
 | 0,_,_=>rfl
 | N+1,f,h=>by
  rw [kF,List.count_cons,nP,<- kF_cnt (ix:=ix) (c:=c) fun t h1 h2=>h t (by omega) (by omega)]
  have:=h f (Int.le_refl _) (by omega)
  by_cases e:ix f=c
  ·rw [if_pos (by simpa using e),if_pos (this.1 e)];omega
  ·rw [if_neg (by simpa using e),if_neg fun h=>e (this.2 h)];omega
theorem nP_in {s:Spn} (hs:s.from_ < s.to_):∀ (N:Nat) (f:Int),nP (fun t=>inS t s) f N=max 0 (min (f+N) s.to_-max f s.from_)
 | 0,f=>by rw [nP];omega
 | N+1,f=>by
  rw [nP,nP_in hs N (f+1)]
  simp only [inS,Bool.and_eq_true,decide_eq_true_eq]
  split<;>omega
theorem nP_nn (P:Int->Bool):∀ (N:Nat) (f:Int),0<=nP P f N
 | 0,_=>Int.le_refl _
 | N+1,f=>by
  have:=nP_nn P N (f+1)
  rw [nP];split<;>omega
theorem nP_pos {P:Int->Bool}{t:Int} (ht:P t=true):∀ {N:Nat}{f:Int},f<=t->t < f+N->0 < nP P f N
 | 0,f,h1,h2=>by omega
 | N+1,f,h1,h2=>by
  have:=nP_nn P N (f+1)
  rw [nP]
  by_cases e:f=t
  ·rw [e,if_pos ht];rw [e] at this;omega
  ·have:=nP_pos ht (N:=N) (f:=f+1) (by omega) (by omega)
   split<;>omega
theorem nP_congr {P Q:Int->Bool} (h:∀ t,P t=Q t):∀ (N:Nat) (f:Int),nP P f N=nP Q f N
 | 0,_=>rfl
 | N+1,f=>by rw [nP,nP,h,nP_congr h N]
theorem nP_all (ix:Int->Nat) (m:Nat) (h:∀ t,ix t<=m):∀ (N:Nat) (f:Int),iS (fun i=>nP (fun t=>decide (ix t=i)) f N) m+nP (fun t=>decide (ix t=m)) f N=N
 | 0,f=>by
  have:iS (fun i=>nP (fun t=>decide (ix t=i)) f 0) m=iS (fun _=>0) m:=rfl
  rw [this,iS_zero,nP];rfl
 | N+1,f=>by
  have ih:=nP_all ix m h N (f+1)
  have e:iS (fun i=>nP (fun t=>decide (ix t=i)) f (N+1)) m=iS (fun i=>(if i=ix f then 1 else 0)+nP (fun t=>decide (ix t=i)) (f+1) N) m:=iS_congr fun i _=>by
   rw [nP]
   by_cases e:ix f=i
   ·rw [if_pos (by simpa using e),if_pos e.symm]
   ·rw [if_neg (by simpa using e),if_neg fun h=>e h.symm]
  rw [e,iS_add,iS_one,nP]
  have:=h f
  by_cases e:ix f=m
  ·rw [if_neg (by omega),if_pos (by simpa using e)];omega
  ·rw [if_pos (by omega),if_neg (by simpa using e)];omega
theorem InOrd.at {l:List Spn}{t:Int}:∀ {x:Int} (_:InOrd x l) {i:Nat} (hi:i < l.length),spanAt l t=i ↔ inS t l[i]=true:=by
 induction l with
 | nil=>intro x h i hi;exact absurd hi (Nat.not_lt_zero _)
 | cons s r ih =>
  intro x h i hi
  have e:spanAt (s::r) t=if inS t s=true then 0 else spanAt r t+1:=by
   unfold spanAt;rw [List.findIdx_cons];cases inS t s<;>rfl
  rw [e]
  cases i with
  | zero =>
   rw [List.getElem_cons_zero]
   split
   ·rename_i h1;exact ⟨fun _=>h1,fun _=>rfl⟩
   ·rename_i h1;exact ⟨fun h=>absurd h (by omega),fun h=>absurd h h1⟩
  | succ i =>
   rw [List.getElem_cons_succ,<- ih h.2.2 (by simpa using hi)]
   split
   ·rename_i h1
    have h1:s.from_<=t/\t < s.to_:=by simpa [inS] using h1
    have h2:=h.2.2.none h1.2
    have:i < r.length:=by simpa using hi
    omega
   ·omega
theorem InOrd.lt {l:List Spn}:∀ {x:Int} (_:InOrd x l) {i:Nat} (hi:i < l.length),l[i].from_ < l[i].to_:=by
 induction l with
 | nil=>intro x h i hi;exact absurd hi (Nat.not_lt_zero _)
 | cons s r ih =>
  intro x h i hi
  cases i with
  | zero=>exact h.2.1
  | succ i=>exact ih h.2.2 (by simpa using hi)
section
variable {r:Rn}{l:List Spn}{x:Int}
theorem sum_cls (hl:InOrd x l) (hr:r.from_ < r.to_):∀ k,k<=l.length->sumC (clsP r l k)=iS (fun i=>nP (fun t=>decide (spanAt l t=i)) r.from_ (r.to_-r.from_).toNat) k
 | 0,_=>rfl
 | k+1,hk=>by
  have hk':k < l.length:=by omega
  rw [clsP,sumC_app,sum_cls hl hr k (by omega),iS,List.getElem?_eq_getElem hk']
  congr 1
  have e:∀ t,decide (spanAt l t=k)=inS t l[k]:=fun t=>by
   rw [Bool.eq_iff_iff,decide_eq_true_eq];exact hl.at hk'
  rw [nP_congr e,nP_in (hl.lt hk')]
  dsimp only
  have e2:ovC r l[k]=min (r.from_+((r.to_-r.from_).toNat:Int)) l[k].to_-max r.from_ l[k].from_:=by unfold ovC;omega
  split
  ·rw [sumC,sumC];omega
  ·rw [sumC];omega
theorem rest_cls (hl:InOrd x l) (hr:r.from_ < r.to_):restC r l=nP (fun t=>decide (spanAt l t=l.length)) r.from_ (r.to_-r.from_).toNat:=by
 have h1:=sum_cls hl hr l.length (Nat.le_refl _)
 have h2:=nP_all (spanAt l) l.length (spanAt_le l) (r.to_-r.from_).toNat r.from_
 unfold restC
 rw [h1];omega
def clsIx (r:Rn) (l:List Spn) (t:Int):Nat:=(clsE r l).findIdx fun c=>decide (c.1=placeI l t)
def clsAt (r:Rn) (l:List Spn) (c:Nat):Int:=((clsE r l).getD c (-1,0)).1
def clsT (r:Rn) (l:List Spn) (c:Nat):Int:=((clsE r l).getD c (-1,0)).2
theorem cls_ix (hl:InOrd x l) (hr:r.from_ < r.to_) {t:Int} (h1:r.from_<=t) (h2:t < r.to_):clsIx r l t < (clsE r l).length/\clsAt r l (clsIx r l t)=placeI l t:=by
 have key:∃ c∈clsE r l,c.1=placeI l t:=by
  unfold placeI
  split
  ·rename_i hs
   have h3:=spanAt_at hs
   refine ⟨_,clsE_mem.2 (.inl ⟨spanAt l t,l[spanAt l t],List.getElem?_eq_getElem hs,?_,rfl⟩),rfl⟩
   simp only [inS,Bool.and_eq_true,decide_eq_true_eq] at h3
   unfold ovC;omega
  ·rename_i hs
   refine ⟨_,clsE_mem.2 (.inr ⟨?_,rfl⟩),rfl⟩
   rw [rest_cls hl hr]
   exact nP_pos (t:=t) (by have:=spanAt_le l t;simp;omega) h1 (by omega)
 obtain ⟨c,hc,e⟩:=key
 have hlt:clsIx r l t < (clsE r l).length:=List.findIdx_lt_length_of_exists ⟨c,hc,by simpa using e⟩
 refine ⟨hlt,?_⟩
 have h3:decide ((clsE r l)[clsIx r l t].1=placeI l t)=true:=List.findIdx_getElem (w:=hlt)
 unfold clsAt
 rw [List.getD_eq_getElem?_getD,List.getElem?_eq_getElem hlt,Option.getD_some]
 exact of_decide_eq_true h3
theorem cls_inj {a b:Nat} (ha:a < (clsE r l).length) (hb:b < (clsE r l).length) (h:clsAt r l a=clsAt r l b):a=b:=by
 have hp:=List.pairwise_iff_getElem.1 (clsE_nd r l)
 simp only [clsAt,List.getD_eq_getElem?_getD,List.getElem?_eq_getElem ha,List.getElem?_eq_getElem hb,Option.getD_some] at h
 rcases Nat.lt_trichotomy a b with h1|h1|h1
 ·exact absurd h (hp a b ha hb h1)
 ·exact h1
 ·exact absurd h.symm (hp b a hb ha h1)
def kL (r:Rn) (l:List Spn):List Nat:=kF (clsIx r l) r.from_ (r.to_-r.from_).toNat
theorem kL_lt (hl:InOrd x l) (hr:r.from_ < r.to_):∀ c∈kL r l,c < (clsE r l).length:=fun c hc=>by
 obtain ⟨t,h1,h2,rfl⟩:=kF_mem hc
 exact (cls_ix hl hr h1 (by omega)).1
theorem kL_cnt (hl:InOrd x l) (hr:r.from_ < r.to_) {c:Nat} (hc:c < (clsE r l).length):(((kL r l).count c:Nat):Int)=clsT r l c:=by
 have h0:∀ t,r.from_<=t->t < r.from_+((r.to_-r.from_).toNat:Int)->(clsIx r l t=c ↔ decide (placeI l t=clsAt r l c)=true):=fun t h1 h2=>by
  have:=cls_ix hl hr h1 (t:=t) (by omega)
  rw [decide_eq_true_eq,<- this.2]
  exact ⟨fun e=>by rw [e],fun e=>cls_inj this.1 hc e⟩
 rw [kL,kF_cnt h0]
 have hm:=List.getElem_mem hc
 have e1:clsAt r l c=(clsE r l)[c].1:=by rw [clsAt,List.getD_eq_getElem?_getD,List.getElem?_eq_getElem hc,Option.getD_some]
 have e2:clsT r l c=(clsE r l)[c].2:=by rw [clsT,List.getD_eq_getElem?_getD,List.getElem?_eq_getElem hc,Option.getD_some]
 rcases clsE_mem.1 hm with ⟨i,s,h1,h2,h3⟩|⟨h1,h3⟩
 ·obtain ⟨hi,rfl⟩:=List.getElem?_eq_some_iff.1 h1
  rw [e2,h3,e1,h3]
  have e:∀ t,decide (placeI l t=((i:Int),ovC r l[i]).1)=inS t l[i]:=fun t=>by
   rw [Bool.eq_iff_iff,decide_eq_true_eq,<- hl.at hi]
   unfold placeI
   have:=spanAt_le l t
   dsimp only
   split<;>omega
  rw [nP_congr e,nP_in (hl.lt hi)]
  unfold ovC at h2 ⊢
  dsimp only
  omega
 ·rw [e2,h3,e1,h3]
  have e:∀ t,decide (placeI l t=((-1:Int),restC r l).1)=decide (spanAt l t=l.length):=fun t=>by
   rw [Bool.eq_iff_iff,decide_eq_true_eq,decide_eq_true_eq]
   unfold placeI
   have:=spanAt_le l t
   dsimp only
   split<;>omega
  rw [nP_congr e,rest_cls hl hr]
theorem clsE_len (hl:InOrd x l) (hr:r.from_ < r.to_):0 < (clsE r l).length:=by
 have:=(cls_ix hl hr (Int.le_refl _) hr).1
 omega
theorem clsE_sum (hl:InOrd x l) (hr:r.from_ < r.to_):sumC (clsE r l)=r.to_-r.from_:=by
 have h:=rest_cls hl hr
 have h2:=nP_nn (fun t=>decide (spanAt l t=l.length)) (r.to_-r.from_).toNat r.from_
 rw [clsE,sumC_app]
 by_cases e:0 < restC r l
 ·rw [if_pos e,sumC,sumC];unfold restC at *;omega
 ·rw [if_neg e,sumC];unfold restC at *;omega
theorem clsP_len (r:Rn) (l:List Spn):∀ k,(clsP r l k).length<=k
 | 0=>Nat.le_refl _
 | k+1=>by
  have:=clsP_len r l k
  rw [clsP,List.length_append]
  split
  ·simp;omega
  ·split<;>simp<;>omega
theorem clsE_le (r:Rn) (l:List Spn):(clsE r l).length<=l.length+1:=by
 have:=clsP_len r l l.length
 rw [clsE,List.length_append]
 split<;>simp<;>omega
end
def clsG (l:List Spn) (p st:Int):Rat:=if p < 0 then 0 else match l[p.toNat]? with
 | none=>0
 | some s=>rateOf s st
theorem worth_cls (l:List Spn) (t st:Int):worthOf l t st=clsG l (placeI l t) st:=by
 unfold worthOf clsG placeI
 by_cases h:spanAt l t < l.length
 ·rw [if_pos h,if_neg (by omega),Int.toNat_natCast,List.getElem?_eq_getElem h]
 ·rw [if_neg h,if_pos (by omega),List.getElem?_eq_none (by omega)]
def sgR (t:Bool) (x:Rat):Rat:=if t=true then -x else x
theorem sgR_add (t:Bool) (x y:Rat):sgR t (x+y)=sgR t x+sgR t y:=by
 cases t
 ·rfl
 ·show -(x+y)=-x+-y;grind
theorem sgR_sub (t:Bool) (x y:Rat):sgR t (x-y)=sgR t x-sgR t y:=by
 cases t
 ·rfl
 ·show -(x-y)=-x - -y;grind
theorem sgR_mul (t:Bool) (c x:Rat):sgR t (c*x)=c*sgR t x:=by
 cases t
 ·rfl
 ·show -(c*x)=c*-x;grind
theorem sgR_zero (t:Bool):sgR t 0=0:=by cases t<;>rfl
theorem sgR_sg (t:Bool) (x:Rat):sgR t (sgR t x)=x:=by
 cases t
 ·rfl
 ·show - -x=x;grind
theorem sgR_inj {t:Bool}{x y:Rat} (h:sgR t x=sgR t y):x=y:=by rw [<- sgR_sg t x,h,sgR_sg]
theorem sgR_sum (t:Bool) (f:Nat->Rat):∀ n,rS' (fun i=>sgR t (f i)) n=sgR t (rS' f n)
 | 0=>(sgR_zero t).symm
 | n+1=>by rw [rS',rS',sgR_sum t f n,sgR_add]
theorem sgR_cost (t:Bool) (S n:Nat) (g:Nat->Nat->Rat) (x:Nat->Nat->Int):costX S n (fun s c=>sgR t (g s c)) x=sgR t (costX S n g x):=by
 unfold costX
 rw [<- sgR_sum]
 refine rT_congr fun s _=>?_
 rw [<- sgR_sum]
 exact rT_congr fun c _=>(sgR_mul t _ _).symm
def sumK (b:Nat->Rat):List Nat->Rat
 | []=>0
 | c::K=>b c+sumK b K
theorem sumK_cnt {n:Nat} (b:Nat->Rat):∀ {K:List Nat},(∀ c∈K,c < n)->sumK b K=rS' (fun c=>(((K.count c:Nat):Int):Rat)*b c) n
 | [],_=>by
  rw [rT_congr (g:=fun _=>0) fun c _=>by show ((0:Int):Rat)*b c=0;rw [show ((0:Int):Rat)=0 from rfl,Rat.zero_mul],rT_zero];rfl
 | k::K,h=>by
  rw [sumK,sumK_cnt b (K:=K) fun c hc=>h c (List.mem_cons_of_mem _ hc)]
  have e:rS' (fun c=>(((k::K).count c:Nat):Int)*b c) n=rS' (fun c=>(((K.count c:Nat):Int):Rat)*b c+if c=k then b k else 0) n:=rT_congr fun c _=>by
   rw [List.count_cons]
   by_cases e:c=k
   ·subst e
    rw [if_pos (by simp),if_pos rfl,Int.natCast_add,Rat.intCast_add,show (((1:Nat):Int):Rat)=1 from rfl]
    grind
   ·rw [if_neg (by simpa using fun h=>e h.symm),if_neg e];grind
  rw [e,rT_add,rS_one,if_pos (h k (List.mem_cons_self ..)),Rat.add_comm]
theorem vol_kF {l:List Spn}{ix:Int->Nat}{cl:Nat->Int}{sI:Int->Nat}{tb:Nat->Int}:∀ {A:List Int}{f:Int},(∀ t,f<=t->t < f+A.length->cl (ix t)=placeI l t)->(∀ x∈A,tb (sI x)=x) ->
  volSum l f A=sumG (fun s c=>clsG l (cl c) (tb s)) ((A.map sI).zip (kF ix f A.length))
 | [],f,_,_=>rfl
 | x::A,f,h1,h2=>by
  rw [volSum,List.map_cons,List.length_cons,kF,List.zip_cons_cons,sumG,h1 f (Int.le_refl _) (by rw [List.length_cons];omega),h2 x (List.mem_cons_self ..),<- worth_cls,
   vol_kF (ix:=ix) (cl:=cl) (sI:=sI) (tb:=tb) (A:=A) (f:=f+1) (fun t a b=>h1 t (by omega) (by rw [List.length_cons];omega)) fun y hy=>h2 y (List.mem_cons_of_mem _ hy)]
theorem vol_le {l:List Spn}{ix:Int->Nat}{b:Nat->Rat}{t:Bool}:∀ {A:List Int}{f:Int},(∀ (j:Nat) (hj:j < A.length),b (ix (f+j))<=sgR t (worthOf l (f+j) A[j])) ->
  sumK b (kF ix f A.length)<=sgR t (volSum l f A)
 | [],f,_=>by rw [volSum,sgR_zero];exact Rat.le_refl
 | x::A,f,h=>by
  have h0:=h 0 (by simp)
  have ih:=vol_le (l:=l) (ix:=ix) (b:=b) (t:=t) (A:=A) (f:=f+1) fun j hj=>by
   have:=h (j+1) (by simpa using hj)
   rw [List.getElem_cons_succ] at this
   rw [show f+1+(j:Int)=f+((j+1:Nat):Int) from by omega];exact this
  rw [volSum,List.length_cons,kF,sumK,sgR_add]
  simp only [List.getElem_cons_zero,Int.natCast_zero,Int.add_zero] at h0
  exact Std.le_trans (Rat.add_le_add_right.2 h0) (Rat.add_le_add_left.2 ih)
theorem vol_eq {l:List Spn}{ix:Int->Nat}{b:Nat->Rat}:∀ {A:List Int}{f:Int},(∀ (j:Nat) (hj:j < A.length),b (ix (f+j))=worthOf l (f+j) A[j]) ->
  sumK b (kF ix f A.length)=volSum l f A
 | [],f,_=>rfl
 | x::A,f,h=>by
  have h0:=h 0 (by simp)
  have ih:=vol_eq (l:=l) (ix:=ix) (b:=b) (A:=A) (f:=f+1) fun j hj=>by
   have:=h (j+1) (by simpa using hj)
   rw [List.getElem_cons_succ] at this
   rw [show f+1+(j:Int)=f+((j+1:Nat):Int) from by omega];exact this
  simp only [List.getElem_cons_zero,Int.natCast_zero,Int.add_zero] at h0
  rw [volSum,List.length_cons,kF,sumK,h0,ih]
def tbS (r:Rn) (s:Nat):Int:=(r.tab.getD s (0,0)).1
def tbT (r:Rn) (s:Nat):Int:=(r.tab.getD s (0,0)).2
def sIx (r:Rn) (st:Int):Nat:=r.tab.findIdx fun h=>decide (h.1=st)
theorem sortedK:∀ (t:List (Int×Int)) (q:Option (Int×Int)),sortedT q t=true->(t.map (·.1)).Nodup/\∀ p,q=some p->∀ x∈t,p.1 < x.1
 | [],_,_=>⟨List.nodup_nil,fun _ _ x hx=>by cases hx⟩
 | y::t,q,h=>by
  have h:((match q with|none=>true|some q=>decide (q.1 < y.1)) && sortedT (some y) t)=true:=by cases q<;>exact h
  rw [Bool.and_eq_true] at h
  obtain ⟨h1,h2⟩:=sortedK t (some y) h.2
  refine ⟨List.nodup_cons.2 ⟨fun hm=>?_,h1⟩,fun p hp x hx=>?_⟩
  ·obtain ⟨z,hz,e⟩:=List.mem_map.1 hm
   have:=h2 y rfl z hz
   dsimp only at e
   omega
  ·subst hp
   have h3:p.1 < y.1:=of_decide_eq_true h.1
   rcases List.mem_cons.1 hx with rfl|hx
   ·exact h3
   ·have:=h2 y rfl x hx
    omega
theorem OkR.tab {r:Rn} (h:OkR r) (h0:r.tab.length≠0):(r.tab.map (·.1)).Nodup/\(∀ x∈r.tab,1<=x.2)/\sumT r.tab=r.to_-r.from_/\∀ x∈r.tab,0<=x.1/\x.1<=1000:=by
 obtain ⟨h2,h3,h4⟩:=oneE_tab h.2 h0
 exact ⟨(sortedK _ none h3).1,fun p hp=>(h2 p hp).2.1,h4.1,fun p hp=>(h2 p hp).1⟩
theorem tabS_count:∀ (t:List (Int×Int)),(t.map (·.1)).Nodup->(∀ x∈t,1<=x.2)->∀ x∈t,(((tabS t).count x.1:Nat):Int)=x.2
 | [],_,_,x,hx=>by cases hx
 | y::t,h,h1,x,hx=>by
  rw [List.map_cons,List.nodup_cons] at h
  rw [tabS_cons,List.count_append,List.count_replicate]
  have hy:=h1 y (List.mem_cons_self ..)
  rcases List.mem_cons.1 hx with rfl|hx
  ·have:(tabS t).count x.1=0:=List.count_eq_zero.2 fun hm=>by
    obtain ⟨m,hm⟩:=tabS_mem hm
    exact h.1 (List.mem_map.2 ⟨_,hm,rfl⟩)
   rw [this,if_pos (by simp)];omega
  ·have ne:y.1≠x.1:=fun e=>h.1 (List.mem_map.2 ⟨x,hx,e.symm⟩)
   rw [if_neg (by simpa using ne)]
   have:=tabS_count t h.2 (fun z hz=>h1 z (List.mem_cons_of_mem _ hz)) x hx
   omega
section
variable {r:Rn}{l:List Spn}{x:Int}
theorem sIx_at {st:Int} (h:∃ m,(st,m)∈r.tab):sIx r st < r.tab.length/\tbS r (sIx r st)=st:=by
 obtain ⟨m,hm⟩:=h
 have hlt:sIx r st < r.tab.length:=List.findIdx_lt_length_of_exists ⟨_,hm,by simp⟩
 refine ⟨hlt,?_⟩
 have h3:decide ((r.tab[sIx r st]).1=st)=true:=List.findIdx_getElem (w:=hlt)
 rw [tbS,List.getD_eq_getElem?_getD,List.getElem?_eq_getElem hlt,Option.getD_some]
 exact of_decide_eq_true h3
theorem tbS_inj (h:(r.tab.map (·.1)).Nodup) {a b:Nat} (ha:a < r.tab.length) (hb:b < r.tab.length) (e:tbS r a=tbS r b):a=b:=by
 have hp:=List.pairwise_iff_getElem.1 h
 simp only [tbS,List.getD_eq_getElem?_getD,List.getElem?_eq_getElem ha,List.getElem?_eq_getElem hb,Option.getD_some] at e
 rcases Nat.lt_trichotomy a b with h1|h1|h1
 ·exact absurd (by rw [List.getElem_map,List.getElem_map];exact e) (hp a b (by simpa using ha) (by simpa using hb) h1)
 ·exact h1
 ·exact absurd (by rw [List.getElem_map,List.getElem_map];exact e.symm) (hp b a (by simpa using hb) (by simpa using ha) h1)
theorem tbS_mem {s:Nat} (hs:s < r.tab.length):(tbS r s,tbT r s)∈r.tab:=by
 rw [tbS,tbT,List.getD_eq_getElem?_getD,List.getElem?_eq_getElem hs,Option.getD_some]
 exact List.getElem_mem hs
def prL (r:Rn) (l:List Spn) (A:List Int):List (Nat×Nat):=(A.map (sIx r)).zip (kL r l)
theorem zip_mem {α β:Type}:∀ {a:List α}{b:List β}{y:α×β},y∈a.zip b->y.1∈a/\y.2∈b
 | [],_,y,h=>by simp at h
 | _::_,[],y,h=>by simp at h
 | p::a,q::b,y,h=>by
  rw [List.zip_cons_cons] at h
  rcases List.mem_cons.1 h with rfl|h
  ·exact ⟨List.mem_cons_self ..,List.mem_cons_self ..⟩
  ·exact ⟨List.mem_cons_of_mem _ (zip_mem h).1,List.mem_cons_of_mem _ (zip_mem h).2⟩
theorem AgP.len' {A:List Int} (h:OkR r) (ha:AgP r A):A.length=(r.to_-r.from_).toNat:=by
 have:=ha.len h
 omega
theorem AgP.tabm {A:List Int} (h0:r.tab.length≠0) (ha:AgP r A):A.Perm (tabS r.tab):=by
 unfold AgP at ha;rwa [if_neg h0] at ha
theorem prL_lt {A:List Int} (h:OkR r) (h0:r.tab.length≠0) (hl:InOrd x l) (ha:AgP r A):∀ y∈prL r l A,y.1 < r.tab.length/\y.2 < (clsE r l).length:=fun y hy=>by
 obtain ⟨h1,h2⟩:=zip_mem hy
 obtain ⟨st,hst,e⟩:=List.mem_map.1 h1
 exact ⟨e ▸ (sIx_at (tabS_mem ((ha.tabm h0).mem_iff.1 hst))).1,kL_lt hl h.rng.2.1 _ h2⟩
theorem run_vol {A:List Int} (h:OkR r) (h0:r.tab.length≠0) (hl:InOrd x l) (ha:AgP r A):volSum l r.from_ A=costX r.tab.length (clsE r l).length (fun s c=>clsG l (clsAt r l c) (tbS r s)) (cntX (prL r l A)):=by
 rw [<- sum_cnt (fun s c=>clsG l (clsAt r l c) (tbS r s)) (prL_lt h h0 hl ha),prL,kL,<- ha.len' h]
 have hr:=h.rng
 have hlen:=ha.len h
 exact vol_kF (fun t h1 h2=>(cls_ix hl hr.2.1 h1 (by omega)).2) fun y hy=>(sIx_at (tabS_mem ((ha.tabm h0).mem_iff.1 hy))).2
theorem zip_fst {α β:Type}:∀ {a:List α}{b:List β},a.length=b.length->(a.zip b).map (·.1)=a
 | [],_,_=>by simp
 | _::_,[],h=>by simp at h
 | p::a,q::b,h=>by rw [List.zip_cons_cons,List.map_cons,zip_fst (by simpa using h)]
theorem zip_snd {α β:Type}:∀ {a:List α}{b:List β},a.length=b.length->(a.zip b).map (·.2)=b
 | [],b,h=>by cases b<;>simp at *
 | _::_,[],h=>by simp at h
 | p::a,q::b,h=>by rw [List.zip_cons_cons,List.map_cons,zip_snd (by simpa using h)]
theorem kL_len:(kL r l).length=(r.to_-r.from_).toNat:=kF_len _ _ _
theorem run_feas {A:List Int} (h:OkR r) (h0:r.tab.length≠0) (hl:InOrd x l) (ha:AgP r A):Feas r.tab.length (clsE r l).length (tbT r) (clsT r l) (cntX (prL r l A)):=by
 have e:(A.map (sIx r)).length=(kL r l).length:=by rw [List.length_map,kL_len,ha.len' h]
 obtain ⟨n1,n2,-⟩:=h.tab h0
 refine cnt_feas (prL_lt h h0 hl ha) (fun s hs=>?_) fun c hc=>?_
 ·rw [prL,zip_fst e]
  have hp:=ha.tabm h0
  have e2:(A.map (sIx r)).count s=A.count (tbS r s):=by
   rw [List.count_eq_countP,List.countP_map,List.count_eq_countP]
   refine List.countP_congr fun y hy=>?_
   have:=sIx_at (r:=r) (tabS_mem (hp.mem_iff.1 hy))
   simp only [Function.comp,beq_iff_eq]
   exact ⟨fun e=>by rw [<- e];exact this.2.symm,fun e=>tbS_inj n1 this.1 hs (by rw [this.2,e])⟩
  rw [e2,hp.count_eq]
  exact tabS_count _ n1 n2 _ (tbS_mem hs)
 ·rw [prL,zip_snd e]
  exact kL_cnt hl h.rng.2.1 hc
def dealA (r:Rn) (l:List Spn) (X:Nat->Nat->Int):List Int:=(deal (kL r l) fun c=>colL X c r.tab.length).map (tbS r)
theorem colL_lt {X:Nat->Nat->Int}{c:Nat}:∀ {S s},s∈colL X c S->s < S:=fun {S s} h=>by
 have:=List.count_pos_iff.2 h
 rw [colL_cnt] at this
 split at this
 ·assumption
 ·exact absurd this (Nat.lt_irrefl _)
theorem deal_mem {K:List Nat}:∀ {q:Nat->List Nat}{S:Nat},(∀ d,K.count d<=(q d).length)->(∀ d,∀ s∈q d,s < S)->∀ s∈deal K q,s < S:=fun {q S} h1 h2 s hs=>by
 obtain ⟨i,hi,e⟩:=List.mem_iff_getElem.1 hs
 have hz:(deal K q).length=K.length:=deal_len K q
 have hm:(s,K[i]'(by omega))∈(deal K q).zip K:=List.mem_iff_getElem.2 ⟨i,by rw [List.length_zip];omega,by rw [List.getElem_zip,e]⟩
 have h3:=List.count_pos_iff.2 hm
 rw [deal_cnt s _ K q h1] at h3
 exact h2 _ s (List.mem_of_mem_take (List.count_pos_iff.1 h3))
theorem deal_fits (h:OkR r) (h0:r.tab.length≠0) (hl:InOrd x l) {X:Nat->Nat->Int} (hx:Feas r.tab.length (clsE r l).length (tbT r) (clsT r l) X):∀ d,(kL r l).count d<=(colL X d r.tab.length).length:=fun d=>by
 by_cases hd:d < (clsE r l).length
 ·have h1:=kL_cnt hl h.rng.2.1 hd
  have h2:=colL_len X d r.tab.length fun s hs=>hx.nn s d hs hd
  rw [hx.col d hd] at h2
  omega
 ·have:(kL r l).count d=0:=List.count_eq_zero.2 fun hm=>hd (kL_lt hl h.rng.2.1 _ hm)
  omega
theorem deal_ok (h:OkR r) (h0:r.tab.length≠0) (hl:InOrd x l) {X:Nat->Nat->Int} (hx:Feas r.tab.length (clsE r l).length (tbT r) (clsT r l) X) :
  AgP r (dealA r l X)/\(∀ s c,s < r.tab.length->c < (clsE r l).length->cntX (prL r l (dealA r l X)) s c=X s c)/\volSum l r.from_ (dealA r l X)=costX r.tab.length (clsE r l).length (fun s c=>clsG l (clsAt r l c) (tbS r s)) X:=by
 have hf:=deal_fits h h0 hl hx
 have hm:∀ s∈deal (kL r l) fun c=>colL X c r.tab.length,s < r.tab.length:=deal_mem hf fun d s hs=>colL_lt hs
 obtain ⟨n1,n2,-⟩:=h.tab h0
 have hdx:=deal_x hx (K:=kL r l) (kL_lt hl h.rng.2.1) (fun c hc=>kL_cnt hl h.rng.2.1 hc)
 have hlen:(deal (kL r l) fun c=>colL X c r.tab.length).length=(kL r l).length:=deal_len _ _
 have hsx:(dealA r l X).map (sIx r)=deal (kL r l) fun c=>colL X c r.tab.length:=by
  rw [dealA,List.map_map]
  refine (List.map_congr_left fun s hs=>?_).trans (List.map_id _)
  have hs:=hm s hs
  have:=sIx_at (r:=r) ⟨_,tbS_mem hs⟩
  exact tbS_inj n1 this.1 hs this.2
 have hpr:prL r l (dealA r l X)=(deal (kL r l) fun c=>colL X c r.tab.length).zip (kL r l):=by rw [prL,hsx]
 have hcnt:∀ s,s < r.tab.length->(((deal (kL r l) fun c=>colL X c r.tab.length).count s:Nat):Int)=tbT r s:=fun s hs=>by
  rw [<- hx.row s hs,<- iS_congr fun c hc=>hdx s c hs hc]
  rw [cnt_row s (fun y hy=>kL_lt hl h.rng.2.1 _ (zip_mem hy).2),zip_fst hlen]
 have hag:AgP r (dealA r l X):=by
  unfold AgP
  rw [if_neg h0,List.perm_iff_count]
  intro st
  by_cases e:∃ m,(st,m)∈r.tab
  ·obtain ⟨h1,h2⟩:=sIx_at e
   have h3:=tabS_count _ n1 n2 _ (tbS_mem h1)
   rw [h2] at h3
   have h4:=hcnt _ h1
   have h5:(dealA r l X).count st=(deal (kL r l) fun c=>colL X c r.tab.length).count (sIx r st):=by
    rw [dealA,List.count_eq_countP,List.countP_map,List.count_eq_countP]
    refine List.countP_congr fun s hs=>?_
    simp only [Function.comp,beq_iff_eq]
    exact ⟨fun e=>tbS_inj n1 (hm s hs) h1 (by rw [e,h2]),fun e=>by rw [e,h2]⟩
   dsimp only at h3
   omega
  ·rw [List.count_eq_zero.2,List.count_eq_zero.2]
   ·exact fun hm=>e (tabS_mem hm)
   ·intro hm'
    obtain ⟨s,hs,e2⟩:=List.mem_map.1 hm'
    exact e ⟨_,e2 ▸ tbS_mem (hm s hs)⟩
 have hc:∀ s c,s < r.tab.length->c < (clsE r l).length->cntX (prL r l (dealA r l X)) s c=X s c:=fun s c hs hc=>by rw [hpr];exact hdx s c hs hc
 refine ⟨hag,hc,?_⟩
 rw [run_vol h h0 hl hag]
 unfold costX
 exact rT_congr fun s hs=>rT_congr fun c hcn=>by rw [hc s c hs hcn]
end
end Go.Proofs.YtjcecdmbfmccoaaGreatDoor
/-
 Plain: what proofs prove: bounds of all volumes,and the ends of the interval if they come from potentials.
-/
namespace Go.Proofs.YtjcecdmbfmccoaaGreatDoor
open Go.RowKit Go.Sl Go.Num
structure Prf where
 st:List Q3
 cl:List Q3
 sa:Option Addr
 sc:Nat
 ca:Option Addr
 cc:Nat
def uP (p:Prf) (s:Nat):Rat:=qR (p.st.getD s zero3)
def vP (p:Prf) (c:Nat):Rat:=qR (p.cl.getD c zero3)
def gT (l:List Spn) (r:Rn) (s c:Nat):Rat:=clsG l (clsAt r l c) (tbS r s)
def endG (t:Bool) (a b:Rat):Rat:=if sgR t b < sgR t a then b else a
def gapC (t:Bool) (l:List Spn) (r:Rn) (c:Nat):Rat:=endG t (clsG l (clsAt r l c) r.lo) (clsG l (clsAt r l c) r.hi)
def gapV (t:Bool) (l:List Spn) (r:Rn):Rat:=rS' (fun c=>(clsT r l c:Rat)*gapC t l r c) (clsE r l).length
def tabV (l:List Spn) (r:Rn) (p:Prf):Rat:=dualV r.tab.length (clsE r l).length (tbT r) (clsT r l) (uP p) (vP p)
def valR (t:Bool) (l:List Spn) (r:Rn) (p:Prf):Rat:=if r.tab.length=0 then gapV t l r else tabV l r p
def wellB (l:List Spn) (r:Rn) (p:Prf):Bool:=if r.tab.length=0 then decide (p.st.length+p.cl.length=0) else decide (p.st.length=r.tab.length) && decide (p.cl.length=(clsE r l).length) && (p.st.all fun a=>decide (validQ a)) && p.cl.all fun a=>decide (validQ a)
def certB (t:Bool) (l:List Spn) (r:Rn) (p:Prf):Bool:=decide (r.tab.length=0) || (List.range (clsE r l).length).all fun c=>(List.range r.tab.length).all fun s=>decide (sgR t (uP p s+vP p c)<=sgR t (gT l r s c))
def valL (t:Bool) (l:List Spn):List Rn->List Prf->Rat
 | r::rs,p::ps=>valR t l r p+valL t l rs ps
 | _,_=>0
def chkE (rs:List Rn) (l:List Spn):Int:=if runsErr rs≠0 then runsErr rs else if spansErr l≠0 then spansErr l else if 0 < l.length/\(rs.length=0∨(l.head?.map (·.from_)).getD 0 < (headD' rs).from_∨(lastD rs).to_ < (l.getLast?.map (·.to_)).getD 0) then 19 else 0
def valE (t:Bool) (rs:List Rn) (l:List Spn) (ps:List Prf):Q3×Int :=
 if chkE rs l≠0 then (zero3,chkE rs l) else if ps.length≠rs.length then (zero3,1) else if ((rs.zip ps).all fun x=>wellB l x.1 x.2)=false then (zero3,1) else if ((rs.zip ps).all fun x=>certB t l x.1 x.2)=false then (zero3,22) else (rQ (valL t l rs ps),0)
theorem chk_ok {rs:List Rn}{l:List Spn} (h:chkE rs l=0):runsErr rs=0/\spansErr l=0:=by
 unfold chkE at h
 split at h
 ·rename_i h1;exact absurd h h1
 ·rename_i h1
  split at h
  ·rename_i h2;exact absurd h h2
  ·rename_i h2;exact ⟨Decidable.not_not.1 h1,Decidable.not_not.1 h2⟩
theorem val_ok {t:Bool}{rs:List Rn}{l:List Spn}{ps:List Prf} (h:(valE t rs l ps).2=0):chkE rs l=0/\ps.length=rs.length/\(∀ x∈rs.zip ps,wellB l x.1 x.2=true)/\(∀ x∈rs.zip ps,certB t l x.1 x.2=true)/\valE t rs l ps=(rQ (valL t l rs ps),0):=by
 unfold valE at h ⊢
 split at h
 ·rename_i h1;exact absurd h h1
 rename_i h1
 split at h
 ·cases h
 rename_i h2
 split at h
 ·cases h
 rename_i h3
 split at h
 ·cases h
 rename_i h4
 rw [if_neg h1,if_neg h2,if_neg h3,if_neg h4]
 exact ⟨Decidable.not_not.1 h1,Decidable.not_not.1 h2,List.all_eq_true.1 (by simpa using h3),List.all_eq_true.1 (by simpa using h4),rfl⟩
theorem val_of {t:Bool}{rs:List Rn}{l:List Spn}{ps:List Prf} (h1:chkE rs l=0) (h2:ps.length=rs.length) (h3:∀ x∈rs.zip ps,wellB l x.1 x.2=true) (h4:∀ x∈rs.zip ps,certB t l x.1 x.2=true):valE t rs l ps=(rQ (valL t l rs ps),0):=by
 unfold valE
 rw [if_neg (by omega),if_neg (by omega),if_neg (by rw [List.all_eq_true.2 h3];simp),if_neg (by rw [List.all_eq_true.2 h4];simp)]
theorem cert_iff {t:Bool}{l:List Spn}{r:Rn}{p:Prf}:certB t l r p=true ↔ (r.tab.length≠0->∀ s c,s < r.tab.length->c < (clsE r l).length->sgR t (uP p s+vP p c)<=sgR t (gT l r s c)):=by
 unfold certB
 rw [Bool.or_eq_true,decide_eq_true_eq,List.all_eq_true]
 constructor
 ·rintro (h|h) h0 s c hs hc
  ·exact absurd h h0
  ·exact of_decide_eq_true (List.all_eq_true.1 (h c (List.mem_range.2 hc)) s (List.mem_range.2 hs))
 ·intro h
  by_cases h0:r.tab.length=0
  ·exact .inl h0
  ·exact .inr fun c hc=>List.all_eq_true.2 fun s hs=>decide_eq_true (h h0 s c (List.mem_range.1 hs) (List.mem_range.1 hc))
theorem clsG_worth {r:Rn}{l:List Spn}{x:Int} (hl:InOrd x l) (hr:r.from_ < r.to_) {t st:Int} (h1:r.from_<=t) (h2:t < r.to_):clsG l (clsAt r l (clsIx r l t)) st=worthOf l t st:=by
 rw [worth_cls,(cls_ix hl hr h1 h2).2]
theorem gap_ends (t:Bool) {l:List Spn} (hR:∀ s∈l,RightS s) {p lo hi st:Int} (h1:lo<=st) (h2:st<=hi):sgR t (endG t (clsG l p lo) (clsG l p hi))<=sgR t (clsG l p st):=by
 have key:(clsG l p lo<=clsG l p st/\clsG l p st<=clsG l p hi)∨(clsG l p hi<=clsG l p st/\clsG l p st<=clsG l p lo):=by
  unfold clsG
  by_cases hp:p < 0
  ·rw [if_pos hp,if_pos hp,if_pos hp];exact .inl ⟨Rat.le_refl,Rat.le_refl⟩
  ·rw [if_neg hp,if_neg hp,if_neg hp]
   cases hs:l[p.toNat]? with
   | none=>exact .inl ⟨Rat.le_refl,Rat.le_refl⟩
   | some s=>exact rate_ends (hR s (List.mem_of_getElem? hs)) h1 h2
 unfold endG
 generalize clsG l p lo=a at key ⊢
 generalize clsG l p hi=b at key ⊢
 generalize clsG l p st=c at key ⊢
 cases t<;>simp only [sgR]<;>split<;>grind
section
variable {t:Bool}{r:Rn}{l:List Spn}{x:Int}
theorem gap_sum (h:OkR r) (hl:InOrd x l):gapV t l r=sumK (gapC t l r) (kL r l):=by
 rw [sumK_cnt _ (kL_lt hl h.rng.2.1),gapV]
 exact rT_congr fun c hc=>by rw [kL_cnt hl h.rng.2.1 hc]
theorem sgK (b:Nat->Rat):∀ K,sumK (fun c=>sgR t (b c)) K=sgR t (sumK b K)
 | []=>(sgR_zero t).symm
 | c::K=>by rw [sumK,sumK,sgK b K,sgR_add]
theorem gap_le (h:OkR r) (h0:r.tab.length=0) (hl:InOrd x l) (hR:∀ s∈l,RightS s) {A:List Int} (ha:AgP r A):sgR t (gapV t l r)<=sgR t (volSum l r.from_ A):=by
 have hlen:=ha.len' h
 have hag:=ha
 unfold AgP at hag
 rw [if_pos h0] at hag
 rw [gap_sum h hl,<- sgK,kL,<- hlen]
 have hr:=h.rng
 refine vol_le fun j hj=>?_
 have hm:=hag.2 _ (List.getElem_mem hj)
 rw [<- clsG_worth hl hr.2.1 (t:=r.from_+j) (by omega) (by omega)]
 exact gap_ends t hR hm.1 hm.2
theorem gapV_eq (h:OkR r) (hl:InOrd x l) {A:List Int} (hlen:A.length=(r.to_-r.from_).toNat) (ha:∀ (j:Nat) (hj:j < A.length),gapC t l r (clsIx r l (r.from_+j))=worthOf l (r.from_+j) A[j]):volSum l r.from_ A=gapV t l r:=by
 rw [gap_sum h hl,kL,<- hlen]
 exact (vol_eq ha).symm
theorem tab_le (h:OkR r) (h0:r.tab.length≠0) (hl:InOrd x l) {p:Prf} (hc:certB t l r p=true) {A:List Int} (ha:AgP r A):sgR t (tabV l r p)<=sgR t (volSum l r.from_ A):=by
 rw [run_vol h h0 hl ha,<- sgR_cost,tabV,dual_eq (run_feas h h0 hl ha),<- sgR_cost]
 have hf:=run_feas h h0 hl ha
 refine rS_le fun s hs=>rS_le fun c hcn=>?_
 exact Rat.mul_le_mul_of_nonneg_left (cert_iff.1 hc h0 s c hs hcn) (Rat.intCast_nonneg.2 (hf.nn s c hs hcn))
theorem val_le (h:OkR r) (hl:InOrd x l) (hR:∀ s∈l,RightS s) {p:Prf} (hc:certB t l r p=true) {A:List Int} (ha:AgP r A):sgR t (valR t l r p)<=sgR t (volSum l r.from_ A):=by
 unfold valR
 split
 ·rename_i h0;exact gap_le h h0 hl hR ha
 ·rename_i h0;exact tab_le h h0 hl hc ha
def BestR (t:Bool) (l:List Spn) (r:Rn) (A:List Int):Prop:=AgP r A/\(r.tab.length=0->volSum l r.from_ A=gapV t l r) /\
 (r.tab.length≠0->∃ pi:Nat->Rat,(∀ b,b < (clsE r l).length->fewQ 10000000 (rQ (pi b)))/\∀ s a b,s < r.tab.length->a < (clsE r l).length->b < (clsE r l).length->0 < cntX (prL r l A) s a->pi b<=pi a+(sgR t (gT l r s b)-sgR t (gT l r s a)))
theorem BestR.le (h:OkR r) (hl:InOrd x l) (hR:∀ s∈l,RightS s) {A B:List Int} (ha:BestR t l r A) (hb:AgP r B):sgR t (volSum l r.from_ A)<=sgR t (volSum l r.from_ B):=by
 obtain ⟨h1,h2,h3⟩:=ha
 by_cases h0:r.tab.length=0
 ·rw [h2 h0];exact gap_le h h0 hl hR hb
 ·obtain ⟨pi,-,hp⟩:=h3 h0
  rw [run_vol h h0 hl h1,run_vol h h0 hl hb,<- sgR_cost,<- sgR_cost]
  exact feas_opt (run_feas h h0 hl h1) (run_feas h h0 hl hb) pi fun s a b hs ha hb h=>by
   have:=hp s a b hs ha hb h
   show _<=sgR t (gT l r s b)-sgR t (gT l r s a)
   grind
theorem pot_val (h:OkR r) (h0:r.tab.length≠0) (hl:InOrd x l) {A:List Int} (ha:AgP r A) {v:Nat->Rat}{p:Prf}
  (hv:∀ s a b,s < r.tab.length->a < (clsE r l).length->b < (clsE r l).length->0 < cntX (prL r l A) s a->sgR t (v b)<=sgR t (v a)+(sgR t (gT l r s b)-sgR t (gT l r s a)))
  (h1:∀ c,c < (clsE r l).length->vP p c=v c) (h2:∀ s,s < r.tab.length->sgR t (uP p s)=leastU (fun s c=>sgR t (gT l r s c)) (fun c=>sgR t (v c)) s (clsE r l).length) :
  certB t l r p=true/\tabV l r p=volSum l r.from_ A:=by
 have hf:=run_feas h h0 hl ha
 obtain ⟨q1,q2⟩:=pot_proof (g:=fun s c=>sgR t (gT l r s c)) (v:=fun c=>sgR t (v c)) hf (clsE_len hl h.rng.2.1) hv
 refine ⟨cert_iff.2 fun _ s c hs hc=>?_,?_⟩
 ·rw [sgR_add,h2 s hs,h1 c hc]
  exact q1 s c hs hc
 ·refine sgR_inj (t:=t) ?_
  rw [run_vol h h0 hl ha,<- sgR_cost]
  refine Eq.trans ?_ q2
  unfold tabV dualV
  rw [sgR_add,<- sgR_sum,<- sgR_sum]
  congr 1
  ·exact rT_congr fun s hs=>by rw [sgR_mul,h2 s hs]
  ·exact rT_congr fun c hc=>by rw [sgR_mul,h1 c hc]
end
def BestS (t:Bool) (l:List Spn):List Rn->List Int->Prop
 | [],S=>S=[]
 | r::rs,S=>∃ A B,S=A++B/\BestR t l r A/\BestS t l rs B
theorem BestS.ag {t:Bool}{l:List Spn}:∀ {rs:List Rn}{S:List Int},BestS t l rs S->AgS rs S
 | [],_,h=>h
 | _::_,_,⟨A,B,h1,h2,h3⟩=>⟨A,B,h1,h2.1,h3.ag⟩
section
variable {t:Bool}{l:List Spn}{x:Int}
theorem val_sound (hl:InOrd x l) (hR:∀ s∈l,RightS s):∀ {rs:List Rn}{ps:List Prf}{f e:Int}{S:List Int},Cn f rs e->(∀ r∈rs,OkR r)->ps.length=rs.length->(∀ y∈rs.zip ps,certB t l y.1 y.2=true)->AgS rs S->sgR t (valL t l rs ps)<=sgR t (volSum l f S)
 | [],ps,f,e,S,_,_,_,_,ha=>by rw [show S=[] from ha,volSum,show valL t l [] ps=0 from by cases ps<;>rfl];exact Rat.le_refl
 | r::rs,[],f,e,S,_,_,h,_,_=>by simp at h
 | r::rs,p::ps,f,e,S,hc,ho,hn,hcert,⟨A,B,e1,h1,h2⟩=>by
  subst e1
  obtain ⟨rfl,hc2⟩:=hc
  have hr:=ho r (List.mem_cons_self ..)
  have ih:=val_sound hl hR (rs:=rs) (ps:=ps) hc2 (fun r hr=>ho r (List.mem_cons_of_mem _ hr)) (by simpa using hn) (fun y hy=>hcert y (by rw [List.zip_cons_cons];exact List.mem_cons_of_mem _ hy)) h2
  have i1:=val_le hr hl hR (hcert (r,p) (by rw [List.zip_cons_cons];exact List.mem_cons_self ..)) h1
  have hlen:=h1.len hr
  rw [valL,volSum_app,sgR_add,sgR_add,show r.from_+(A.length:Int)=r.to_ from by omega]
  exact Std.le_trans (Rat.add_le_add_right.2 i1) (Rat.add_le_add_left.2 ih)
theorem BestS.le (hl:InOrd x l) (hR:∀ s∈l,RightS s):∀ {rs:List Rn}{f e:Int}{S T:List Int},Cn f rs e->(∀ r∈rs,OkR r)->BestS t l rs S->AgS rs T->sgR t (volSum l f S)<=sgR t (volSum l f T)
 | [],f,e,S,T,_,_,h1,h2=>by rw [show S=[] from h1,show T=[] from h2];exact Rat.le_refl
 | r::rs,f,e,S,T,hc,ho,⟨A,B,e1,h1,h2⟩,⟨A',B',e2,h3,h4⟩=>by
  subst e1 e2
  obtain ⟨rfl,hc2⟩:=hc
  have hr:=ho r (List.mem_cons_self ..)
  have ih:=BestS.le hl hR (rs:=rs) hc2 (fun r hr=>ho r (List.mem_cons_of_mem _ hr)) h2 h4
  have i1:=h1.le hr hl hR h3
  have hlen:=h1.1.len hr
  have hlen':=h3.len hr
  rw [volSum_app,volSum_app,sgR_add,sgR_add,show r.from_+(A.length:Int)=r.to_ from by omega,show r.from_+(A'.length:Int)=r.to_ from by omega]
  exact Std.le_trans (Rat.add_le_add_right.2 i1) (Rat.add_le_add_left.2 ih)
theorem val_best (hl:InOrd x l):∀ {rs:List Rn}{ps:List Prf}{f e:Int}{S:List Int},Cn f rs e->(∀ r∈rs,OkR r)->ps.length=rs.length->BestS t l rs S ->
  (∀ A r p,(r,p)∈rs.zip ps->r.tab.length≠0->AgP r A->(∃ B C,S=B++A++C/\f+B.length=r.from_)->tabV l r p=volSum l r.from_ A)->valL t l rs ps=volSum l f S
 | [],ps,f,e,S,_,_,_,h,_=>by rw [show S=[] from h,volSum];cases ps<;>rfl
 | r::rs,[],f,e,S,_,_,h,_,_=>by simp at h
 | r::rs,p::ps,f,e,S,hc,ho,hn,⟨A,B,e1,h1,h2⟩,hp=>by
  subst e1
  obtain ⟨rfl,hc2⟩:=hc
  have hr:=ho r (List.mem_cons_self ..)
  have hlen:=h1.1.len hr
  have ih:=val_best hl (rs:=rs) (ps:=ps) hc2 (fun r hr=>ho r (List.mem_cons_of_mem _ hr)) (by simpa using hn) h2 fun A' r' p' hm h0 ha ⟨B',C',e3,e4⟩=>hp A' r' p' (by rw [List.zip_cons_cons];exact List.mem_cons_of_mem _ hm) h0 ha ⟨A++B',C',by rw [e3];simp,by rw [List.length_append];omega⟩
  rw [valL,volSum_app,show r.from_+(A.length:Int)=r.to_ from by omega,ih]
  congr 1
  unfold valR
  split
  ·rename_i h0;exact (h1.2.1 h0).symm
  ·rename_i h0;exact hp A r p (by rw [List.zip_cons_cons];exact List.mem_cons_self ..) h0 h1.1 ⟨[],B,by simp,by simp⟩
end
end Go.Proofs.YtjcecdmbfmccoaaGreatDoor
/-
 Plain: the cheapest moves between classes,common denominators,and where the searches begin and end.
-/
namespace Go.Proofs.YtjcecdmbfmccoaaGreatDoor
open Go.RowKit Go.Sl Go.Num
def pN (f:Nat->Nat):Nat->Nat
 | 0=>1
 | n+1=>pN f n*f n
theorem pN_dvd (f:Nat->Nat):∀ {n i},i < n->f i ∣ pN f n
 | 0,_,h=>absurd h (Nat.not_lt_zero _)
 | n+1,i,h=>by
  rw [pN]
  by_cases e:i=n
  ·subst e;exact Nat.dvd_mul_left _ _
  ·exact Nat.dvd_trans (pN_dvd f (by omega)) (Nat.dvd_mul_right _ _)
theorem pN_pos {f:Nat->Nat}:∀ {n},(∀ i,i < n->0 < f i)->0 < pN f n
 | 0,_=>Nat.one_pos
 | n+1,h=>Nat.mul_pos (pN_pos fun i hi=>h i (by omega)) (h n (by omega))
theorem pN_le {f:Nat->Nat}{B:Nat}:∀ {n},(∀ i,i < n->f i<=B)->pN f n<=B ^ n
 | 0,_=>Nat.le_refl _
 | n+1,h=>by
  rw [pN,Nat.pow_succ]
  exact Nat.mul_le_mul (pN_le fun i hi=>h i (by omega)) (h n (by omega))
def denM (g:Nat->Nat->Rat) (S n:Nat):Nat:=pN (fun s=>pN (fun c=>(g s c).den) n) S
theorem denM_pos (g:Nat->Nat->Rat) (S n:Nat):0 < denM g S n:=pN_pos fun s _=>pN_pos fun c _=>(g s c).den_pos
theorem den_eq (q:Rat):q*((q.den:Int):Rat)=(q.num:Rat):=by
 have h:mkRat q.num q.den=q:=Rat.mkRat_self q
 rw [Rat.mkRat_eq_div,Rat.div_def] at h
 have hd:((q.den:Int):Rat)≠0:=by
  intro e
  have:=Rat.intCast_inj.1 (e.trans (show (0:Rat)=((0:Int):Rat) from rfl))
  have:=q.den_pos
  omega
 have e:((q.den:Nat):Rat)=((q.den:Int):Rat):=rfl
 rw [e] at h
 have:=Rat.mul_inv_cancel _ hd
 conv=>lhs;rw [<- h]
 grind
theorem den_iq (q:Rat) {D:Nat} (h:q.den ∣ D):∃ N:Int,q*((D:Int):Rat)=(N:Rat):=by
 obtain ⟨k,rfl⟩:=h
 refine ⟨q.num*(k:Int),?_⟩
 rw [Int.natCast_mul,Rat.intCast_mul,Rat.intCast_mul,<- Rat.mul_assoc]
 congr 1
 exact den_eq q
theorem denM_iq (g:Nat->Nat->Rat) {S n s c:Nat} (hs:s < S) (hc:c < n):∃ N:Int,g s c*((denM g S n:Int):Rat)=(N:Rat) :=
 den_iq _ (Nat.dvd_trans (pN_dvd (fun c=>(g s c).den) hc) (pN_dvd (fun s=>pN (fun c=>(g s c).den) n) hs))
theorem int_ge (y:Rat):∃ K:Int,y<=(K:Rat):=⟨y.ceil,Rat.le_ceil⟩
theorem rS_ab {f h:Nat->Rat}{n:Nat} (H:∀ i,i < n->-(h i)<=f i):-(rS' h n)<=rS' f n:=by
 have h1:=rS_le (f:=fun i=>-(h i)) (g:=f) (n:=n) H
 have h2:rS' (fun i=>-(h i)) n=-(rS' h n):=by
  have:=rT_mul (-1) h n
  rw [rT_congr (g:=fun i=>-1*h i) fun i _=>by grind,this];grind
 rw [<- h2];exact h1
theorem cost_low {S n:Nat}{row col:Nat->Int} (g:Nat->Nat->Rat) {D:Rat} (hD:0 < D):∃ K:Int,∀ x,Feas S n row col x->-(K:Rat)<=costX S n g x*D:=by
 obtain ⟨K,hK⟩:=int_ge (rS' (fun s=>rS' (fun c=>(row s:Rat)*(if g s c < 0 then -(g s c) else 0)) n) S*D)
 refine ⟨K,fun x hx=>?_⟩
 have h1:-(rS' (fun s=>rS' (fun c=>(row s:Rat)*(if g s c < 0 then -(g s c) else 0)) n) S)<=costX S n g x:=by
  refine rS_ab fun s hs=>rS_ab fun c hc=>?_
  have h0:=hx.nn s c hs hc
  have h1:x s c<=row s:=by rw [<- hx.row s hs];exact iS_le1 (fun c hc=>hx.nn s c hs hc) c hc
  split
  ·rename_i hg
   have h2:=Rat.mul_le_mul_of_nonneg_right (a:=(x s c:Rat)) (b:=(row s:Rat)) (c:=-(g s c)) (Rat.intCast_le_intCast.2 h1) (by grind)
   grind
  ·rename_i hg
   have h2:0<=(x s c:Rat)*g s c:=Rat.mul_nonneg (Rat.intCast_nonneg.2 h0) (by grind)
   grind
 have h2:=Rat.mul_le_mul_of_nonneg_right h1 (Rat.le_of_lt hD)
 grind
def mvF (x:Nat->Nat->Int) (g:Nat->Nat->Rat) (a b:Nat):Nat->Option (Nat×Rat)
 | 0=>none
 | s+1=>if 0 < x s a then (match mvF x g a b s with
  | none=>some (s,g s b-g s a)
  | some q=>if g s b-g s a < q.2 then some (s,g s b-g s a) else some q) else mvF x g a b s
section
variable {x:Nat->Nat->Int}{g:Nat->Nat->Rat}{a b:Nat}
theorem mvF_some {q:Nat×Rat}:∀ {s},mvF x g a b s=some q->q.1 < s/\0 < x q.1 a/\q.2=g q.1 b-g q.1 a
 | 0,h=>by cases h
 | s+1,h=>by
  rw [mvF] at h
  split at h
  ·rename_i h0
   cases e:mvF x g a b s with
   | none=>rw [e] at h;cases h;exact ⟨Nat.lt_succ_self _,h0,rfl⟩
   | some p =>
    rw [e] at h
    dsimp only at h
    split at h
    ·cases h;exact ⟨Nat.lt_succ_self _,h0,rfl⟩
    ·cases h
     obtain ⟨h1,h2⟩:=mvF_some e
     exact ⟨by omega,h2⟩
  ·obtain ⟨h1,h2⟩:=mvF_some h
   exact ⟨by omega,h2⟩
theorem mvF_le {t:Nat}:∀ {s},t < s->0 < x t a->∃ q,mvF x g a b s=some q/\q.2<=g t b-g t a
 | 0,h,_=>absurd h (Nat.not_lt_zero _)
 | s+1,h,h0=>by
  rw [mvF]
  by_cases e:t=s
  ·subst e
   rw [if_pos h0]
   cases mvF x g a b t with
   | none=>exact ⟨_,rfl,Rat.le_refl⟩
   | some q =>
    dsimp only
    split
    ·exact ⟨_,rfl,Rat.le_refl⟩
    ·exact ⟨_,rfl,by grind⟩
  ·obtain ⟨q,h1,h2⟩:=mvF_le (s:=s) (by omega) h0
   rw [h1]
   split
   ·dsimp only
    split
    ·exact ⟨_,rfl,by grind⟩
    ·exact ⟨_,rfl,h2⟩
   ·exact ⟨q,rfl,h2⟩
end
def mE (S n:Nat) (x:Nat->Nat->Int) (g:Nat->Nat->Rat) (a b:Nat):Option Rat:=if a < n/\b < n then (mvF x g a b S).map (·.2) else none
def mS (S:Nat) (x:Nat->Nat->Int) (g:Nat->Nat->Rat) (a b:Nat):Nat:=((mvF x g a b S).getD (0,0)).1
section
variable {S n:Nat}{x:Nat->Nat->Int}{g:Nat->Nat->Rat}{a b:Nat}
theorem mE_some {r:Rat} (h:mE S n x g a b=some r):a < n/\b < n/\mvF x g a b S=some (mS S x g a b,r)/\mS S x g a b < S/\0 < x (mS S x g a b) a/\r=g (mS S x g a b) b-g (mS S x g a b) a:=by
 unfold mE at h
 split at h
 ·rename_i hab
  cases e:mvF x g a b S with
  | none=>rw [e] at h;cases h
  | some q =>
   rw [e] at h
   cases h
   have h1:=mvF_some e
   have h2:mS S x g a b=q.1:=by rw [mS,e];rfl
   rw [h2]
   exact ⟨hab.1,hab.2,rfl,h1⟩
 ·cases h
theorem fine_pot {d:Nat->Rat} (h:∀ a b,a < n->b < n->fineE (mE S n x g) d a b):∀ s a b,s < S->a < n->b < n->0 < x s a->d b<=d a+(g s b-g s a):=fun s a b hs ha hb h0=>by
 by_cases e:a=b
 ·subst e;grind
 ·obtain ⟨q,h1,h2⟩:=mvF_le (g:=g) (b:=b) hs h0
  have:=h a b ha hb q.2 (by unfold mE;rw [if_pos ⟨ha,hb⟩,h1];rfl) e
  grind
end
theorem BInv.start' (m:Nat->Nat->Option Rat) (p:Nat->Nat):BInv m 1 (fun _ _=>False) ⟨fun _=>0,p,fun _=>0⟩ :=
 ⟨fun a b _=>⟨Nat.le_refl _,fun hf=>hf.elim⟩,fun v hv=>absurd hv (Nat.not_succ_le_zero 0),fun v=>Nat.zero_le _,fun k v hc=>absurd (hc.set 0 hc.pos) (Nat.not_succ_le_zero 0)⟩
theorem pot_start {n:Nat}{th:Nat->Nat->Prop}{g:Nat->Nat->Rat}{D:Rat} (hD:0 < D) {pi:Nat->Rat}{B:Int} (hB:∀ b,b < n->-(B:Rat)<=pi b/\pi b<=(B:Rat)) {E:Int} (hE:D<=(E:Rat)) (hB0:0<=B) (hp:∀ a b s,a < n->b < n->th a s->pi b<=pi a+(g s b-g s a)) :
  PotInv n th g D (-(2*B*E)) (fun b=>pi b-(B:Rat)) (fun _=>0):=by
 have hB0':(0:Rat)<=(B:Rat):=Rat.intCast_nonneg.2 hB0
 refine ⟨fun a b s ha hb hs=>?_,fun b hb=>?_,fun b hb=>?_,fun b _=>⟨0,by rw [Rat.zero_mul];rfl⟩⟩
 ·have:=hp a b s ha hb hs
  grind
 ·have h1:-(2*(B:Rat))<=pi b-(B:Rat):=by have:=(hB b hb).1;grind
  have h2:=Rat.mul_le_mul_of_nonneg_right h1 (Rat.le_of_lt hD)
  have h3:=Rat.mul_le_mul_of_nonneg_left hE (c:=2*(B:Rat)) (by grind)
  have e:((-(2*B*E):Int):Rat)=-(2*(B:Rat)*(E:Rat)):=by rw [Rat.intCast_neg,Rat.intCast_mul,Rat.intCast_mul];rfl
  rw [e]
  grind
 ·have:=(hB b hb).2
  grind
theorem valL_app {t:Bool}{l:List Spn}:∀ {a b:List Rn}{p q:List Prf},a.length=p.length->valL t l (a++b) (p++q)=valL t l a p+valL t l b q
 | [],b,[],q,_=>by rw [List.nil_append,List.nil_append];exact (Rat.zero_add _).symm
 | [],_,_::_,_,h=>by simp at h
 | _::_,_,[],_,h=>by simp at h
 | r::a,b,p::ps,q,h=>by
  rw [List.cons_append,List.cons_append,valL,valL,valL_app (by simpa using h),Rat.add_assoc]
theorem Cn.rng:∀ {rs:List Rn}{f e:Int},Cn f rs e->(∀ r∈rs,OkR r)->f<=e/\∀ r∈rs,f<=r.from_/\r.to_<=e
 | [],f,e,h,_=>⟨by cases h;exact Int.le_refl _,fun r hr=>by cases hr⟩
 | r::rs,f,e,⟨h1,h2⟩,ho=>by
  obtain ⟨a,b⟩:=Cn.rng h2 fun r hr=>ho r (List.mem_cons_of_mem _ hr)
  have hr:=(ho r (List.mem_cons_self ..)).rng
  refine ⟨by omega,fun x hx=>?_⟩
  rcases List.mem_cons.1 hx with rfl|hx
  ·exact ⟨by omega,a⟩
  ·have:=b x hx;exact ⟨by omega,this.2⟩
theorem sumT_iS (r:Rn):iS (tbT r) r.tab.length=sumT r.tab:=by
 have key:∀ (T:List (Int×Int)) ,iS (fun s=>(T.getD s (0,0)).2) T.length=sumT T:=fun T=>by
  have h1:∀ k,k<=T.length->iS (fun s=>(T.getD s (0,0)).2) k=sumT (T.take k):=fun k=>by
   induction k with
   | zero=>exact fun _=>by rw [List.take_zero];rfl
   | succ k ih =>
    intro hk
    have hk':k < T.length:=by omega
    have app:∀ a b:List (Int×Int),sumT (a++b)=sumT a+sumT b:=fun a b=>by
     induction a with
     | nil=>rw [List.nil_append];exact (Int.zero_add _).symm
     | cons x a ih=>rw [List.cons_append,sumT,sumT,ih];omega
    rw [iS,ih (by omega),List.take_succ_eq_append_getElem hk',app,List.getD_eq_getElem?_getD,List.getElem?_eq_getElem hk']
    show _=_+(T[k].2+0)
    rw [Int.add_zero];rfl
  have:=h1 T.length (Nat.le_refl _)
  rwa [List.take_length] at this
 exact key r.tab
theorem sumC_iS (r:Rn) (l:List Spn):iS (clsT r l) (clsE r l).length=sumC (clsE r l):=by
 have key:∀ (T:List (Int×Int)) ,iS (fun s=>(T.getD s (-1,0)).2) T.length=sumC T:=fun T=>by
  have h1:∀ k,k<=T.length->iS (fun s=>(T.getD s (-1,0)).2) k=sumC (T.take k):=fun k=>by
   induction k with
   | zero=>exact fun _=>by rw [List.take_zero];rfl
   | succ k ih =>
    intro hk
    have hk':k < T.length:=by omega
    rw [iS,ih (by omega),List.take_succ_eq_append_getElem hk',sumC_app,List.getD_eq_getElem?_getD,List.getElem?_eq_getElem hk']
    show _=_+(T[k].2+0)
    rw [Int.add_zero];rfl
  have:=h1 T.length (Nat.le_refl _)
  rwa [List.take_length] at this
 exact key (clsE r l)
end Go.Proofs.YtjcecdmbfmccoaaGreatDoor
/-
 Plain: a first assignment: stages in order,classes in order.
-/
namespace Go.Proofs.YtjcecdmbfmccoaaGreatDoor
theorem iS_pt (f:Nat->Int) (a:Nat) (k:Int) (n:Nat):iS (fun c=>f c+if c=a then k else 0) n=iS f n+if a < n then k else 0:=by rw [iS_add,iS_one]
theorem iS_mono {f:Nat->Int} (h:∀ i,0<=f i):∀ {a b},a<=b->iS f a<=iS f b:=fun {a b} hab=>by
 induction b with
 | zero=>rw [Nat.le_zero.1 hab];exact Int.le_refl _
 | succ b ih =>
  by_cases e:a=b+1
  ·subst e;exact Int.le_refl _
  ·have:=ih (by omega)
   have:=h b
   rw [iS];omega
theorem iS_all0 {f:Nat->Int}{n:Nat} (h:∀ i,i < n->f i=0):iS f n=0:=by rw [iS_congr (g:=fun _=>0) h,iS_zero]
structure NH (S n:Nat) (row col:Nat->Int) (s a:Nat) (lf:Nat->Int) (x:Nat->Nat->Int):Prop where
 nn:∀ s c,0<=x s c
 lnn:∀ c,c < n->0<=lf c
 done:∀ t,t < s->iS (x t) n=row t
 later:∀ t c,s<=t->x t c=0
 col:∀ c,c < n->iS (fun t=>x t c) S=col c-lf c
 zero:∀ c,c < a->c < n->lf c=0
 tot:iS lf n+iS row s=iS row S
structure NI (S n:Nat) (row col:Nat->Int) (s:Nat) (m:Int) (a:Nat) (lf:Nat->Int) (x:Nat->Nat->Int):Prop where
 nn:∀ s c,0<=x s c
 lnn:∀ c,c < n->0<=lf c
 done:∀ t,t < s->iS (x t) n=row t
 cur:iS (x s) n=row s-m
 later:∀ t c,s < t->x t c=0
 col:∀ c,c < n->iS (fun t=>x t c) S=col c-lf c
 zero:∀ c,c < a->c < n->lf c=0
 tot:iS lf n+(iS row s+(row s-m))=iS row S
 mn:0<=m
section
variable {S n:Nat}{row col:Nat->Int}{s a:Nat}{m:Int}{lf:Nat->Int}{x:Nat->Nat->Int}
theorem NH.start (h:iS col n=iS row S) (hc:∀ c,c < n->0<=col c):NH S n row col 0 0 col (fun _ _=>0) :=
 ⟨fun _ _=>Int.le_refl _,hc,fun t ht=>absurd ht (Nat.not_lt_zero _),fun _ _ _=>rfl,fun c _=>by rw [iS_zero];omega,fun c hc=>absurd hc (Nat.not_lt_zero _),by rw [h];show _+0=_;omega⟩
theorem NH.inner (h:NH S n row col s a lf x) (hr:0<=row s):NI S n row col s (row s) a lf x :=
 ⟨h.nn,h.lnn,h.done,by rw [iS_all0 fun c _=>h.later s c (Nat.le_refl _)];omega,fun t c ht=>h.later t c (by omega),h.col,h.zero,by have:=h.tot;omega,hr⟩
theorem NI.next (h:NI S n row col s 0 a lf x):NH S n row col (s+1) a lf x :=
 ⟨h.nn,h.lnn,fun t ht=>by
  by_cases e:t=s
  ·subst e;have:=h.cur;omega
  ·exact h.done t (by omega),fun t c ht=>h.later t c (by omega),h.col,h.zero,by have:=h.tot;rw [iS];omega⟩
theorem NI.lt (h:NI S n row col s m a lf x) (hs:s < S) (hr:∀ t,0<=row t) (hm:0 < m):a < n:=Nat.lt_of_not_le fun hge=>by
 have h0:=iS_all0 (n:=n) fun c hc=>h.zero c (by omega) hc
 have h1:=h.tot
 have h2:=iS_mono hr (a:=s+1) (b:=S) hs
 rw [iS] at h2
 omega
theorem NI.skip (h:NI S n row col s m a lf x) (h0:lf a=0):NI S n row col s m (a+1) lf x :=
 ⟨h.nn,h.lnn,h.done,h.cur,h.later,h.col,fun c hc hn=>(Nat.lt_or_eq_of_le (Nat.le_of_lt_succ hc)).elim (fun h1=>h.zero c h1 hn) fun e=>by rw [e];exact h0,h.tot,h.mn⟩
def putX (x:Nat->Nat->Int) (s a:Nat) (k:Int):Nat->Nat->Int:=fun t c=>if t=s then x t c+(if c=a then k else 0) else x t c
def putL' (lf:Nat->Int) (a:Nat) (k:Int):Nat->Int:=fun c=>lf c+if c=a then -k else 0
theorem NI.take (h:NI S n row col s m a lf x) (hs:s < S) (ha:a < n) {k:Int} (hk:0<=k) (h1:k<=m) (h2:k<=lf a):NI S n row col s (m-k) a (putL' lf a k) (putX x s a k):=by
 have hrow:∀ t,iS (putX x s a k t) n=iS (x t) n+if t=s then k else 0:=fun t=>by
  unfold putX
  by_cases e:t=s
  ·subst e
   rw [if_pos rfl,iS_congr (g:=fun c=>x t c+if c=a then k else 0) fun c _=>by rw [if_pos rfl],iS_pt,if_pos ha]
  ·rw [if_neg e,iS_congr (g:=x t) fun c _=>by rw [if_neg e]];omega
 refine ⟨fun t c=>?_,fun c hc=>?_,fun t ht=>?_,?_,fun t c ht=>?_,fun c hc=>?_,fun c hc hn=>?_,?_,by omega⟩
 ·have:=h.nn t c
  unfold putX
  split
  ·split<;>omega
  ·exact this
 ·have:=h.lnn c hc
  unfold putL'
  by_cases e:c=a
  ·subst e;rw [if_pos rfl];omega
  ·rw [if_neg e];omega
 ·rw [hrow,if_neg (by omega),h.done t ht];omega
 ·rw [hrow,if_pos rfl,h.cur];omega
 ·unfold putX;rw [if_neg (by omega)];exact h.later t c ht
 ·have e:iS (fun t=>putX x s a k t c) S=iS (fun t=>x t c+if t=s then (if c=a then k else 0) else 0) S:=iS_congr fun t _=>by
   unfold putX
   by_cases e:t=s
   ·rw [if_pos e,if_pos e]
   ·rw [if_neg e,if_neg e];omega
  rw [e,iS_pt,if_pos hs,h.col c hc]
  unfold putL'
  split<;>omega
 ·unfold putL'
  rw [if_neg (by omega),h.zero c hc hn];rfl
 ·have e:iS (putL' lf a k) n=iS lf n+-k:=by unfold putL';rw [iS_pt,if_pos ha]
  rw [e];have:=h.tot;omega
theorem NH.feas (h:NH S n row col S a lf x):Feas S n row col x:=by
 have h0:=h.tot
 refine ⟨fun s c _ _=>h.nn s c,h.done,fun c hc=>?_⟩
 have h1:=iS_le1 h.lnn c hc
 have h2:=h.lnn c hc
 rw [h.col c hc]
 omega
end
end Go.Proofs.YtjcecdmbfmccoaaGreatDoor
/-
 Plain: the rounds of a search,pair by pair.
-/
namespace Go.Proofs.YtjcecdmbfmccoaaGreatDoor
theorem BInv.sub {m:Nat->Nat->Option Rat}{r:Nat}{P Q:Nat->Nat->Prop}{s:BF} (h:BInv m r P s) (hq:∀ a b,Q a b->P a b):BInv m r Q s:=⟨fun a b hn=>⟨(h.un a b hn).1,fun h1=>(h.un a b hn).2 (hq a b h1)⟩,h.pr,h.le,h.cy⟩
def ahead (a b:Nat) (x y:Nat):Prop:=x < a∨(x=a/\y < b)
structure RI (m:Nat->Nat->Option Rat) (n r a b:Nat) (s:BF) (ch:Option Nat):Prop where
 inv:BInv m r (ahead a b) s
 fine:ch=none->∀ x y,ahead a b x y->y < n->fineE m s.d x y
 last:∀ c,ch=some c->c < n/\s.u c=r
section
variable {m:Nat->Nat->Option Rat}{n r a b:Nat}{s:BF}{ch:Option Nat}
theorem RI.skip (h:RI m n r a b s ch) (hf:fineE m s.d a b):RI m n r a (b+1) s ch :=
 ⟨(h.inv.skip hf).sub fun x y h=>by
  rcases h with h|⟨h,h'⟩
  ·exact .inl (.inl h)
  ·by_cases e:y=b
   ·exact .inr ⟨h,e⟩
   ·exact .inl (.inr ⟨h,by omega⟩),fun hc x y h1 hy=>by
  by_cases e:x=a/\y=b
  ·rw [e.1,e.2];exact hf
  ·refine h.fine hc x y ?_ hy
   rcases h1 with h1|⟨h1,h2⟩
   ·exact .inl h1
   ·exact .inr ⟨h1,by omega⟩,h.last⟩
theorem RI.relax (h:RI m n r a b s ch) (hr:1<=r) (hb:b < n) {w:Rat} (hm:m a b=some w) (hab:a≠b) (hlt:s.d a+w < s.d b):RI m n r a (b+1) (rlxB s r a b w) (some b) :=
 ⟨(h.inv.relax hr hm hab hlt).sub fun x y h=>by
  rcases h with h|⟨h,h'⟩
  ·exact .inl (.inl h)
  ·by_cases e:y=b
   ·exact .inr ⟨h,e⟩
   ·exact .inl (.inr ⟨h,by omega⟩),fun hc=>by (cases hc),fun c hc=>by
  cases hc
  exact ⟨hb,if_pos rfl⟩⟩
theorem RI.row (h:RI m n r a n s ch) (hm:∀ x y,(m x y).isSome=true->x < n/\y < n):RI m n r (a+1) 0 s ch :=
 ⟨⟨fun x y hn=>⟨(h.inv.un x y hn).1,fun h1=>by
  refine (h.inv.un x y hn).2 ?_
  have hy:y < n:=by
   refine Classical.byContradiction fun hy=>hn fun w hw=>?_
   have:=hm x y (by rw [hw];rfl)
   omega
  rcases h1 with h1|⟨_,h1⟩
  ·by_cases e:x=a
   ·exact .inr ⟨e,hy⟩
   ·exact .inl (by omega)
  ·exact absurd h1 (Nat.not_lt_zero _)⟩,h.inv.pr,h.inv.le,h.inv.cy⟩,fun hc x y h1 hy=>by
  refine h.fine hc x y ?_ hy
  rcases h1 with h1|⟨_,h1⟩
  ·by_cases e:x=a
   ·exact .inr ⟨e,hy⟩
   ·exact .inl (by omega)
  ·exact absurd h1 (Nat.not_lt_zero _),h.last⟩
theorem RI.start (h:BInv m r (fun _ _=>False) s):RI m n r 0 0 s none :=
 ⟨h.sub fun x y h=>by (rcases h with h|⟨_,h⟩<;>exact absurd h (Nat.not_lt_zero _)),fun _ x y h=>by (rcases h with h|⟨_,h⟩<;>exact absurd h (Nat.not_lt_zero _)),fun c hc=>by (cases hc)⟩
theorem RI.again (h:RI m n r n 0 s ch) (hm:∀ x y,(m x y).isSome=true->x < n/\y < n):BInv m (r+1) (fun _ _=>False) s:=h.inv.round (n:=n) fun a b hs=>.inl (hm a b hs).1
theorem RI.stop (h:RI m n r n 0 s none):∀ a b,a < n->b < n->fineE m s.d a b:=fun a b ha hb=>h.fine rfl a b (.inl ha) hb
end
def mvV (q:Option (Nat×Rat)):Int×Rat:=match q with
 | none=>(-1,0)
 | some q=>(q.1,q.2)
theorem mE_lt {S n:Nat}{x:Nat->Nat->Int}{g:Nat->Nat->Rat}:∀ a b,(mE S n x g a b).isSome=true->a < n/\b < n:=fun a b h=>by
 cases e:mE S n x g a b with
 | none=>rw [e] at h;cases h
 | some r=>exact ⟨(mE_some e).1,(mE_some e).2.1⟩
end Go.Proofs.YtjcecdmbfmccoaaGreatDoor
