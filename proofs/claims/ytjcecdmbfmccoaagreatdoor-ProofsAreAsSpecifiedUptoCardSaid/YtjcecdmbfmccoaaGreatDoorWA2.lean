/-
  More operations: a slice of a slice; append; slices of the call's own.
-/
import Derived.Test.YtjcecdmbfmccoaaGreatDoorWA1
import Derived.Maps.AppendAt
import Derived.OwnWalk
import Derived.Laws.MakeOwn
import Derived.Great.BuildSlice
import Derived.RangeFuncRecord
import Derived.ProofKit
import Derived.OpenShut
import Derived.ShutString
import Derived.ChangeOld
import Derived.Below
import Derived.Carry
import Derived.Laws.IdiomStrings
import Derived.Laws.Concat
import Derived.Laws.Strings3
set_option linter.unusedVariables false
set_option linter.unusedSimpArgs false
set_option linter.unusedSectionVars false
namespace Go.Sl
open Go.RowKit
variable {C:Ctx}{st:List (Nat×Value)}{M:List Row}{k:List Item}{q q':Md}{all rest:List Oper}{d:Nat}{ty:TypeId}{pos:String}{after:Array Edge}{gd:Option (Nat×Bool)}
def oZ (a:Option Addr) (c l sz:Nat):Option Addr:=if c=l then a else a.map (·.add (l*sz))
theorem iU {P:Program}{w:World}{ki:IntKind}{e:Int}{n y:Nat}{code:BoundsCode} (he:e=(n:Int)) (hn:n<=y):(Instr.sliceBound (.int ki e) y code).run P w=.ok n w:=by
 subst he;have h0:(0:Int)<=(n:Int)/\(n:Int)<=(y:Int):=by omega
 simp only [Instr.sliceBound,asIntOf,Sem.run_bind,Sem.run_pure,Result.andThen_ok];rw [if_pos h0];rfl
theorem OpV.slice {T E sz:Nat} [hT:bN C.P T E sz] {x lo hi:Operand}{a:Option Addr}{n c:Nat}{k1 k2:IntKind}{l h:Nat}{e1 e2:Int} (hx:evS st x=some (.slice a n c)) (hlo:evS st lo=some (.int k1 e1)) (hhi:evS st hi=some (.int k2 e2)) (he1:e1=(l:Int)) (he2:e2=(h:Int)) (h1:l<=h) (h2:h<=c) :
  OpV C st M (.slice T x (some lo) (some hi) none) ty (.slice (oZ a c l sz) (h-l) (c-l)) :=
 OpV.of fun ac w hf _ dst pos after guard=>by
  have hu:∀ w,(underlying T).run C.P w=.ok (.slice E) w:=fun w=>by simp [underlying,hT.h1]
  simp only [execOp,hf.eval hx,Option.map_some,hf.eval hlo,hf.eval hhi,Option.map_none,Instr.sliceAt,Instr.slice,Instr.sliceBounds,Sem.run_bind,Sem.run_pure,Result.andThen_ok,hu,iU he2 h2,iU he1 h1,hT.h2];rfl
theorem OpV.sliceTo {T E sz:Nat} [hT:bN C.P T E sz] {x hi:Operand}{a:Option Addr}{n c:Nat}{k2:IntKind}{h:Nat}{e2:Int} (hx:evS st x=some (.slice a n c)) (hhi:evS st hi=some (.int k2 e2)) (he2:e2=(h:Int)) (h2:h<=c) :
  OpV C st M (.slice T x none (some hi) none) ty (.slice (oZ a c 0 sz) h c) :=
 OpV.of fun ac w hf _ dst pos after guard=>by
  have hu:∀ w,(underlying T).run C.P w=.ok (.slice E) w:=fun w=>by simp [underlying,hT.h1]
  simp only [execOp,hf.eval hx,Option.map_some,hf.eval hhi,Option.map_none,Instr.sliceAt,Instr.slice,Instr.sliceBounds,Sem.run_bind,Sem.run_pure,Result.andThen_ok,hu,iU he2 h2,hT.h2];rfl
theorem OpV.sliceFrom {T E sz:Nat} [hT:bN C.P T E sz] {x lo:Operand}{a:Option Addr}{n c:Nat}{k1:IntKind}{l:Nat}{e1:Int} (hx:evS st x=some (.slice a n c)) (hlo:evS st lo=some (.int k1 e1)) (he1:e1=(l:Int)) (h1:l<=n) :
  OpV C st M (.slice T x (some lo) none none) ty (.slice (oZ a c l sz) (n-l) (c-l)) :=
 OpV.of fun ac w hf _ dst pos after guard=>by
  have hu:∀ w,(underlying T).run C.P w=.ok (.slice E) w:=fun w=>by simp [underlying,hT.h1]
  simp only [execOp,hf.eval hx,Option.map_some,hf.eval hlo,Option.map_none,Instr.sliceAt,Instr.slice,Instr.sliceBounds,Sem.run_bind,Sem.run_pure,Result.andThen_ok,hu,iU he1 h1,hT.h2];rfl
theorem G.slice {T E sz:Nat}{x lo hi:Operand}{a:Option Addr}{n c:Nat}{k1 k2:IntKind}{l h:Nat}{e1 e2:Int} (hx:evS st x=some (.slice a n c)) (hlo:evS st lo=some (.int k1 e1)) (hhi:evS st hi=some (.int k2 e2)) (he1:e1=(l:Int)) (he2:e2=(h:Int)) (h1:l<=h) (h2:h<=c) [hT:bN C.P T E sz] (hg:wnB all st gd=true) (hd:Nat.blt d C.N=true) (hq:q.calm=some q') (hh:G q' C all ((d,.slice (oZ a c l sz) (h-l) (c-l))::st) M rest k) :
  G q C all st M ({ dst:=some d,op:=.slice T x (some lo) (some hi) none,type:=ty,pos,after,guard:=gd }::rest) k:=G.op (OpV.slice hx hlo hhi he1 he2 h1 h2) hg rfl hd hq hh
theorem G.sliceTo {T E sz:Nat}{x hi:Operand}{a:Option Addr}{n c:Nat}{k2:IntKind}{h:Nat}{e2:Int} (hx:evS st x=some (.slice a n c)) (hhi:evS st hi=some (.int k2 e2)) (he2:e2=(h:Int)) (h2:h<=c) [hT:bN C.P T E sz] (hg:wnB all st gd=true) (hd:Nat.blt d C.N=true) (hq:q.calm=some q') (hh:G q' C all ((d,.slice (oZ a c 0 sz) h c)::st) M rest k) :
  G q C all st M ({ dst:=some d,op:=.slice T x none (some hi) none,type:=ty,pos,after,guard:=gd }::rest) k:=G.op (OpV.sliceTo hx hhi he2 h2) hg rfl hd hq hh
theorem G.sliceFrom {T E sz:Nat}{x lo:Operand}{a:Option Addr}{n c:Nat}{k1:IntKind}{l:Nat}{e1:Int} (hx:evS st x=some (.slice a n c)) (hlo:evS st lo=some (.int k1 e1)) (he1:e1=(l:Int)) (h1:l<=n) [hT:bN C.P T E sz] (hg:wnB all st gd=true) (hd:Nat.blt d C.N=true) (hq:q.calm=some q') (hh:G q' C all ((d,.slice (oZ a c l sz) (n-l) (c-l))::st) M rest k) :
  G q C all st M ({ dst:=some d,op:=.slice T x (some lo) none none,type:=ty,pos,after,guard:=gd }::rest) k:=G.op (OpV.sliceFrom hx hlo he1 h1) hg rfl hd hq hh
class cZ (P:Program) (T:TypeId) (E:outParam Nat) (z:outParam Value) (size bytes:outParam Nat):Prop where
 h1:P.underlying T=some (.slice E)
 h2:(P.info? E).map (fun i=>(i.zero,i.size,i.bytes))=some (some z,size,bytes)
 h3:z.cells.size=size
 h4:0 < size
structure cB (C:Ctx) (M:List Row) (a:Option Addr) (m sz:Nat) (news:List Value):Prop where
 len:news.length=m*sz
 one:news.all (·.oneCell')=true
 nil:a=none->m=0
 go:∀ ad,a=some ad->∀ w,Sat C.w0 M w->∀ j u,news[j]?=some u->w.cell? (ad.add j)=some u
theorem nW {w:World}{base b':Nat}{e:TypeId}{size:Nat}{v:Value}{n:Nat}{xs:List Value} (h:w.ownsRow base e size v n xs) (hb:∀ b,v.ownBlock=some b->b'<=b):w.ownsRow b' e size v n xs:=by
 obtain ⟨h1,h2⟩:=h;refine ⟨h1,?_⟩;rcases h2 with h2|⟨g,cap,cur,hv,hg,r⟩
 ·exact .inl h2
 ·exact .inr ⟨g,cap,cur,hv,hb g (by rw [hv];rfl),r⟩
theorem lG {T ty' E bytes size n m c i base:Nat}{z v:Value}{x y:Operand}{a:Option Addr}{xs news:List Value}{dst:Option Tmp}{ac:Act}{w:World} (hf:fF C.N st ac) (hw:Sat C.w0 M w)
  (hx:evS st x=some v) (hm:M[i]?=some (.own base v E size n xs)) (hy:evS st y=some (.slice a m c)) [hT:cZ C.P T E z size bytes] (hs:cB C M a m size news) (hb:(n+m)*bytes<=140737488355328) (hnm:n+m<=9223372036854775807) :
  ∃ v' w',(execOp ac.eval { dst,op:=.call { callee:=.builtin .append,args:=#[x,y],argTypes:=#[T,T] },type:=ty',pos,after,guard:=gd }).run C.P w=.ok (.value v') w'/\Sat C.w0 (M.set i (.own 0 v' E size (n+m) (xs++news))) w':=by
 obtain ⟨inf,hi,hz,hsize,hby⟩:=info_parts hT.h2;have hmem:=List.mem_of_getElem? hm;have hown:w.ownsRow base E size v n xs:=hw.hold _ hmem;have hlt:i < M.length:=(List.getElem?_eq_some_iff.1 hm).1;have hsup:=(hw.old _ hmem).2;cases a with
 | none =>
  have h0:=hs.nil rfl;subst h0;have hn0:news=[]:=List.length_eq_zero_iff.1 (by rw [hs.len];omega)
  subst hn0;refine ⟨v,w,?_,?_⟩
  ·obtain ⟨hl,hv⟩:=hown
   rcases hv with ⟨rfl,rfl⟩|⟨g,cap,cur,rfl,hg0,hgg,h1,h2,h3,h4⟩
   ·simp [execOp,resolve,hf.eval hx,hf.eval hy,invoke,builtin,Builtin.append_,run_underlying hT.h1,sizeOf,typeInfo,hi,Builtin.lenOf,Builtin.firstCells]
   ·simp [execOp,resolve,hf.eval hx,hf.eval hy,invoke,builtin,Builtin.append_,run_underlying hT.h1,sizeOf,typeInfo,hi,Builtin.lenOf,Builtin.firstCells,h1,storeCells]
  ·refine hw.change hm rfl rfl rfl (Nat.le_refl _) (fun _ _ _=>rfl) ?_ (Nat.zero_le _) fun b hb'=>⟨.inl hb',(hsup b hb').2⟩
   rw [Nat.add_zero,List.append_nil];exact nW hown fun b _=>Nat.zero_le _
 | some ad =>
  obtain ⟨v',w',h1,h2,h3,_,h5⟩:=run_append_own_at (P:=C.P) w 0 T ty' E inf z size bytes hT.h1 hi hz hsize hby hT.h3 hT.h4 v n xs (nW hown fun b _=>Nat.zero_le _) ad m c news hs.len (hs.go ad rfl w hw) (fun u hu=>List.all_eq_true.1 hs.one u hu) (by simpa [maxLen] using hnm) hb (Nat.zero_le _)
  refine ⟨v',w',?_,?_⟩
  ·simp [execOp,resolve,hf.eval hx,hf.eval hy,invoke,builtin,h1]
  ·refine hw.change hm h3.os h3.tape h3.output h3.size (fun k hk hk'=>h3.block k hk fun e=>hk' e.symm) h2 (Nat.zero_le _) fun b hb'=>?_
   have hlt':=(h2.lt b hb').2;rcases h5 with h5|h5
   ·exact ⟨.inl (show v.ownBlock=some b by rw [<- h5];exact hb'),hlt'⟩
   ·have:w.heap.size=b:=by have:=h5.symm.trans hb';simpa using this
    exact ⟨.inr om,hlt'⟩
theorem G.append {T ty' E bytes size n m c i base:Nat}{z v:Value}{x y:Operand}{a:Option Addr}{xs news:List Value} (hg:wnB all st gd=true) (hd:Nat.blt d C.N=true) (hq:q.res=some q')
  (hx:evS st x=some v) (hm:M[i]?=some (.own base v E size n xs)) (hy:evS st y=some (.slice a m c)) [hT:cZ C.P T E z size bytes] (hs:cB C M a m size news) (hb:(n+m)*bytes<=140737488355328) (hnm:n+m<=9223372036854775807)
  (h:∀ v',G q' C all ((d,v')::st) (M.set i (.own 0 v' E size (n+m) (xs++news))) rest k) :
  G q C all st M ({ dst:=some d,op:=.call { callee:=.builtin .append,args:=#[x,y],argTypes:=#[T,T] },type:=ty',pos,after,guard:=gd }::rest) k:=by
 refine G.res hg rfl hq (Eff.val hd fun ac w hf hw=>?_)
 obtain ⟨v',w',h1,h2⟩:=lG (T:=T) (dst:=some d) (ty':=ty') (pos:=pos) (after:=after) (gd:=gd) hf hw hx hm hy hs hb hnm;exact ⟨v',w',_,h1,h2,h v'⟩
theorem Sat.opn {w0 w:World}{i base E size n:Nat}{v:Value}{xs:List Value} (hw:Sat w0 M w) (hm:M[i]?=some (.own base v E size n xs)) (hn:0 < n) :
  ∃ g cap,n<=cap/\v=.slice (some ⟨g,0,none⟩) n cap/\Sat w0 (M.set i (.blk g E xs (cap*size))) w:=by
 have hmem:=List.mem_of_getElem? hm;have hown:w.ownsRow base E size v n xs:=hw.hold _ hmem;obtain ⟨hl,hv⟩:=hown;rcases hv with ⟨_,rfl⟩|⟨g,cap,cur,hv,hg0,hgg,h1,h2,h3,h4⟩
 ·omega
 have hsup:=(hw.old _ hmem).2;refine ⟨g,cap,h1,hv,hw.change hm rfl rfl rfl (Nat.le_refl _) (fun _ _ _=>rfl) ⟨cur.toList.drop (n*size),?_,?_⟩ (Nat.zero_le _) fun b hb=>?_⟩
 ·rw [<- h4,List.take_append_drop];exact hgg
 ·rw [hl];simp only [List.length_drop,Array.length_toList,h3]
  have:=Nat.mul_le_mul_right size h1;omega
 ·have hb':b=g:=hb
  subst hb'
  have:(Row.own base v E size n xs).sup b:=by rw [hv];rfl
  exact ⟨.inl this,(hsup b this).2⟩
theorem G.Q4 {T ty' E bytes size n m c i base:Nat}{z v:Value}{x y:Operand}{a:Option Addr}{xs news:List Value} (hg:wnB all st gd=true) (hd:Nat.blt d C.N=true) (hq:q.res=some q')
  (hx:evS st x=some v) (hm:M[i]?=some (.own base v E size n xs)) (hy:evS st y=some (.slice a m c)) [hT:cZ C.P T E z size bytes] (hs:cB C M a m size news) (hb:(n+m)*bytes<=140737488355328) (hnm:n+m<=9223372036854775807) (h0:0 < n+m)
  (h:∀ g cap,n+m<=cap->G q' C all ((d,.slice (some ⟨g,0,none⟩) (n+m) cap)::st) (M.set i (.blk g E (xs++news) (cap*size))) rest k) :
  G q C all st M ({ dst:=some d,op:=.call { callee:=.builtin .append,args:=#[x,y],argTypes:=#[T,T] },type:=ty',pos,after,guard:=gd }::rest) k:=by
 refine G.res hg rfl hq (Eff.val hd fun ac w hf hw=>?_)
 obtain ⟨v',w',h1,h2⟩:=lG (T:=T) (dst:=some d) (ty':=ty') (pos:=pos) (after:=after) (gd:=gd) hf hw hx hm hy hs hb hnm;have hlt:i < M.length:=(List.getElem?_eq_some_iff.1 hm).1;obtain ⟨g,cap,h3,rfl,h4⟩:=h2.opn (List.getElem?_set_self hlt) h0;rw [List.set_set] at h4;exact ⟨_,w',_,h1,h4,h g cap h3⟩
theorem J.nilOwn {E size:Nat}{k:List Item} (h:J C st (.own 0 (.slice none 0 0) E size 0 []::M) k):J C st M k:=.mk fun a w hf hd hw =>
 h.go a w hf hd (hw.new (Below.refl _ _) ⟨by simp,.inl ⟨rfl,rfl⟩⟩ (Nat.zero_le _) fun b hb=>by simp [Row.sup,Value.ownBlock] at hb)
theorem J.open {i base E size n:Nat}{v:Value}{xs:List Value}{k:List Item} (hm:M[i]?=some (.own base v E size n xs)) (hn:0 < n)
  (h:∀ g cap,n<=cap->v=.slice (some ⟨g,0,none⟩) n cap->J C st (M.set i (.blk g E xs (cap*size))) k):J C st M k:=.mk fun a w hf hd hw=>by
 have hmem:=List.mem_of_getElem? hm;have hown:w.ownsRow base E size v n xs:=hw.hold _ hmem;obtain ⟨hl,hv⟩:=hown;rcases hv with ⟨_,rfl⟩|⟨g,cap,cur,hv,hg0,hgg,h1,h2,h3,h4⟩
 ·omega
 have hsup:=(hw.old _ hmem).2;refine (h g cap h1 hv).go a w hf hd (hw.change hm rfl rfl rfl (Nat.le_refl _) (fun _ _ _=>rfl) ⟨cur.toList.drop (n*size),?_,?_⟩ (Nat.zero_le _) fun b hb=>?_)
 ·rw [<- h4,List.take_append_drop];exact hgg
 ·rw [hl];simp only [List.length_drop,Array.length_toList,h3]
  have:=Nat.mul_le_mul_right size h1;omega
 ·have hb':b=g:=hb
  subst hb'
  have:(Row.own base v E size n xs).sup b:=by rw [hv];rfl
  exact ⟨.inl this,(hsup b this).2⟩
def flat {A:Type} (f:A->List Value) (l:List A):List Value:=(l.map f).flatten
theorem aO {A:Type}{f:A->List Value}{sz:Nat} (hf:∀ x,(f x).length=sz):∀ l:List A,(flat f l).length=l.length*sz
 | []=>by simp [flat]
 | x::r=>by
  have:=aO hf r;simp only [flat,List.map_cons,List.flatten_cons,List.length_append,List.length_cons,hf] at this ⊢;rw [this,Nat.add_mul];omega
theorem fA {A:Type} (f:A->List Value) (x:A) (r:List A):flat f (x::r)=f x++flat f r:=by simp [flat]
theorem jU {A:Type} (f:A->List Value) (l m:List A):flat f (l++m)=flat f l++flat f m:=by simp [flat]
theorem gC {A:Type}{f:A->List Value}{sz:Nat} (hf:∀ x,(f x).length=sz):∀ {l:List A}{i:Nat} (h:i < l.length) {j:Nat},j < sz->(flat f l)[i*sz+j]?=(f l[i])[j]?
 | x::r,0,h,j,hj=>by
  rw [fA,List.getElem?_append_left (by rw [hf];omega)];simp
 | x::r,i+1,h,j,hj=>by
  rw [fA,List.getElem?_append_right (by rw [hf,Nat.add_mul];omega)]
  have:=gC hf (l:=r) (i:=i) (by simpa using h) hj
  rw [hf,show (i+1)*sz+j-sz=i*sz+j by rw [Nat.add_mul];omega,this];simp
theorem vV {A:Type}{f:A->List Value}{sz:Nat} (hf:∀ x,(f x).length=sz) {l:List A}{j:Nat}{u:Value} (h:(flat f l)[j]?=some u):∃ (h0:0 < sz) (hi:j / sz < l.length),(f l[j / sz])[j % sz]?=some u:=by
 have hlt:j < l.length*sz:=by rw [<- aO hf l];exact (List.getElem?_eq_some_iff.1 h).1
 have h0:0 < sz:=Nat.pos_of_ne_zero fun e=>by subst e;simp at hlt
 have hi:j / sz < l.length:=Nat.div_lt_of_lt_mul (by rwa [Nat.mul_comm])
 refine ⟨h0,hi,?_⟩;rw [<- gC hf hi (Nat.mod_lt j h0),Nat.div_add_mod' j sz,h]
theorem pJ {A:Type}{f:A->List Value}{sz:Nat} (hf:∀ x,(f x).length=sz) {l:List A}{i:Nat} (h:i < l.length) (y:A):dU (flat f l) (i*sz) (f y)=flat f (l.set i y):=by
 have hb:i*sz+sz<=l.length*sz:=by
  have:=Nat.mul_le_mul_right sz (show i+1<=l.length by omega)
  rwa [Nat.add_mul,Nat.one_mul] at this
 rw [rD _ _ _ (by rw [hf,aO hf];exact hb)]
 apply List.ext_getElem?;intro j;have hl1:(List.take (i*sz) (flat f l)).length=i*sz:=by rw [List.length_take,aO hf];omega
 rcases Nat.lt_or_ge j (i*sz) with h1|h1
 ·rw [List.getElem?_append_left (by rw [List.length_append,hl1];omega),List.getElem?_append_left (by rw [hl1];exact h1),List.getElem?_take,if_pos h1]
  have h0:0 < sz:=Nat.pos_of_ne_zero fun e=>by subst e;simp at h1
  have hj:j / sz < i:=Nat.div_lt_of_lt_mul (by rwa [Nat.mul_comm])
  have e1:=gC hf (l:=l) (i:=j / sz) om (Nat.mod_lt j h0);have e2:=gC hf (l:=l.set i y) (i:=j / sz) (by simp;omega) (Nat.mod_lt j h0)
  rw [Nat.div_add_mod' j sz] at e1 e2;rw [e1,e2,List.getElem_set_ne om]
 ·rcases Nat.lt_or_ge j (i*sz+sz) with h2|h2
  ·rw [List.getElem?_append_left (by rw [List.length_append,hl1,hf];omega),List.getElem?_append_right (by rw [hl1];exact h1),hl1]
   have e2:=gC hf (l:=l.set i y) (i:=i) (by simpa using h) (j:=j-i*sz) om
   rw [show i*sz+(j-i*sz)=j by omega] at e2
   rw [e2,List.getElem_set_self]
  ·rw [List.getElem?_append_right (by rw [List.length_append,hl1,hf];exact h2),List.length_append,hl1,hf,List.getElem?_drop,show i*sz+sz+(j-(i*sz+sz))=j by omega]
   rcases Nat.eq_zero_or_pos sz with h0|h0
   ·subst h0
    have e1:flat f l=[]:=List.length_eq_zero_iff.1 (by rw [aO hf];simp)
    have e2:flat f (l.set i y)=[]:=List.length_eq_zero_iff.1 (by rw [aO hf];simp)
    rw [e1,e2]
   rcases Nat.lt_or_ge (j / sz) l.length with h3|h3
   ·have hj:i < j / sz:=(Nat.le_div_iff_mul_le h0).2 (by rw [Nat.succ_mul];omega)
    have e1:=gC hf (l:=l) (i:=j / sz) h3 (Nat.mod_lt j h0);have e2:=gC hf (l:=l.set i y) (i:=j / sz) (by simpa using h3) (Nat.mod_lt j h0)
    rw [Nat.div_add_mod' j sz] at e1 e2;rw [e1,e2,List.getElem_set_ne om]
   ·have hj:l.length*sz<=j:=by
     have:=(Nat.le_div_iff_mul_le h0).1 h3;exact this
    rw [List.getElem?_eq_none (by rw [aO hf];exact hj),List.getElem?_eq_none (by rw [aO hf,List.length_set];exact hj)]
theorem cB.old {A:Type}{f:A->List Value}{sz:Nat}{l:List A}{a:Option Addr} (hf:∀ x,(f x).length=sz) (h1:∀ x,(f x).all (·.oneCell')=true) (h:aE C.w0 a sz (l.map f)):cB C M a l.length sz (flat f l) where
 len:=aO hf l
 one:=by
  rw [List.all_eq_true];intro v hv;obtain ⟨r,hr,hv⟩:=List.mem_flatten.1 hv;obtain ⟨x,_,rfl⟩:=List.mem_map.1 hr;exact List.all_eq_true.1 (h1 x) v hv
 nil:=fun ha=>by
  rcases Nat.eq_zero_or_pos l.length with h0|h0
  ·exact h0
  ·obtain ⟨b,off,hb,_⟩:=h (by simpa using h0)
   rw [ha] at hb;cases hb
 go:=fun ad ha w hw j u hj=>by
  obtain ⟨h0,hi,hu⟩:=vV hf hj;obtain ⟨b,off,hb,hr⟩:=h.at _ hi;rw [ha] at hb;cases hb;rw [dS,dV];have hc:=hr.2 _ _ hu;rw [show off+j / sz*sz+j % sz=off+j by rw [Nat.add_assoc,Nat.div_add_mod' j sz]] at hc
  exact hw.cellOld hc hr.1
theorem cB.blk {b:Nat}{e:TypeId}{cs:List Value}{tot m sz:Nat} (hm:Row.blk b e cs tot∈M) (hl:cs.length=m*sz) (h1:cs.all (·.oneCell')=true):cB C M (some ⟨b,0,none⟩) m sz cs where
 len:=hl
 one:=h1
 nil:=fun ha=>by cases ha
 go:=fun ad ha w hw j u hj=>by
  cases ha;rw [dS,dV,Nat.zero_add];exact hw.cellBlk hm hj
theorem aE.P5 {A:Type}{f:A->List Value}{sz:Nat}{l:List A}{w0 w:World}{b:Nat}{e:TypeId}{tot:Nat} (hf:∀ x,(f x).length=sz) (hw:Sat w0 M w) (hm:Row.blk b e (flat f l) tot∈M):aE w (some ⟨b,0,none⟩) sz (l.map f):=fun _ =>
 ⟨b,0,rfl,fun i cs hi=>⟨((hw.old _ hm).2 b rfl).2,fun j v hv=>by
  have hlt:i < l.length:=by simpa using (List.getElem?_eq_some_iff.1 hi).1
  have hcs:f l[i]=cs:=by
   rw [List.getElem?_map,gE hlt] at hi;simpa using hi
  subst hcs;have hj:j < sz:=by rw [<- hf l[i]];exact (List.getElem?_eq_some_iff.1 hv).1
  rw [Nat.zero_add];exact hw.cellBlk hm (by rw [gC hf hlt hj];exact hv)⟩⟩
def zs {A:Type} (z:A) (n:Nat):List A:=List.replicate n z
theorem lH {z:Array Value}{sz:Nat} (hz:z.size=sz) (h0:0 < sz) (n:Nat):(madeCells z (n*sz)).toList=flat (fun x:List Value=>x) (List.replicate n z.toList):=by
 have hf:∀ x∈List.replicate n z.toList,x.length=sz:=fun x hx=>by rw [(List.mem_replicate.1 hx).2];simpa using hz
 apply List.ext_getElem?;intro j;have hlen:(flat (fun x:List Value=>x) (List.replicate n z.toList)).length=n*sz:=by
  clear hf;induction n with
  | zero=>simp [flat]
  | succ n ih=>rw [List.replicate_succ,fA,List.length_append,ih,Nat.succ_mul,Array.length_toList,hz];omega
 rcases Nat.lt_or_ge j (n*sz) with h|h
 ·have key:∀ n j,j < n*sz->(flat (fun x:List Value=>x) (List.replicate n z.toList))[j]?=z.toList[j % sz]?:=by
   intro n
   induction n with
   | zero=>intro j h;simp at h
   | succ n ih =>
    intro j h;rw [List.replicate_succ,fA];rcases Nat.lt_or_ge j sz with h1|h1
    ·rw [List.getElem?_append_left (by simpa [hz] using h1),Nat.mod_eq_of_lt h1]
    ·rw [List.getElem?_append_right (by simpa [hz] using h1),ih _ (by rw [Nat.succ_mul] at h;simp [hz];omega),Array.length_toList,hz,Nat.mod_eq_sub_mod h1]
  rw [key n j h];have hm:=Nat.mod_lt j h0;simp only [madeCells,Array.toList_map,Array.toList_range,List.getElem?_map,List.getElem?_range h,Option.map_some];rw [hz,gE (by simpa [hz] using hm)]
  congr 1
  rw [getElem!_pos z (j % sz) om];simp
 ·rw [List.getElem?_eq_none (by simp [size_madeCells];omega),List.getElem?_eq_none (by rw [hlen];exact h)]
theorem G.PD {T E bytes size n:Nat}{z:Value}{x y:Operand}{k1 k2:IntKind}{e1 e2:Int} (zc:List Value) (hg:wnB all st gd=true) (hd:Nat.blt d C.N=true) (hq:q.ext=some q')
  (hx:evS st x=some (.int k1 e1)) (hy:evS st y=some (.int k2 e2)) (he1:e1=(n:Int)) (he2:e2=(n:Int)) [hT:cZ C.P T E z size bytes] (hz:z.cells=zc.toArray) (hb:bytes*n<=281474976710656) (hn:n<=9223372036854775807)
  (h:∀ B,G q' C all ((d,.slice (some ⟨B,0,none⟩) n n)::st) (.blk B E (flat (fun x:List Value=>x) (List.replicate n zc)) (n*size)::M) rest k) :
  G q C all st M ({ dst:=some d,op:=.makeSlice T x y,type:=ty,pos,after,guard:=gd }::rest) k:=by
 refine G.ext hg rfl hq (Eff.val hd fun a w hf hw=>?_)
 obtain ⟨inf,hi,hzz,hsize,hby⟩:=info_parts hT.h2;subst he1;subst he2;have hb':(inf.bytes:Int)*(n:Int)<=281474976710656:=by
  have h:((inf.bytes*n:Nat):Int)<=281474976710656:=by rw [hby];omega
  rwa [Int.natCast_mul] at h
 have hr:=run_make (P:=C.P) w T E inf z hT.h1 hi hzz k1 k2 n n om (Int.le_refl _) hb' om;rw [Int.toNat_natCast,hsize] at hr;have hm:=lH (z:=z.cells) hT.h3 hT.h4 n;have hc:madeCells z.cells (n*size)=(flat (fun x:List Value=>x) (List.replicate n zc)).toArray:=by
  rw [<- Array.toArray_toList (xs:=madeCells z.cells (n*size)),hm,hz]
 rw [hc] at hr;have hlen:(flat (fun x:List Value=>x) (List.replicate n zc)).length=n*size:=by
  have:=congrArg Array.size hc;rw [size_madeCells] at this;simpa using this.symm
 refine ⟨.slice (some ⟨w.heap.size,0,none⟩) n n,w.alloc (.cells (flat (fun x:List Value=>x) (List.replicate n zc)).toArray E),_,?_,?_,List.sublist_cons_self _ _,h w.heap.size⟩
 ·simp only [execOp,hf.eval hx,hf.eval hy,Sem.run_bind,hr,Result.andThen_ok];rfl
 ·rw [<- hlen];exact hw.alloc E _
theorem G.QA {T E bytes size:Nat}{z:Value} (hg:wnB all st gd=true) (hd:Nat.blt d C.N=true) (hq:q.ext=some q') [hT:cZ C.P T E z size bytes]
  (h:∀ B,G q' C all ((d,.slice (some ⟨B,0,none⟩) 0 0)::st) (.own 0 (.slice (some ⟨B,0,none⟩) 0 0) E size 0 []::M) rest k) :
  G q C all st M ({ dst:=some d,op:=.buildSlice T 0 #[],type:=ty,pos,after,guard:=gd }::rest) k:=by
 refine G.ext hg rfl hq (Eff.val hd fun a w hf hw=>?_)
 obtain ⟨inf,hi,hzz,hsize,hby⟩:=info_parts hT.h2;have hw':=hw.alloc E [];refine ⟨.slice (some ⟨w.heap.size,0,none⟩) 0 0,w.alloc (.cells #[] E),.own 0 (.slice (some ⟨w.heap.size,0,none⟩) 0 0) E size 0 []::M,?_,?_,List.sublist_cons_self _ _,h w.heap.size⟩
 ·have e0:(Array.range 0).map (fun _:Nat=>(default:Value))=#[]:=by simp [Array.range_zero']
  simp [execOp,Instr.buildSlice,run_underlying hT.h1,sizeOf,typeInfo,hi,Instr.fill,newRow,e0]
 ·have h2:=hw'.change (i:=0) (r:=.blk w.heap.size E [] 0) (r':=.own 0 (.slice (some ⟨w.heap.size,0,none⟩) 0 0) E size 0 []) rfl rfl rfl rfl (Nat.le_refl _) (fun _ _ _=>rfl) ?_ (Nat.zero_le _) fun b hb=>?_
  ·exact h2
  ·exact ⟨by simp,.inr ⟨w.heap.size,0,#[],rfl,Nat.zero_le _,heap_alloc_new w _,Nat.le_refl _,Nat.zero_le _,by simp,by simp⟩⟩
  ·have hb':w.heap.size=b:=by simpa [Row.sup,Value.ownBlock] using hb
   subst hb';exact ⟨.inl rfl,(Array.getElem?_eq_some_iff.1 (heap_alloc_new w (.cells #[] E))).1⟩
theorem G.Q9 {T E bytes size n:Nat}{z:Value}{parts:List (Nat×Operand)}{vs:List (Nat×Value)}{zc out:List Value} (hg:wnB all st gd=true) (hd:Nat.blt d C.N=true) (hq:q.ext=some q') (hp:Sl.evP st parts=some vs) [hT:cZ C.P T E z size bytes]
  (hz:(madeCells z.cells (n*size)).toList=zc) (hs:Nat.ble (n*size) 16777216=true) (h0:Nat.blt 0 n=true) (ho:uA ((List.range n).map fun i=>(i*size,size)) zc vs=some out)
  (h:∀ B,G q' C all ((d,.slice (some ⟨B,0,none⟩) n n)::st) (.blk B E out out.length::M) rest k) :
  G q C all st M ({ dst:=some d,op:=.buildSlice T n parts.toArray,type:=ty,pos,after,guard:=gd }::rest) k:=by
 refine G.ext hg rfl hq (Eff.val hd fun a w hf hw=>⟨_,_,_,?_,hw.alloc E out,List.sublist_cons_self _ _,h w.heap.size⟩)
 obtain ⟨inf,hi,hzz,hsize,hby⟩:=info_parts hT.h2;have hfill:Instr.fill (fun i=>some (i*size,size)) zc.toArray vs=some out.toArray:=by
  refine sW vs _ _ (fun i x hx=>?_) (CI _ vs zc out ho)
  rw [List.getElem?_map] at hx;rcases Nat.lt_or_ge i n with h1|h1
  ·rw [List.getElem?_range h1] at hx;simpa using hx
  ·rw [List.getElem?_eq_none (by simpa using h1)] at hx;cases hx
 have e:=hf.evP hp;have hpos:¬ n*size=0:=by
  have h1:0 < n:=by simpa using h0
  have:=Nat.mul_pos h1 hT.h4;omega
 have hsm:¬ n*size > 2 ^ 24:=by have:=Nat.le_of_ble_eq_true hs;omega
 have hcells:(Array.range (n*inf.size)).map (z.cells[· % z.cells.size]!)=zc.toArray:=by
  rw [hsize,<- hz,Array.toArray_toList];rfl
 have:=run_buildSlice (P:=C.P) w T E n vs.toArray out.toArray inf z hT.h1 hi hzz (by rw [hsize];exact hsm) (by rw [hsize];exact hpos) (by rw [hcells,hsize];exact hfill)
 simp only [execOp,List.map_toArray,e,Sem.run_bind,this,Result.andThen_ok];rfl
theorem bG.same {w w':World}{b o:Nat}{cs:List Value} (h:w'.heap[b]?=w.heap[b]?) (hr:bG w b o cs):bG w' b o cs:=by
 refine ⟨?_,fun j v hv=>(World.cell?_of_block (a:=⟨b,o+j,none⟩) h).trans (hr.2 j v hv)⟩
 rcases Nat.lt_or_ge b w'.heap.size with h1|h1
 ·exact h1
 ·rw [Array.getElem?_eq_none h1,Array.getElem?_eq_getElem hr.1] at h;cases h
def sP (N:Nat) (a:Option Addr) (L:List (List Value)) (b:Nat):Prop:=0 < L.length/\∃ p,a=some p/\p.block=b/\N<=b
theorem sX {N sz:Nat}{a:Option Addr}{L:List (List Value)} (w w':World) (h:∀ b,(b < N∨sP N a L b)->w'.heap[b]?=w.heap[b]?) (hw:aE w a sz L):aE w' a sz L:=fun h0=>by
 obtain ⟨b,off,rfl,hr⟩:=hw h0;refine ⟨b,off,rfl,fun i cs hi=>(hr i cs hi).same (h b ?_)⟩
 rcases Nat.lt_or_ge b N with h1|h1
 ·exact .inl h1
 ·exact .inr ⟨h0,_,rfl,rfl,h1⟩
def aL (N:Nat) (a:Option Addr) (sz:Nat) (L:List (List Value)):Row:=.fact N (sP N a L) (fun w=>aE w a sz L) sX
theorem Sat.sl {w0 w:World}{N sz:Nat}{a:Option Addr}{L:List (List Value)} (h:Sat w0 M w) (hm:aL N a sz L∈M):aE w a sz L:=h.hold _ hm
theorem J.QK {sz:Nat}{a:Option Addr}{L:List (List Value)} (ha:aE C.w0 a sz L) (h:J C st (aL C.w0.heap.size a sz L::M) k):J C st M k:=.mk fun ac w hf hd hw=>by
 refine h.go ac w hf hd (hw.addFact (Nat.le_refl _) (ha.below hw.below) fun b hb=>?_)
 obtain ⟨h0,p,h1,h2,h3⟩:=hb;obtain ⟨b',off,h4,hr⟩:=ha h0
 have:bG C.w0 b' (off+0*sz) (L[0]):=hr 0 _ (gE h0);rw [h1] at h4;cases h4;have:=this.1;simp only at h2;omega
def O1 (C:Ctx) (M:List Row) (w:World) (b:Nat):Prop:=b < C.w0.heap.size∨w.heap.size<=b∨∃ r∈M,(∀ k,¬ r.lock k)/\r.sup b
theorem Sat.free {w:World}{b:Nat} (hw:Sat C.w0 M w) (h:O1 C M w b) (h2:C.w0.heap.size<=b):∀ r∈M,¬ r.lock b:=by
 intro r hr hl;rcases h with h|h|⟨s,hs,h3,h4⟩
 ·omega
 ·have:=((hw.old r hr).2 b (Row.P2 hl)).2
  omega
 ·have hp:=List.pairwise_iff_getElem.1 hw.apart
  obtain ⟨i,hi,ei⟩:=List.mem_iff_getElem.1 hr;obtain ⟨j,hj,ej⟩:=List.mem_iff_getElem.1 hs;rcases Nat.lt_trichotomy i j with h1|h1|h1
  ·exact (hp i j hi hj h1 b).1 (by rw [ei];exact hl) (by rw [ej];exact h4)
  ·subst h1
   rw [ei] at ej;subst ej;exact h3 b hl
  ·exact (hp j i hj hi h1 b).2 (by rw [ei];exact hl) (by rw [ej];exact h4)
theorem J.ownForm {i base E size n:Nat}{v:Value}{xs:List Value}{k:List Item} (hm:M[i]?=some (.own base v E size n xs)) (h:∀ a c,v=.slice a n c->J C st M k):J C st M k:=.mk fun a w hf hd hw=>by
 obtain ⟨hl,hv⟩:=hw.hold _ (List.mem_of_getElem? hm);rcases hv with ⟨rfl,rfl⟩|⟨g,cap,cur,rfl,_⟩
 ·exact (h _ _ rfl).go a w hf hd hw
 ·exact (h _ _ rfl).go a w hf hd hw
theorem aE.P8 {A:Type}{f:A->List Value}{sz n c base:Nat}{l:List A}{a:Option Addr}{w:World}{e:TypeId} (hf:∀ x,(f x).length=sz) (ho:w.ownsRow base e sz (.slice a n c) n (flat f l)) (hn:l.length=n):aE w a sz (l.map f):=fun h0=>by
 obtain ⟨hl,hv⟩:=ho;rcases hv with ⟨hv,h1⟩|⟨g,cap,cur,hv,_,hgg,h1,h2,h3,h4⟩
 ·simp only [List.length_map] at h0;omega
 ·cases hv
  have hlt:g < w.heap.size:=(Array.getElem?_eq_some_iff.1 hgg).1;refine ⟨g,0,rfl,fun i cs hi=>⟨hlt,fun j v hv=>?_⟩⟩
  have hil:i < l.length:=by simpa using (List.getElem?_eq_some_iff.1 hi).1
  have hcs:f l[i]=cs:=by
   rw [List.getElem?_map,gE hil] at hi;simpa using hi
  subst hcs;have hj:j < sz:=by rw [<- hf l[i]];exact (List.getElem?_eq_some_iff.1 hv).1
  rw [<- gC hf hil hj,<- h4,List.getElem?_take] at hv;split at hv
  ·rw [Nat.zero_add,cell_of_row w g _ cur e (0,0) hgg];simpa using hv
  ·cases hv
theorem aC.sl {A:Type}{f:A->List Value}{sz N:Nat}{l:List A}{b off i j:Nat}{v:Value} (hm:aL N (some ⟨b,off,none⟩) sz (l.map f)∈M) (hi:i < l.length) (hv:(f l[i])[j]?=some v):aC C M ⟨b,off+i*sz+j,none⟩ v:=.mk fun w hw=>by
 obtain ⟨b',off',h1,h2⟩:=(hw.sl hm).at i hi;cases h1;exact h2.2 j v hv
theorem aC.QJ {A:Type}{f:A->List Value}{sz N:Nat}{l:List A}{b off i:Nat}{v:Value} (hm:aL N (some ⟨b,off,none⟩) sz (l.map f)∈M) (hi:i < l.length) (hv:(f l[i])[0]?=some v):aC C M ⟨b,off+i*sz,none⟩ v:=aC.sl (j:=0) hm hi hv
theorem aE.lt {w:World}{a:Option Addr}{sz:Nat}{L:List (List Value)} (h:aE w a sz L) (h0:0 < L.length) {p:Addr} (hp:a=some p):p.block < w.heap.size:=by
 obtain ⟨b',off,h8,hr⟩:=h h0;rw [hp] at h8;cases h8;exact (hr 0 _ (gE h0)).1
theorem G.Pu {T E bytes size n:Nat}{z:Value}{parts:List (Nat×Operand)}{vs:List (Nat×Value)}{zl out:List Value} (hg:wnB all st gd=true) (hd:Nat.blt d C.N=true) (hq:q.ext=some q') (hp:Sl.evP st parts=some vs) [hT:cZ C.P T E z size bytes]
  (hz:z.cells=zl.toArray) (hs:Nat.ble (n*size) 16777216=true) (h0:Nat.blt 0 n=true) (ho:uA ((List.range n).map fun i=>(i*size,size)) (flat (fun x:List Value=>x) (List.replicate n zl)) vs=some out)
  (h:∀ B,G q' C all ((d,.slice (some ⟨B,0,none⟩) n n)::st) (.blk B E out out.length::M) rest k) :
  G q C all st M ({ dst:=some d,op:=.buildSlice T n parts.toArray,type:=ty,pos,after,guard:=gd }::rest) k :=
 G.Q9 hg hd hq hp (zc:=flat (fun x:List Value=>x) (List.replicate n zl)) (by rw [lH hT.h3 hT.h4 n,hz]) hs h0 ho h
def Nh (P:Program) (l:Nat) (f:FuncId) (tmps:Array Value) (assign body:Code) (w:World) (R:Value->World->Prop):Prop :=
 ∀ (c:Frame) (cs:List Frame),∃ v w',R v w'/\Steps P (lone (Frame.round l f tmps assign body .normal) (c::cs) w) (lone (c.finish v) cs w')
inductive Fr (P:Program) (fv:Value) (args:List Value) (w:World) (R:Value->World->Prop):Prop where
 | fn (g:FuncId) (cap:Array Value) (hf:fv=.func (.func g) #[] cap) (hF:Fun P g) (h:Calls P g (args.toArray++cap) w fun e w'=>∃ v,e=.returned v/\R v w')
 | yield (l:Nat) (r:Loop) (hf:fv=.func (.yield l) #[] #[]) (hl:w.heap[l]?=some (.loop r)) (hs:args.toArray.size=r.params.size)
   (h:Nh P l r.fn ((r.params.zip args.toArray).foldl (fun tmps (t,a)=>tmps.setIfInBounds t a) r.tmps) r.assign r.body w R)
theorem Fr.mono {P:Program}{fv:Value}{args:List Value}{w:World}{R R':Value->World->Prop} (h:Fr P fv args w R) (hr:∀ v w',R v w'->R' v w'):Fr P fv args w R':=by
 cases h with
 | fn g cap hf hF h=>exact .fn g cap hf hF (h.mono fun e w' ⟨v,h1,h2⟩=>⟨v,h1,hr v w' h2⟩)
 | yield l r hf hl hs h=>exact .yield l r hf hl hs fun c cs=>let ⟨v,w',h1,h2⟩:=h c cs;⟨v,w',hr v w' h1,h2⟩
variable {C:Ctx}{st:List (Nat×Value)}{M:List Row}{k:List Item}{q q':Md}{all rest:List Oper}{d:Nat}{ty:TypeId}{pos:String}{after:Array Edge}{gd:Option (Nat×Bool)}
theorem Sat.perm {w0 w:World}{M':List Row} (h:Sat w0 M w) (hp:M.Perm M'):Sat w0 M' w :=
 ⟨h.below,fun r hr=>h.hold r (hp.mem_iff.2 hr),fun r hr=>h.old r (hp.mem_iff.2 hr),(hp.pairwise_iff fun {_ _} hxy b=>⟨(hxy b).2,(hxy b).1⟩).1 h.apart⟩
theorem J.perm {M':List Row} (hp:M.Perm M') (h:J C st M' k):J C st M k:=.mk fun a w hf hd hw=>h.go a w hf hd (hw.perm hp)
theorem Sat.putObj {w0 w:World}{i b:Nat}{o:Obj} (h:Sat w0 M w) (hi:M[i]?=some (.obj b o)) (o':Obj):Sat w0 (M.set i (.obj b o')) (w.putObj b o'):=by
 have hmem:=List.mem_of_getElem? hi;have hlt:=((h.old _ hmem).2 b rfl).2;refine h.change hi rfl rfl rfl (by simp) (fun k _ hk=>World.putObj_heap_other fun e=>hk e) (World.putObj_heap_same hlt) (Nat.zero_le _) fun b' hb'=>?_
 cases hb';exact ⟨.inl rfl,by simpa using hlt⟩
theorem Sat.newObj {w0 w:World} (h:Sat w0 M w) (o:Obj):Sat w0 (.obj w.heap.size o::M) (w.alloc o) :=
 h.new ((Below.refl _ _).alloc (Nat.le_refl _) _) (World.alloc_heap_new w o) (Nat.zero_le _) fun b hb=>by
  cases hb;exact ⟨Nat.le_refl _,by simp [World.size_alloc]⟩
def Ni (b:Nat):Deferred:={ target:=.collected b,args:=#[] }
theorem J.range {f:FuncId} [hF:Fun C.P f] {cap:Array Value}{g:Operand}{ps:Array Tmp}{assign body:Code}{X:Type} (Mx:X->List Row) (px:X->Option Code) (sx:X->LoopState) (hb:C.b.roundOf=none) (hg:evS st g=some (.func (.func f) #[] cap)) (hsx:∀ x,sx x≠.busy)
  (hcall:∀ tmps Bd L w (r:Loop),r=⟨.ready,none,C.b.fn,tmps,ps,assign,body,Bd⟩->fF C.N st { tmps,defers:=[] }->Sat C.w0 (.obj L (.loop r)::.obj Bd (.deferred (some []))::M) w ->
   Calls C.P f (#[.func (.yield L) #[] #[]]++cap) w fun e w'=>∃ v x,e=.returned v/\Sat C.w0 (.obj L (.loop { r with state:=sx x,pending:=px x })::.obj Bd (.deferred (some []))::Mx x) w')
  (h:∀ Bd x,J { C with D:=Ni Bd::C.D } st (.obj Bd (.deferred (some []))::Mx x) (((px x).map Item.code).toList++k)) :
  J C st M (.code (.rangeFunc g ps assign body)::k):=.mk fun a w hf hd hw cs=>by
 have he:=run_enterLoop_outer (P:=C.P) (w:=w) C.b.fn a.tmps ps assign body;rw [<- hb] at he;have hs1:=(hw.newObj (.deferred (some []))).newObj (.loop ⟨.ready,none,C.b.fn,a.tmps,ps,assign,body,w.heap.size⟩);have hsz:(w.alloc (.deferred (some []))).heap.size=w.heap.size+1:=by simp [World.size_alloc]
 rw [hsz] at hs1;have hev:a.eval g=.func (.func f) #[] cap:=hf.eval hg;have hres:∀ w1,(resolve a.eval (rangeCall g (w.heap.size+1)) 0).run C.P w1=.ok { target:=.fn (.func f) cap,args:=#[.func (.yield (w.heap.size+1)) #[] #[]] } w1:=by
  intro w1;have hc:∀ v:Value,a.eval (.const v)=v:=fun _=>rfl
  simp [resolve,rangeCall,hev,Deferred.ofValue,hc]
 have hinv:∀ w1,(invoke (.fn (.func f) cap) #[.func (.yield (w.heap.size+1)) #[] #[]]).run C.P w1=.ok (.enter f (#[.func (.yield (w.heap.size+1)) #[] #[]]++cap)) w1:=by
  intro w1;simp [invoke,hF.h]
 have henter:=stepR_rangeFunc (P:=C.P) (b:=C.b) (a:=a) (k:=k) (cs:=cs) (w:=w) he (hres _) (hinv _);obtain ⟨e,w3,fr,⟨v,x,rfl,hs3⟩,hsteps,hfn,hleave⟩:=hcall a.tmps w.heap.size (w.heap.size+1) _ _ rfl ⟨hf.size,hf.get⟩ hs1 (C.b.atR { a with defers:=[Ni w.heap.size]++a.defers } (.inRangeFunc (w.heap.size+1)::k)::cs)
 have hend:=run_endLoop (P:=C.P) (hs3.hold _ (.head _)) (hsx x);have hs4:=(hs3.putObj (i:=0) rfl (.loop ⟨.exhausted,px x,C.b.fn,a.tmps,ps,assign,body,w.heap.size⟩)).forget (M':=.obj w.heap.size (.deferred (some []))::Mx x) (List.sublist_cons_self _ _);obtain ⟨m,h1,h2⟩:=(h w.heap.size x).go { a with defers:=[Ni w.heap.size]++a.defers } _ ⟨hf.size,hf.get⟩ (by rw [<- hd];rfl) hs4 cs
 refine ⟨m,.head henter (hsteps.trans (.head ?_ (.head (stepR_endRangeFunc hend) h1))),h2⟩;rw [<- finish_atR_inRangeFunc (w.heap.size+1) v];exact step_leave_returned hleave
def mk (ds:List Nat):List Row:=ds.map fun b=>.obj b (.deferred (some []))
theorem G.makeFunc {f:Fn}{caps:List Operand}{vs:List Value} (ha:evL st caps=some vs) (hg:wnB all st gd=true) (hd:Nat.blt d C.N=true) (hq:q.calm=some q') (h:G q' C all ((d,.func f #[] vs.toArray)::st) M rest k) :
  G q C all st M ({ dst:=some d,op:=.makeFunc f #[] caps.toArray,type:=ty,pos,after,guard:=gd }::rest) k :=
 G.op (OpV.of fun a w hf _ dst pos after guard=>by
  have:=hf.evals ha;simp [execOp,this,Instr.makeFunc]) hg rfl hd hq h
def cat {A:Type}:List (List A)->List A
 | []=>[]
 | [l]=>l
 | l::m::r=>l++cat (m::r)
theorem Fs {A:Type}:∀ ls:List (List A),cat ls=ls.flatten
 | []=>rfl
 | [l]=>by simp [cat]
 | l::m::r=>by rw [cat,Fs (m::r)];simp
theorem IV {A:Type} (ls:List (List A)) (i j:List Nat) (h:i.isPerm j=true):(cat (i.map (ls.getD · []))).Perm (cat (j.map (ls.getD · []))):=by
 rw [Fs,Fs];exact ((List.isPerm_iff.1 h).map _).flatten
variable {C:Ctx}{st:List (Nat×Value)}{M:List Row}{k:List Item}{q q':Md}{all rest:List Oper}{d:Nat}{ty:TypeId}{pos:String}{after:Array Edge}{gd:Option (Nat×Bool)}
theorem fF.defers {N:Nat}{a:Act}{ds:List Deferred} (h:fF N st a):fF N st { a with defers:=ds }:=⟨h.size,h.get⟩
theorem G.QT {X:Type}{g:FuncId}{args:List Operand}{vs:List Value}{at_:Array TypeId} (v:X->Value) (Mn:X->List Row) (hg:wnB all st gd=true) (hd:Nat.blt d C.N=true) (hq:q.res=some q')
  (ha:evL st args=some vs) [hF:Fun C.P g]
  (hc:∀ w,Sat C.w0 M w->Calls C.P g vs.toArray w fun e w'=>∃ x,e=.returned (v x)/\Sat C.w0 (Mn x) w')
  (h:∀ x,G q' C all ((d,v x)::st) (Mn x) rest k) :
  G q C all st M ({ dst:=some d,op:=.call { callee:=.value (.func g),args:=args.toArray,argTypes:=at_ },type:=ty,pos,after,guard:=gd }::rest) k:=by
 refine G.res hg rfl hq fun a w hfit hw K hK=>?_
 have hrc:=zC (P:=C.P) (w:=w) (g:=g) (a:=a) (f:=.func g) (cap:=#[]) (ty:=ty) (pos:=pos) (after:=after) (at_:=at_) (dst:=some d) (guard:=gd) rfl (hfit.evals ha);rw [hrc];have e0:vs.toArray++#[]=vs.toArray:=by simp
 rw [e0];refine (hc w hw).mono fun e w' hh=>?_
 obtain ⟨x,rfl,hs⟩:=hh;exact hK _ _ _ _ (h x) (hfit.put hd _) rfl hs
theorem G.QS {g:FuncId}{args:List Operand}{vs:List Value}{at_:Array TypeId}{sz:Nat} (v:Option Addr->Nat->Value) (L:List (List Value)) (ha:evL st args=some vs) (hg:wnB all st gd=true) (hd:Nat.blt d C.N=true) (hq:q.ext=some q') [hF:Fun C.P g]
  (hc:∀ w,Sat C.w0 M w->Calls C.P g vs.toArray w fun e w'=>∃ a' c',e=.returned (v a' c')/\aE w' a' sz L/\(∀ p,a'=some p->w.heap.size<=p.block)/\Below w.heap.size w w')
  (h:∀ a' c',(0 < L.length->∃ b off,a'=some ⟨b,off,none⟩)->(∀ p,a'=some p->C.w0.heap.size<=p.block)->G q' C all ((d,v a' c')::st) (aL C.w0.heap.size a' sz L::M) rest k) :
  G q C all st M ({ dst:=some d,op:=.call { callee:=.value (.func g),args:=args.toArray,argTypes:=at_ },type:=ty,pos,after,guard:=gd }::rest) k:=by
 refine G.call0 (X:={ x:Option Addr×Nat // (0 < L.length->∃ b off,x.1=some ⟨b,off,none⟩)/\∀ p,x.1=some p->C.w0.heap.size<=p.block }) (v:=fun x=>v x.1.1 x.1.2) (Mn:=fun x=>[aL C.w0.heap.size x.1.1 sz L]) hg hd hq ha (fun w hw=>(hc w hw).mono fun e w' he=>?_) fun x=>h x.1.1 x.1.2 x.2.1 x.2.2
 obtain ⟨a',c',rfl,h1,h2,h3⟩:=he;refine ⟨⟨(a',c'),fun h0=>(let ⟨b,off,e,_⟩:=h1 h0;⟨b,off,e⟩),fun p hp=>Nat.le_trans hw.size (h2 p hp)⟩,rfl,(hw.ext h3).addFact (Nat.le_refl _) h1 fun b hb=>?_⟩
 obtain ⟨h0,p,h5,h6,h7⟩:=hb;dsimp only at h5;obtain ⟨b',off,h8,hr⟩:=h1 h0;have hlt:=(hr 0 _ (gE h0)).1;have:=h2 p h5;rw [h5] at h8;cases h8;simp only at h6 this;subst h6;exact ⟨h7,hlt,hw.free (.inr (.inl this)) h7⟩
theorem LdV.Qx {A:Type}{f:A->List Value}{T n sz N:Nat} [hT:gZ C.P T n] {l:List A}{b off i:Nat} (hm:aL N (some ⟨b,off,none⟩) sz (l.map f)∈M) (hi:i < l.length) (hl:(f l[i]).length=n):LdV C M T ⟨b,off+i*sz,none⟩ (.agg (f l[i]).toArray) :=
 LdV.agg hl (iT.of fun _ _ hv=>aC.sl hm hi hv)
class Pp (P:Program) (T:TypeId) (len E sz:outParam Nat):Prop where
 h1:P.underlying T=some (.array len E)
 h2:∀ w,(sizeOf E).run P w=.ok sz w
class GI (P:Program) (T:TypeId):Prop where
 h:P.underlying T=some .bool
theorem OpV.Rb {t:TypeId} [hT:GI C.P t] {x y:Operand}{yt:TypeId}{a b:Bool} (hx:evS st x=some (.bool a)) (hy:evS st y=some (.bool b)):OpV C st M (.binOp .eql t x y yt) ty (.bool (a == b)) :=
 OpV.of fun ac w hf _ dst pos after guard=>by
  have hg:(eqGuard .eql t x y (.bool a) (.bool b)).run C.P w=.ok () w:=rfl;have hu:(underlying t).run C.P w=.ok .bool w:=by simp [underlying,hT.h]
  have he:(Op.equal t (.bool a) (.bool b)).run C.P w=.ok (a == b) w:=by
   rw [Op.equal,Op.maxDepth,Op.equalIn,Sem.run_bind,hu];rfl
  have e:(binOp .eql t (.bool a) (.bool b)).run C.P w=.ok (.bool (a == b)) w:=by
   show ((Op.equal t _ _).bind fun b=>Sem.pure (Value.bool b)).run C.P w=_
   rw [Sem.run_bind',he];rfl
  simp only [execOp,hf.eval hx,hf.eval hy,Sem.run_bind,hg,e,Result.andThen_ok];rfl
end Go.Sl
/-
 The arguments of a law: what their reading tells of their cells.
-/
namespace Go.Sl
open Go.RowKit Go.ChangeShapes Go.WideShapes
structure aK (P:Program) (T:TypeId) {A:Type} (f:A->List Value) (G:World->A->Prop):Prop where
 go:∀ {H:Type} (enc:TypeId×Value->H) (w:World) (fuel:Nat) (cs:List Value) (x:DataW H×List MemPlace),DataW.trod enc P w 0 (fun _=>true) true fuel T cs=some x->∃ a,cs=f a/\G w a
variable {P:Program}{T E:TypeId}
theorem aK.mono {A:Type}{f:A->List Value}{G G':World->A->Prop} (h:aK P T f G) (hG:∀ w a,G w a->G' w a):aK P T f G':=.mk fun enc w fuel cs x hx =>
 let ⟨a,h1,h2⟩:=h.go enc w fuel cs x hx
 ⟨a,h1,hG _ _ h2⟩
theorem aK.turn {A B:Type}{f:A->List Value}{G:World->A->Prop}{f':B->List Value}{G':World->B->Prop} (h:aK P T f G) (hG:∀ w a,G w a->∃ b,f a=f' b/\G' w b):aK P T f' G':=.mk fun enc w fuel cs x hx =>
 let ⟨a,h1,h2⟩:=h.go enc w fuel cs x hx
 let ⟨b,h3,h4⟩:=hG w a h2
 ⟨b,h1.trans h3,h4⟩
theorem aK.int {k:IntKind} (ht:P.underlying T=some (.int k)):aK P T (fun n:Int=>[.int k n]) (fun _ n=>(Lit.int k n).wf=true):=.mk fun enc w fuel cs x hx=>by
 obtain ⟨n,h1,_,h3⟩:=DataW.trod_int ht hx;exact ⟨n,h1,h3⟩
theorem aK.bool (ht:P.underlying T=some .bool):aK P T (fun b:Bool=>[.bool b]) (fun _ _=>True):=.mk fun enc w fuel cs x hx=>by
 obtain ⟨n,h1,_⟩:=DataW.trod_bool ht hx;exact ⟨n,h1,trivial⟩
theorem aK.string (ht:P.underlying T=some .string):aK P T (fun s:ByteArray=>[.string s]) (fun _ s=>s.size<=maxLen):=.mk fun enc w fuel cs x hx=>by
 obtain ⟨n,h1,_,h3⟩:=DataW.trod_string ht hx;exact ⟨n,h1,h3⟩
def eO:List Nat->List Value->List (List Value)
 | [],_=>[]
 | n::r,cs=>cs.take n::eO r (cs.drop n)
theorem pK:∀ (ns:List Nat) (cs:List Value),cs.length=ns.sum->(eO ns cs).flatten=cs
 | [],cs,h=>by
  have:cs=[]:=List.length_eq_zero_iff.1 (by simpa using h)
  simp [eO,this]
 | n::r,cs,h=>by
  simp only [List.sum_cons] at h
  rw [eO,List.flatten_cons,pK r _ (by rw [List.length_drop];omega),List.take_append_drop]
def kO:Nat->List Nat->List Nat
 | _,[]=>[]
 | o,n::r=>o::kO (o+n) r
theorem sY:∀ (ns:List Nat) (cs:List Value) (o i:Nat) (n m:Nat),(kO o ns)[i]?=some (o+m)->ns[i]?=some n->(eO ns cs)[i]?=some ((cs.drop m).take n)
 | [],cs,o,i,n,m,h,h2=>by simp at h2
 | k::r,cs,o,0,n,m,h,h2=>by
  simp only [kO,List.getElem?_cons_zero,Option.some.injEq] at h h2
  have:m=0:=by omega
  subst this;subst h2;simp [eO]
 | k::r,cs,o,i+1,n,m,h,h2=>by
  simp only [kO,List.getElem?_cons_succ] at h h2
  have hge:∀ (ns:List Nat) (o i v:Nat),(kO o ns)[i]?=some v->o<=v:=by
   intro ns
   induction ns with
   | nil=>intro o i v h;simp [kO] at h
   | cons a r ih =>
    intro o i v h;cases i with
    | zero=>simp [kO] at h;omega
    | succ i=>simp only [kO,List.getElem?_cons_succ] at h;have:=ih _ _ _ h;omega
  have:=hge _ _ _ _ h;have h3:=sY r (cs.drop k) (o+k) i n (m-k) (by rw [h];congr 1;omega) h2
  simp only [eO,List.getElem?_cons_succ];rw [h3,List.drop_drop,show k+(m-k)=m by omega]
def xF (P:Program) (fs:Array Field) (n:Nat):Bool :=
 decide (fs.toList.map (·.offset)=kO 0 (fs.toList.map fun f=>P.cellsOf f.type)) && decide ((fs.toList.map fun f=>P.cellsOf f.type).sum=n)
theorem aK.struct {fs:Array Field}{n:Nat} (ht:P.underlying T=some (.struct fs)) (hn:P.cellsOf T=n) (hT:xF P fs n=true) {H:Type}{enc:TypeId×Value->H}{w:World}{fuel:Nat}{cs:List Value}{x:DataW H×List MemPlace}
  (hx:DataW.trod enc P w 0 (fun _=>true) true fuel T cs=some x) :
  cs=(eO (fs.toList.map fun f=>P.cellsOf f.type) cs).flatten/\(eO (fs.toList.map fun f=>P.cellsOf f.type) cs).length=fs.size /\
  ∀ (i:Nat) (f:Field) (p:List Value),fs[i]?=some f->(eO (fs.toList.map fun f=>P.cellsOf f.type) cs)[i]?=some p->∃ m y,DataW.trod enc P w 0 (fun _=>true) true m f.type p=some y:=by
 simp only [xF,Bool.and_eq_true,decide_eq_true_eq] at hT;obtain ⟨xs,m,-,-,hl,hlen,hf⟩:=DataW.trod_struct ht hx;have hplen:∀ (ns:List Nat) (cs:List Value),(eO ns cs).length=ns.length:=by
  intro ns
  induction ns with
  | nil=>intro cs;rfl
  | cons a r ih=>intro cs;simp [eO,ih]
 refine ⟨(pK _ _ (by rw [hl,hn,hT.2])).symm,by rw [hplen];simp,fun i f p hi hp=>?_⟩
 have ho:(fs.toList.map (·.offset))[i]?=some f.offset:=by rw [List.getElem?_map,Array.getElem?_toList,hi];rfl
 have hs:(fs.toList.map fun f=>P.cellsOf f.type)[i]?=some (P.cellsOf f.type):=by rw [List.getElem?_map,Array.getElem?_toList,hi];rfl
 rw [hT.1] at ho;have:=sY _ cs 0 i _ f.offset (by rw [Nat.zero_add];exact ho) hs
 rw [hp] at this;cases this;have h1:=hf i f hi;have hxi:i < xs.length:=by rw [hlen];exact (Array.getElem?_eq_some_iff.1 hi).1
 rw [gE hxi] at h1;exact ⟨m,_,h1⟩
theorem IW {A:Type}{l:List A} (h:l.length=2):∃ a b,l=[a,b]:=by
 match l,h with
 | [a,b],_=>exact ⟨a,b,rfl⟩
theorem IX {A:Type}{l:List A} (h:l.length=3):∃ a b c,l=[a,b,c]:=by
 match l,h with
 | [a,b,c],_=>exact ⟨a,b,c,rfl⟩
section
variable {A1 A2 A3 A4 A5 A6:Type}{f1:A1->List Value}{f2:A2->List Value}{f3:A3->List Value}{f4:A4->List Value}{f5:A5->List Value}{f6:A6->List Value}{G1:World->A1->Prop}{G2:World->A2->Prop}{G3:World->A3->Prop}{G4:World->A4->Prop}{G5:World->A5->Prop}{G6:World->A6->Prop}{d1 d2 d3 d4 d5 d6:Field}{n:Nat}
theorem aK.struct2 (ht:P.underlying T=some (.struct #[d1,d2])) (hn:P.cellsOf T=n) (hT:xF P #[d1,d2] n=true) (h1:aK P d1.type f1 G1) (h2:aK P d2.type f2 G2) :
  aK P T (fun a:A1×A2=>f1 a.1++f2 a.2) (fun w a=>G1 w a.1/\G2 w a.2):=.mk fun enc w fuel cs x hx=>by
 obtain ⟨hj,hl,hf⟩:=aK.struct ht hn hT hx;obtain ⟨p1,p2,hp⟩:=IW hl;rw [hp] at hj hf;obtain ⟨_,_,r1⟩:=hf 0 d1 p1 rfl rfl;obtain ⟨_,_,r2⟩:=hf 1 d2 p2 rfl rfl;obtain ⟨a1,rfl,g1⟩:=h1.go enc w _ _ _ r1;obtain ⟨a2,rfl,g2⟩:=h2.go enc w _ _ _ r2;exact ⟨(a1,a2),by rw [hj];simp,g1,g2⟩
theorem aK.struct3 (ht:P.underlying T=some (.struct #[d1,d2,d3])) (hn:P.cellsOf T=n) (hT:xF P #[d1,d2,d3] n=true) (h1:aK P d1.type f1 G1) (h2:aK P d2.type f2 G2) (h3:aK P d3.type f3 G3) :
  aK P T (fun a:A1×A2×A3=>f1 a.1++(f2 a.2.1++f3 a.2.2)) (fun w a=>G1 w a.1/\G2 w a.2.1/\G3 w a.2.2):=.mk fun enc w fuel cs x hx=>by
 obtain ⟨hj,hl,hf⟩:=aK.struct ht hn hT hx;obtain ⟨p1,p2,p3,hp⟩:=IX hl;rw [hp] at hj hf;obtain ⟨_,_,r1⟩:=hf 0 d1 p1 rfl rfl;obtain ⟨_,_,r2⟩:=hf 1 d2 p2 rfl rfl;obtain ⟨_,_,r3⟩:=hf 2 d3 p3 rfl rfl;obtain ⟨a1,rfl,g1⟩:=h1.go enc w _ _ _ r1;obtain ⟨a2,rfl,g2⟩:=h2.go enc w _ _ _ r2;obtain ⟨a3,rfl,g3⟩:=h3.go enc w _ _ _ r3;exact ⟨(a1,a2,a3),by rw [hj];simp,g1,g2,g3⟩
end
theorem xG (sz:Nat):∀ (n:Nat) (cs:List Value) (i:Nat),i < n->(eO (List.replicate n sz) cs)[i]?=some ((cs.drop (i*sz)).take sz)
 | 0,_,_,h=>by omega
 | n+1,cs,0,_=>by simp [List.replicate_succ,eO]
 | n+1,cs,i+1,h=>by
  simp only [List.replicate_succ,eO,List.getElem?_cons_succ];rw [xG sz n _ i om,List.drop_drop,Nat.add_mul,Nat.one_mul,Nat.add_comm]
theorem mH {A B:Type} (Q:B->A->Prop):∀ (l:List B),(∀ b∈l,∃ a,Q b a)->∃ aas:List A,aas.length=l.length/\∀ (i:Nat) (b:B) (a:A),l[i]?=some b->aas[i]?=some a->Q b a
 | [],_=>⟨[],rfl,fun i b a h=>by simp at h⟩
 | b::r,h=>by
  obtain ⟨a,ha⟩:=h b (.head _);obtain ⟨aas,h1,h2⟩:=mH Q r fun b hb=>h b (.tail _ hb)
  refine ⟨a::aas,by simp [h1],fun i b' a' hb' ha'=>?_⟩
  cases i with
  | zero=>simp at hb' ha';subst hb';subst ha';exact ha
  | succ i=>exact h2 i b' a' (by simpa using hb') (by simpa using ha')
theorem aK.array {A:Type}{f:A->List Value}{G:World->A->Prop}{n sz:Nat} (ht:P.underlying T=some (.array n E)) (hn:P.cellsOf T=n*sz) (hE:P.cellsOf E=sz) (h:aK P E f G) :
  aK P T (fun l:List A=>flat f l) (fun w l=>l.length=n/\∀ a∈l,G w a):=.mk fun enc w fuel cs x hx=>by
 obtain ⟨xs,m,-,-,hl,hlen,hf⟩:=DataW.trod_array ht hx;rw [hE] at hf;have hplen:(eO (List.replicate n sz) cs).length=n:=by
  have:∀ (ns:List Nat) (cs:List Value),(eO ns cs).length=ns.length:=by
   intro ns
   induction ns with
   | nil=>intro cs;rfl
   | cons a r ih=>intro cs;simp [eO,ih]
  rw [this];simp
 obtain ⟨aas,h1,h2⟩:=mH (fun p a=>p=f a/\G w a) (eO (List.replicate n sz) cs) fun p hp=>by
  obtain ⟨i,hi,rfl⟩:=List.mem_iff_getElem.1 hp;have hi':i < n:=by omega
  have e:=xG sz n cs i hi';rw [gE hi] at e;have e:=Option.some.inj e;rw [e];have h3:=hf i hi';rw [gE om] at h3;exact h.go enc w _ _ _ h3
 refine ⟨aas,?_,by omega,fun a ha=>?_⟩
 ·have hj:=pK (List.replicate n sz) cs (by rw [hl,hn];simp)
  refine hj.symm.trans ?_;show _=(aas.map f).flatten
  congr 1
  refine List.ext_getElem (by simp;omega) fun i hi1 hi2=>?_
  simp only [List.getElem_map];exact (h2 i _ _ (gE hi1) (gE (by simpa using hi2))).1
 ·obtain ⟨i,hi,rfl⟩:=List.mem_iff_getElem.1 ha
  exact (h2 i _ _ (gE om) (gE hi)).2
theorem Lo {w:World}{a:Addr}{v:Value} (h:w.cell? a=some v):a.block < w.heap.size:=by
 rcases Nat.lt_or_ge a.block w.heap.size with h1|h1
 ·exact h1
 ·unfold World.cell? at h
  rw [Array.getElem?_eq_none h1] at h
  simp at h
theorem rE {w:World}{b off sz:Nat}{spot:Option Nat}{cs:List Value} (h:w.cells? 0 ⟨b,off,spot⟩ sz=some cs) (h0:0 < sz):spot=none/\bG w b off cs:=by
 obtain ⟨_,hl,hc⟩:=World.cells?_some h;have hs:spot=none:=by
  have:=hc 0 h0;rw [gE om] at this;simpa [Addr.add] using World.cell?_spot this
 subst hs;refine ⟨rfl,?_,fun j v hv=>?_⟩
 ·have:=hc 0 h0
  rw [gE om] at this;exact Lo this
 ·have hj:j < sz:=by rw [<- hl];exact (List.getElem?_eq_some_iff.1 hv).1
  have:=hc j hj;rw [hv,dS,dV] at this;exact this
structure Sld (A:Type) where
 ad:Option Addr
 l:List A
 cap:Nat
def Sld.v {A:Type} (s:Sld A):Value:=.slice s.ad s.l.length s.cap
theorem aK.slice {A:Type}{f:A->List Value}{G:World->A->Prop}{sz:Nat} (ht:P.underlying T=some (.slice E)) (hE:P.cellsOf E=sz) (h0:0 < sz) (h:aK P E f G) :
  aK P T (fun s:Sld A=>[s.v]) (fun w s=>aE w s.ad sz (s.l.map f)/\s.l.length<=s.cap/\s.cap<=maxLen/\∀ a∈s.l,G w a):=.mk fun enc w fuel cs x hx=>by
 rcases DataW.trod_slice ht hx with ⟨rfl,_⟩|⟨a,len,cap,elems,rest,n,_,rfl,_,hb,hl,hm,hlen,hel,_⟩
 ·exact ⟨⟨none,[],0⟩,rfl,aE.nil,Nat.le_refl _,Nat.zero_le _,fun a ha=>by cases ha⟩
 rw [hE] at hel;have hget:∀ i∈List.range len,∃ a':A,w.cells? 0 (a.add (i*sz)) sz=some (f a')/\G w a':=fun i hi=>by
  have hi:=List.mem_range.1 hi;have h1:=hel i hi;rw [gE om] at h1;obtain ⟨cs',h2,h3⟩:=Option.bind_eq_some_iff.1 h1;obtain ⟨a',rfl,g⟩:=h.go enc w _ _ _ h3;exact ⟨a',h2,g⟩
 obtain ⟨aas,h1,h2⟩:=mH (fun i a'=>w.cells? 0 (a.add (i*sz)) sz=some (f a')/\G w a') (List.range len) hget
 rw [List.length_range] at h1;have hq:∀ i (hi:i < aas.length),w.cells? 0 (a.add (i*sz)) sz=some (f aas[i])/\G w aas[i]:=fun i hi=>h2 i i _ (by rw [List.getElem?_range om]) (gE hi)
 refine ⟨⟨some a,aas,cap⟩,by show [Value.slice (some a) len cap]=[Value.slice (some a) aas.length cap];rw [h1],fun h3=>?_,by dsimp only;omega,hm,fun a' ha=>?_⟩
 ·dsimp only at h3 ⊢
  simp only [List.length_map] at h3;obtain ⟨b,off,spot⟩:=a;have e0:=(hq 0 h3).1;rw [Nat.zero_mul] at e0;have hs:=(rE (spot:=spot) (by simpa [Addr.add] using e0) h0).1
  subst hs;refine ⟨b,off,rfl,fun i cs hi=>?_⟩
  have hil:i < aas.length:=by simpa using (List.getElem?_eq_some_iff.1 hi).1
  have e:=(hq i hil).1;rw [dS,dV] at e;rw [List.getElem?_map,gE hil] at hi;have hi:=Option.some.inj hi;subst hi;exact (rE e h0).2
 ·obtain ⟨i,hi,rfl⟩:=List.mem_iff_getElem.1 ha
  exact (hq i hi).2
theorem aK.arg {A:Type}{f:A->List Value}{G:World->A->Prop} (h:aK P T f G) {H:Type}{enc:TypeId×Value->H}{W:World}{v:Value}{d:DataW H}{ps:List MemPlace} (hv:DataW.Trod enc P W 0 (fun _=>true) true T v d ps):∃ a,v.cells.toList=f a/\G W a:=by
 obtain ⟨fuel,hf⟩:=hv;exact h.go enc W _ _ _ hf
theorem aK.argAgg {A:Type}{f:A->List Value}{G:World->A->Prop} (h:aK P T f G) {H:Type}{enc:TypeId×Value->H}{W:World}{v:Value}{d:DataW H}{ps:List MemPlace} (hk:∃ cs,v=.agg cs) (hv:DataW.Trod enc P W 0 (fun _=>true) true T v d ps):∃ a,v=.agg (f a).toArray/\G W a:=by
 obtain ⟨cs,rfl⟩:=hk;obtain ⟨a,h1,h2⟩:=h.arg hv;refine ⟨a,?_,h2⟩
 have:cs.toList=f a:=h1;rw [<- this]
end Go.Sl
/-
 Numbers of every kind: wrapping sums,quotients,shifts,bits,conversions.
-/
namespace Go.Sl
open Go.RowKit
variable {C:Ctx}{st:List (Nat×Value)}{M:List Row}{k:List Item}{q q':Md}{all rest:List Oper}{d:Nat}{ty:TypeId}{pos:String}{after:Array Edge}{gd:Option (Nat×Bool)}
theorem hH (x:Int):IntKind.u64.wrap x=x % 18446744073709551616:=by
 simp [IntKind.wrap,IntKind.bits,IntKind.signed]
theorem lI (x:Int):IntKind.u32.wrap x=x % 4294967296:=by
 simp [IntKind.wrap,IntKind.bits,IntKind.signed]
theorem Lp (x:Int):IntKind.u8.wrap x=x % 256:=by
 simp [IntKind.wrap,IntKind.bits,IntKind.signed]
theorem G.Qh {t:TypeId}{x y:Operand}{yt:TypeId}{ki:IntKind}{a b m:Int} (hx:evS st x=some (.int ki a)) (hy:evS st y=some (.int ki b)) (hm:ki.wrap (a*b)=m) (hg:wnB all st gd=true) (hd:Nat.blt d C.N=true) (hq:q.calm=some q') (h:G q' C all ((d,.int ki m)::st) M rest k) :
  G q C all st M ({ dst:=some d,op:=.binOp .mul t x y yt,type:=ty,pos,after,guard:=gd }::rest) k :=
 G.op (OpV.PM hx hy fun w=>by subst hm;cases ki<;>rfl) hg rfl hd hq h
theorem G.Rz {t:TypeId}{x y:Operand}{yt:TypeId}{ki:IntKind}{a b m:Int} (hx:evS st x=some (.int ki a)) (hy:evS st y=some (.int ki b)) (hm:ki.wrap (a+b)=m) (hg:wnB all st gd=true) (hd:Nat.blt d C.N=true) (hq:q.calm=some q') (h:G q' C all ((d,.int ki m)::st) M rest k) :
  G q C all st M ({ dst:=some d,op:=.binOp .add t x y yt,type:=ty,pos,after,guard:=gd }::rest) k :=
 G.op (OpV.PM hx hy fun w=>by subst hm;cases ki<;>rfl) hg rfl hd hq h
theorem G.PW {t:TypeId}{x y:Operand}{yt:TypeId}{ki:IntKind}{a b m:Int} (hx:evS st x=some (.int ki a)) (hy:evS st y=some (.int ki b)) (hm:ki.wrap (a-b)=m) (hg:wnB all st gd=true) (hd:Nat.blt d C.N=true) (hq:q.calm=some q') (h:G q' C all ((d,.int ki m)::st) M rest k) :
  G q C all st M ({ dst:=some d,op:=.binOp .sub t x y yt,type:=ty,pos,after,guard:=gd }::rest) k :=
 G.op (OpV.PM hx hy fun w=>by subst hm;cases ki<;>rfl) hg rfl hd hq h
theorem G.Qg {t:TypeId}{x y:Operand}{yt:TypeId}{ki:IntKind}{a b m:Int} (hx:evS st x=some (.int ki a)) (hy:evS st y=some (.int ki b)) (hb:b≠0) (hm:ki.wrap (a.tdiv b)=m) (hg:wnB all st gd=true) (hd:Nat.blt d C.N=true) (hq:q.calm=some q') (h:G q' C all ((d,.int ki m)::st) M rest k) :
  G q C all st M ({ dst:=some d,op:=.binOp .quo t x y yt,type:=ty,pos,after,guard:=gd }::rest) k :=
 G.op (OpV.PM hx hy fun w=>by subst hm;simp [binOp,Op.intDiv,hb]) hg rfl hd hq h
theorem G.Qr {t:TypeId}{x y:Operand}{yt:TypeId}{ki:IntKind}{a b m:Int} (hx:evS st x=some (.int ki a)) (hy:evS st y=some (.int ki b)) (hb:b≠0) (hm:a.tmod b=m) (hg:wnB all st gd=true) (hd:Nat.blt d C.N=true) (hq:q.calm=some q') (h:G q' C all ((d,.int ki m)::st) M rest k) :
  G q C all st M ({ dst:=some d,op:=.binOp .rem t x y yt,type:=ty,pos,after,guard:=gd }::rest) k :=
 G.op (OpV.PM hx hy fun w=>by subst hm;simp [binOp,Op.intDiv,hb]) hg rfl hd hq h
theorem OpV.QE {bop:BinOp}{t:TypeId}{x y:Operand}{yt:TypeId}{k1 k2:IntKind}{a b:Int}{v:Value} (hb:bop=.shl∨bop=.shr) (hx:evS st x=some (.int k1 a)) (hy:evS st y=some (.int k2 b)) (h:∀ w,(binOp bop t (.int k1 a) (.int k2 b)).run C.P w=.ok v w) :
  OpV C st M (.binOp bop t x y yt) ty v :=
 OpV.of fun ac w hf _ dst pos after guard=>by
  have hg:(eqGuard bop t x y (.int k1 a) (.int k2 b)).run C.P w=.ok () w:=by
   rcases hb with rfl|rfl<;>rfl
  simp only [execOp,hf.eval hx,hf.eval hy,Sem.run_bind,hg,h,Result.andThen_ok];rfl
theorem G.PO {t:TypeId}{x y:Operand}{yt:TypeId}{k1 k2:IntKind}{a b m:Int}{n:Nat} (hx:evS st x=some (.int k1 a)) (hy:evS st y=some (.int k2 b)) (hn:b=(n:Int)) (hm:k1.wrap (a*2 ^ (min n k1.bits))=m) (hg:wnB all st gd=true) (hd:Nat.blt d C.N=true) (hq:q.calm=some q') (h:G q' C all ((d,.int k1 m)::st) M rest k) :
  G q C all st M ({ dst:=some d,op:=.binOp .shl t x y yt,type:=ty,pos,after,guard:=gd }::rest) k :=
 G.op (OpV.QE (.inl rfl) hx hy fun w=>by
  subst hm;subst hn
  have:¬ (n:Int) < 0:=by omega
  simp [binOp,Op.shift,this]) hg rfl hd hq h
theorem G.PN {t:TypeId}{x y:Operand}{yt:TypeId}{k1 k2:IntKind}{a b m:Int}{n:Nat} (hx:evS st x=some (.int k1 a)) (hy:evS st y=some (.int k2 b)) (hn:b=(n:Int)) (hm:a.fdiv (2 ^ (min n k1.bits))=m) (hg:wnB all st gd=true) (hd:Nat.blt d C.N=true) (hq:q.calm=some q') (h:G q' C all ((d,.int k1 m)::st) M rest k) :
  G q C all st M ({ dst:=some d,op:=.binOp .shr t x y yt,type:=ty,pos,after,guard:=gd }::rest) k :=
 G.op (OpV.QE (.inr rfl) hx hy fun w=>by
  subst hm;subst hn
  have:¬ (n:Int) < 0:=by omega
  simp [binOp,Op.shift,this]) hg rfl hd hq h
theorem G.Q1 {t:TypeId}{x y:Operand}{yt:TypeId}{ki:IntKind}{a b m:Int} (hx:evS st x=some (.int ki a)) (hy:evS st y=some (.int ki b)) (hm:ki.wrap ((BitVec.ofInt ki.bits a ||| BitVec.ofInt ki.bits b).toNat:Int)=m) (hg:wnB all st gd=true) (hd:Nat.blt d C.N=true) (hq:q.calm=some q') (h:G q' C all ((d,.int ki m)::st) M rest k) :
  G q C all st M ({ dst:=some d,op:=.binOp .or t x y yt,type:=ty,pos,after,guard:=gd }::rest) k :=
 G.op (OpV.PM hx hy fun w=>by subst hm;cases ki<;>rfl) hg rfl hd hq h
class uB (P:Program) (T:TypeId) (k:outParam IntKind):Prop where
 h:P.underlying T=some (.int k)
theorem G.PL {S T:TypeId}{x:Operand}{k1 k2:IntKind}{n m:Int} (hx:evS st x=some (.int k1 n)) [hS:uB C.P S k1] [hT:uB C.P T k2] (hm:k2.wrap n=m) (hg:wnB all st gd=true) (hd:Nat.blt d C.N=true) (hq:q.calm=some q') (h:G q' C all ((d,.int k2 m)::st) M rest k) :
  G q C all st M ({ dst:=some d,op:=.convert S T x,type:=ty,pos,after,guard:=gd }::rest) k :=
 G.op (OpV.of fun ac w hf _ dst pos after guard=>by
  subst hm;have h1:(underlying S).run C.P w=.ok (.int k1) w:=by simp [underlying,hS.h]
  have h2:(underlying T).run C.P w=.ok (.int k2) w:=by simp [underlying,hT.h]
  simp [execOp,hf.eval hx,convert,h1,h2,Conv.intToInt]) hg rfl hd hq h
theorem LdV.p2 {T:TypeId} [hT:gZ C.P T 2] {b tot:Nat}{e:TypeId}{u v x y:Value}{r:List Value} (hm:Row.blk b e (u::v::x::y::r) tot∈M):LdV C M T ⟨b,2,none⟩ (.agg #[x,y]) :=
 LdV.agg (vs:=[x,y]) rfl ⟨aC.blk hm rfl,aC.blk hm rfl,trivial⟩
theorem Sat.rowAt {w0 w:World}{b tot:Nat}{e:TypeId}{cs:List Value} (hw:Sat w0 M w) (hm:Row.blk b e cs tot∈M):bG w b 0 cs :=
 ⟨((hw.old _ hm).2 b rfl).2,fun j v hv=>by rw [Nat.zero_add];exact hw.cellBlk hm hv⟩
theorem G.cut {X:Type} (stF:X->List (Nat×Value)) (MF:X->List Row) {l:List Oper} (hk:∀ x,J C (stF x) (MF x) k) (h:(∀ x,J C (stF x) (MF x) k)->G q C all st M l k):G q C all st M l k:=h hk
theorem J.Rd {X:Type}{stF:X->List (Nat×Value)}{MF:X->List Row} (hk:∀ x,J C (stF x) (MF x) k) (x:X) {M':List Row} (hs:Sub st (stF x)) (hf:M'.Sublist M) (hp:M'.Perm (MF x)):J C st M k:=J.forget hf (J.perm hp (J.sub hs (hk x)))
theorem G.Q2 {T ty' E bytes size n m c i base:Nat}{z v:Value}{x y:Operand}{M0:List Row}{a:Option Addr}{xs news cs:List Value} (hg:wnB all st gd=true) (hd:Nat.blt d C.N=true) (hq:q.sto=some (M0,q'))
  (hx:evS st x=some v) (hm:M[i]?=some (.own base v E size n xs)) (hy:evS st y=some (.slice a m c)) [hT:cZ C.P T E z size bytes] (hs:cB C M a m size news) (hcs:xs++news=cs) (hb:(n+m)*bytes<=140737488355328) (hnm:n+m<=9223372036854775807) (hsub:∀ v',M0.Sublist (M.set i (.own 0 v' E size (n+m) cs)))
  (h:∀ v',G q' C all ((d,v')::st) (M.set i (.own 0 v' E size (n+m) cs)) rest k) :
  G q C all st M ({ dst:=some d,op:=.call { callee:=.builtin .append,args:=#[x,y],argTypes:=#[T,T] },type:=ty',pos,after,guard:=gd }::rest) k:=by
 subst hcs;refine G.Rg hg rfl hq (Eff.val hd fun ac w hf hw=>?_)
 obtain ⟨v',w',h1,h2⟩:=lG (T:=T) (dst:=some d) (ty':=ty') (pos:=pos) (after:=after) (gd:=gd) hf hw hx hm hy hs hb hnm;exact ⟨v',w',_,h1,h2,hsub v',h v'⟩
def bs (l:List UInt8):ByteArray:=⟨l.toArray⟩
theorem kP (l:List UInt8):(bs l).size=l.length:=by simp [bs,ByteArray.size]
theorem Nj (l:List UInt8) (i:Nat) (h:i < (bs l).size):(bs l)[i]=l[i]'(by rwa [kP] at h):=by
 rfl
theorem MD (s:ByteArray):bs s.data.toList=s:=by cases s;simp [bs]
theorem jO (l:List UInt8):(bs l).toList=l:=by
 simp [bs]
theorem HM (l m:List UInt8):bs l++bs m=bs (l++m):=by
 apply ByteArray.ext;simp [bs,ByteArray.data_append]
theorem zE (l:List UInt8) (a b:Nat):(bs l).extract a b=bs ((l.drop a).take (b-a)):=ByteArray.extract_mk l a b
def u8V (b:UInt8):List Value:=[.int .u8 (b.toNat:Int)]
theorem OpV.lenStr {T:TypeId} [hT:iD C.P T] {x:Operand}{l:List UInt8} (hx:evS st x=some (.string (bs l))):OpV C st M (.call { callee:=.builtin .len,args:=#[x],argTypes:=#[T] }) ty (.int .i64 l.length):=by
 have:=OpV.lenString (C:=C) (M:=M) (ty:=ty) (T:=T) hx
 rwa [kP] at this
theorem G.lenStr {T:TypeId}{x:Operand}{l:List UInt8} (hx:evS st x=some (.string (bs l))) [hT:iD C.P T] (hg:wnB all st gd=true) (hd:Nat.blt d C.N=true) (hq:q.calm=some q') (h:G q' C all ((d,.int .i64 l.length)::st) M rest k) :
  G q C all st M ({ dst:=some d,op:=.call { callee:=.builtin .len,args:=#[x],argTypes:=#[T] },type:=ty,pos,after,guard:=gd }::rest) k:=G.op (OpV.lenStr hx) hg rfl hd hq h
theorem G.QB {T:TypeId}{x y:Operand}{l:List UInt8}{ki:IntKind}{e:Int}{i:Nat} (hx:evS st x=some (.string (bs l))) (hy:evS st y=some (.int ki e)) (he:e=(i:Int)) (hi:i < l.length) [hT:iD C.P T] (hg:wnB all st gd=true) (hd:Nat.blt d C.N=true) (hq:q.calm=some q') (h:G q' C all ((d,.int .u8 ((l[i]).toNat:Int))::st) M rest k) :
  G q C all st M ({ dst:=some d,op:=.index T x y,type:=ty,pos,after,guard:=gd }::rest) k :=
 G.op (OpV.of fun ac w hf _ dst pos after guard=>by
  subst he;have hs:i < (bs l).size:=by rw [kP];exact hi
  have hc:0<=(i:Int)/\(i:Int) < ((bs l).size:Int):=by omega
  simp only [execOp,hf.eval hx,hf.eval hy,run_index_string w T (bs l) ki i hT.h,dif_pos hc,Sem.run_bind,Result.andThen_ok,Int.toNat_natCast,Nj];rfl) hg rfl hd hq h
theorem G.Qq {T:TypeId}{x lo hi:Operand}{l:List UInt8}{k1 k2:IntKind}{e1 e2:Int}{i j:Nat} (hx:evS st x=some (.string (bs l))) (hlo:evS st lo=some (.int k1 e1)) (hhi:evS st hi=some (.int k2 e2)) (he1:e1=(i:Int)) (he2:e2=(j:Int)) (h1:i<=j) (h2:j<=l.length) [hT:iD C.P T] (hg:wnB all st gd=true) (hd:Nat.blt d C.N=true) (hq:q.calm=some q') (h:G q' C all ((d,.string (bs ((l.drop i).take (j-i))))::st) M rest k) :
  G q C all st M ({ dst:=some d,op:=.slice T x (some lo) (some hi) none,type:=ty,pos,after,guard:=gd }::rest) k :=
 G.op (OpV.of fun ac w hf _ dst pos after guard=>by
  subst he1 he2;have hu:∀ w,(underlying T).run C.P w=.ok .string w:=fun w=>by simp [underlying,hT.h]
  have hr:=run_slice_string (P:=C.P) w T (bs l) k1 k2 i j hT.h om om (by rw [kP];omega)
  simp only [execOp,hf.eval hx,Option.map_some,hf.eval hlo,hf.eval hhi,Option.map_none,Instr.sliceAt,Sem.run_bind,hu,Result.andThen_ok,hr,Int.toNat_natCast,zE];rfl) hg rfl hd hq h
theorem G.PI {T:TypeId}{x lo:Operand}{l:List UInt8}{k1:IntKind}{e1:Int}{i:Nat} (hx:evS st x=some (.string (bs l))) (hlo:evS st lo=some (.int k1 e1)) (he1:e1=(i:Int)) (h1:i<=l.length) [hT:iD C.P T] (hg:wnB all st gd=true) (hd:Nat.blt d C.N=true) (hq:q.calm=some q') (h:G q' C all ((d,.string (bs (l.drop i)))::st) M rest k) :
  G q C all st M ({ dst:=some d,op:=.slice T x (some lo) none none,type:=ty,pos,after,guard:=gd }::rest) k :=
 G.op (OpV.of fun ac w hf _ dst pos after guard=>by
  subst he1;have hu:∀ w,(underlying T).run C.P w=.ok .string w:=fun w=>by simp [underlying,hT.h]
  have hr:=run_slice_string_from_if (P:=C.P) w T (bs l) k1 i hT.h;rw [if_pos (by rw [kP];omega)] at hr
  have e:(l.drop i).take (l.length-i)=l.drop i:=List.take_of_length_le (by simp)
  simp only [execOp,hf.eval hx,Option.map_some,hf.eval hlo,Option.map_none,Instr.sliceAt,Sem.run_bind,hu,Result.andThen_ok,hr,Int.toNat_natCast,zE,kP,e];rfl) hg rfl hd hq h
theorem OpV.PU {bop:BinOp}{t:TypeId}{x y:Operand}{yt:TypeId}{a b:ByteArray}{v:Value} (hx:evS st x=some (.string a)) (hy:evS st y=some (.string b)) (h:∀ w,(binOp bop t (.string a) (.string b)).run C.P w=.ok v w) :
  OpV C st M (.binOp bop t x y yt) ty v :=
 OpV.of fun ac w hf _ dst pos after guard=>by
  have hg:(eqGuard bop t x y (.string a) (.string b)).run C.P w=.ok () w:=by cases bop<;>rfl
  simp only [execOp,hf.eval hx,hf.eval hy,Sem.run_bind,hg,h,Result.andThen_ok];rfl
theorem G.Qb {t:TypeId}{x y:Operand}{yt:TypeId}{a b:List UInt8} (hx:evS st x=some (.string (bs a))) (hy:evS st y=some (.string (bs b))) (hl:a.length+b.length<=9223372036854775807) (hg:wnB all st gd=true) (hd:Nat.blt d C.N=true) (hq:q.calm=some q') (h:G q' C all ((d,.string (bs (a++b)))::st) M rest k) :
  G q C all st M ({ dst:=some d,op:=.binOp .add t x y yt,type:=ty,pos,after,guard:=gd }::rest) k :=
 G.op (OpV.PU hx hy fun w=>by rw [binOp_string_add,<- HM];exact run_string_add_sum (P:=C.P) (w:=w) (bs a) (bs b) (by rw [kP,kP];exact hl)) hg rfl hd hq h
theorem OpV.eqlStr {t:TypeId}{x y:Operand}{yt:TypeId}{a b:List UInt8} (hx:evS st x=some (.string (bs a))) (hy:evS st y=some (.string (bs b))):OpV C st M (.binOp .eql t x y yt) ty (.bool (decide (a=b))) :=
 OpV.PU hx hy fun w=>by
  rw [binOp_string_eql,jO,jO]
  have:(a == b)=decide (a=b):=by by_cases h:a=b<;>simp [h]
  rw [this];rfl
theorem OpV.neqStr {t:TypeId}{x y:Operand}{yt:TypeId}{a b:List UInt8} (hx:evS st x=some (.string (bs a))) (hy:evS st y=some (.string (bs b))):OpV C st M (.binOp .neq t x y yt) ty (.bool (!decide (a=b))) :=
 OpV.PU hx hy fun w=>by
  rw [binOp_string_neq,jO,jO]
  have:(a == b)=decide (a=b):=by by_cases h:a=b<;>simp [h]
  rw [this];rfl
theorem G.eqlStr {t:TypeId}{x y:Operand}{yt:TypeId}{a b:List UInt8} (hx:evS st x=some (.string (bs a))) (hy:evS st y=some (.string (bs b))) (hg:wnB all st gd=true) (hd:Nat.blt d C.N=true) (hq:q.calm=some q') (h1:a=b->G q' C all ((d,.bool true)::st) M rest k) (h2:a≠b->G q' C all ((d,.bool false)::st) M rest k) :
  G q C all st M ({ dst:=some d,op:=.binOp .eql t x y yt,type:=ty,pos,after,guard:=gd }::rest) k:=by
 refine G.PP (OpV.eqlStr hx hy) hg rfl hd hq (fun e=>h1 (of_decide_eq_true e)) (fun e=>h2 (of_decide_eq_false e))
theorem G.neqStr {t:TypeId}{x y:Operand}{yt:TypeId}{a b:List UInt8} (hx:evS st x=some (.string (bs a))) (hy:evS st y=some (.string (bs b))) (hg:wnB all st gd=true) (hd:Nat.blt d C.N=true) (hq:q.calm=some q') (h1:a=b->G q' C all ((d,.bool false)::st) M rest k) (h2:a≠b->G q' C all ((d,.bool true)::st) M rest k) :
  G q C all st M ({ dst:=some d,op:=.binOp .neq t x y yt,type:=ty,pos,after,guard:=gd }::rest) k:=by
 refine G.PP (OpV.neqStr hx hy) hg rfl hd hq (fun e=>h2 (by simpa using e)) (fun e=>h1 (by simpa using e))
theorem G.Qs {t:TypeId}{x y:Operand}{yt:TypeId}{a b:List UInt8} (hx:evS st x=some (.string (bs a))) (hy:evS st y=some (.string (bs b))) (hg:wnB all st gd=true) (hd:Nat.blt d C.N=true) (hq:q.calm=some q') (h1:Op.bytesLess a b=true->G q' C all ((d,.bool true)::st) M rest k) (h2:Op.bytesLess a b=false->G q' C all ((d,.bool false)::st) M rest k) :
  G q C all st M ({ dst:=some d,op:=.binOp .lss t x y yt,type:=ty,pos,after,guard:=gd }::rest) k :=
 G.PP (OpV.PU hx hy fun w=>by rw [binOp_string_lss,jO,jO];rfl) hg rfl hd hq h1 h2
class IY (P:Program) (T E:TypeId):Prop where
 h1:P.underlying T=some (.slice E)
 h2:P.underlying E=some (.int .u8)
theorem G.Qz {S T E:TypeId}{x:Operand}{l:List UInt8} (hx:evS st x=some (.string (bs l))) [hS:iD C.P S] [hT:IY C.P T E] (hg:wnB all st gd=true) (hd:Nat.blt d C.N=true) (hq:q.ext=some q')
  (h:∀ B c,G q' C all ((d,.slice (some ⟨B,0,none⟩) l.length c)::st) (aL C.w0.heap.size (some ⟨B,0,none⟩) 1 (l.map u8V)::M) rest k) :
  G q C all st M ({ dst:=some d,op:=.convert S T x,type:=ty,pos,after,guard:=gd }::rest) k:=by
 refine G.ext hg rfl hq (Eff.val hd fun ac w hf hw=>?_)
 have hr:=run_bytes_of_string (P:=C.P) w S T E (bs l) hS.h hT.h1 hT.h2;rw [kP] at hr;have hb:Below w.heap.size w (w.drew.alloc (.cells (bytesRow (bs l) (grownCap w l.length 0 E)) E ((bytesRow (bs l) (grownCap w l.length 0 E)).size,(bytesRow (bs l) (grownCap w l.length 0 E)).size+1))):=((Below.refl _ w).drew).alloc (Nat.le_refl _) _;have hnew:(w.drew.alloc (.cells (bytesRow (bs l) (grownCap w l.length 0 E)) E ((bytesRow (bs l) (grownCap w l.length 0 E)).size,(bytesRow (bs l) (grownCap w l.length 0 E)).size+1))).heap[w.heap.size]?=some (.cells (bytesRow (bs l) (grownCap w l.length 0 E)) E ((bytesRow (bs l) (grownCap w l.length 0 E)).size,(bytesRow (bs l) (grownCap w l.length 0 E)).size+1)):=World.alloc_heap_new w.drew _;generalize hw2:w.drew.alloc (.cells (bytesRow (bs l) (grownCap w l.length 0 E)) E ((bytesRow (bs l) (grownCap w l.length 0 E)).size,(bytesRow (bs l) (grownCap w l.length 0 E)).size+1))=w2 at *;have hsz:w.heap.size < w2.heap.size:=(Array.getElem?_eq_some_iff.1 hnew).1;refine ⟨_,w2,_,by simp only [execOp,hf.eval hx,Sem.run_bind,hr,Result.andThen_ok];rfl,hw.new hb (r:=aL C.w0.heap.size (some ⟨w.heap.size,0,none⟩) 1 (l.map u8V)) (fun _=>⟨w.heap.size,0,rfl,fun i cs hi=>⟨hsz,fun j v hv=>?_⟩⟩) (Nat.le_refl _) fun b hb=>?_,List.sublist_cons_self _ _,h w.heap.size _⟩
 ·rw [List.getElem?_map] at hi
  obtain ⟨x,hx2,rfl⟩:=Option.map_eq_some_iff.1 hi;obtain ⟨hi2,rfl⟩:=List.getElem?_eq_some_iff.1 hx2;have hj:j=0:=by
   have:=(List.getElem?_eq_some_iff.1 hv).1;simp [u8V] at this;exact this
  subst hj;have hv2:Value.int .u8 ((l[i]).toNat:Int)=v:=by simpa [u8V] using hv
  subst hv2;simp [World.cell?,hnew,bytesRow,bs,Array.getElem?_append,hi2]
 ·obtain ⟨-,p,hp,hpb,-⟩:=hb
  cases hp;dsimp only at hpb;subst hpb;exact ⟨Nat.le_refl _,hsz⟩
theorem G.PJ {S T E:TypeId}{x:Operand}{a:Option Addr}{n c:Nat}{l:List UInt8} (hx:evS st x=some (.slice a n c)) (hn:l.length=n) [hS:iD C.P S] [hT:IY C.P T E] (ha:∀ w,Sat C.w0 (q.cls M) w->aE w a 1 (l.map u8V)) (hg:wnB all st gd=true) (hd:Nat.blt d C.N=true) (hq:q.calm=some q')
  (h:G q' C all ((d,.string (bs l))::st) M rest k) :
  G q C all st M ({ dst:=some d,op:=.convert T S x,type:=ty,pos,after,guard:=gd }::rest) k:=by
 subst hn;refine G.op (OpV.of fun ac w hf hw dst pos after guard=>?_) hg rfl hd hq h
 have hs:=ha w hw;have key:(convert T S (.slice a l.length c)).run C.P w=.ok (.string (bs l)) w:=by
  cases a with
  | none =>
   have h0:l=[]:=by
    rcases Nat.eq_zero_or_pos l.length with h0|h0
    ·exact List.length_eq_zero_iff.1 h0
    ·obtain ⟨b,off,e,-⟩:=hs (by simpa using h0)
     cases e
   subst h0;rw [run_convert_bytes_string w T S E none _ c hT.h1 hT.h2 hS.h];rfl
  | some ad =>
   refine run_convert_bytes_back w T S E ad c l hT.h1 hT.h2 hS.h fun j hj=>?_
   obtain ⟨b,off,e,hr⟩:=hs (by simp;omega)
   cases e;have:=(hr j (u8V l[j]) (by simp [gE hj])).2 0 _ rfl
   rw [dS,dV];simpa using this
 simp only [execOp,hf.eval hx,Sem.run_bind,key,Result.andThen_ok];rfl
theorem append_empty {P:Program}{w:World}{T E bytes size m c:Nat}{z:Value}{ty':TypeId}{a:Option Addr}{ad:Addr} [hT:cZ P T E z size bytes] (hm:0 < m) (hb:m*bytes<=140737488355328) :
  (Builtin.append_ #[T,T] ty' #[.slice a 0 0,.slice (some ad) m c]).run P w=(Builtin.append_ #[T,T] ty' #[.slice none 0 0,.slice (some ad) m c]).run P w:=by
 obtain ⟨inf,hi,hz,hsize,hby⟩:=info_parts hT.h2;have h1:Builtin.nextslicecap m 0=m:=by unfold Builtin.nextslicecap;rw [if_pos om]
 have h2:¬ (m*bytes > 2 ^ 48):=by omega
 cases a with
 | none=>rfl
 | some p =>
  have h3:∀ w,(loadCells p 0).run P w=.ok #[] w:=fun w=>rfl
  simp [Builtin.append_,run_underlying hT.h1,sizeOf,typeInfo,hi,Builtin.lenOf,Builtin.firstCells,h1,hby,h2,h3,show ¬ m=0 by omega,show ¬ m<=0 by omega]
end Go.Sl
/-
 One lemma for all operations that ask nothing of memory or of types;short forms of the others.
-/
namespace Go.Sl
open Go.RowKit
variable {C:Ctx}{st:List (Nat×Value)}{M:List Row}{k:List Item}{q q':Md}{all rest:List Oper}{d:Nat}{opn:Op}{ty:TypeId}{pos:String}{after:Array Edge}{gd:Option (Nat×Bool)}
def bA (all:List Oper) (st:List (Nat×Value)) (gd:Option (Nat×Bool)) (d N:Nat) (q:Option Md):Option Md :=
 match wnB all st gd with
 | true=>match Nat.blt d N with
  | true=>q
  | false=>none
 | false=>none
theorem aJ {N:Nat}{qo:Option Md} (h:bA all st gd d N qo=some q'):wnB all st gd=true/\Nat.blt d N=true/\qo=some q':=by
 unfold bA at h
 split at h
 ·rename_i h1
  split at h
  ·rename_i h2;exact ⟨h1,h2,h⟩
  ·cases h
 ·cases h
def inK (k:IntKind) (r:Int):Option (Prop×Value) :=
 match k with
 | .i8=>some (-128<=r/\r<=127,.int .i8 r)
 | .i16=>some (-32768<=r/\r<=32767,.int .i16 r)
 | .i32=>some (-2147483648<=r/\r<=2147483647,.int .i32 r)
 | .i64=>some (-9223372036854775808<=r/\r<=9223372036854775807,.int .i64 r)
 | .u8=>some (0<=r/\r<=255,.int .u8 r)
 | .u16=>some (0<=r/\r<=65535,.int .u16 r)
 | .u32=>some (0<=r/\r<=4294967295,.int .u32 r)
 | .u64=>some (0<=r/\r<=18446744073709551615,.int .u64 r)
theorem CK {k:IntKind}{r:Int}{c:Prop}{v:Value} (h:inK k r=some (c,v)) (hc:c):v=.int k r/\k.wrap r=r:=by
 cases k<;>(simp only [inK,Option.some.injEq,Prod.mk.injEq] at h;obtain ⟨rfl,rfl⟩:=h;refine ⟨rfl,?_⟩;simp [IntKind.wrap,IntKind.bits,IntKind.signed];omega)
def arO (bop:BinOp) (k:IntKind) (a b:Int):Option (Prop×Value) :=
 match bop with
 | .add=>inK k (a+b)
 | .sub=>inK k (a-b)
 | .mul=>inK k (a*b)
 | .quo=>match inK k a with
  | some (c,_)=>some (c/\0<=a/\0 < b,.int k (a / b))
  | none=>none
 | .rem=>some (0<=a/\0 < b,.int k (a % b))
 | _=>none
theorem HN {P:Program}{w:World}{t:TypeId}{k:IntKind}{a b:Int}:(binOp .add t (.int k a) (.int k b)).run P w=.ok (.int k (k.wrap (a+b))) w:=by cases k<;>rfl
theorem HO {P:Program}{w:World}{t:TypeId}{k:IntKind}{a b:Int}:(binOp .sub t (.int k a) (.int k b)).run P w=.ok (.int k (k.wrap (a-b))) w:=by cases k<;>rfl
theorem HP {P:Program}{w:World}{t:TypeId}{k:IntKind}{a b:Int}:(binOp .mul t (.int k a) (.int k b)).run P w=.ok (.int k (k.wrap (a*b))) w:=by cases k<;>rfl
theorem Nk {P:Program}{t:TypeId}{bop:BinOp}{ki:IntKind}{a b:Int}{c:Prop}{v:Value} (h:arO bop ki a b=some (c,v)) (hc:c) (w:World):(binOp bop t (.int ki a) (.int ki b)).run P w=.ok v w:=by
 cases bop with
 | add=>obtain ⟨rfl,h2⟩:=CK h hc;rw [HN,h2]
 | sub=>obtain ⟨rfl,h2⟩:=CK h hc;rw [HO,h2]
 | mul=>obtain ⟨rfl,h2⟩:=CK h hc;rw [HP,h2]
 | quo =>
  obtain ⟨c',v',hi⟩:∃ c' v',inK ki a=some (c',v'):=by cases ki<;>exact ⟨_,_,rfl⟩
  simp only [arO,hi,Option.some.injEq,Prod.mk.injEq] at h
  obtain ⟨rfl,rfl⟩:=h;obtain ⟨h0,h1,h2⟩:=hc;have hb:b≠0:=by omega
  have h4:0<=a / b:=Int.ediv_nonneg h1 om;have h5:a / b<=a:=Int.ediv_le_self _ h1;have h3:ki.wrap (a / b)=a / b:=by
   generalize a / b=q at h4 h5;cases ki<;>(simp only [inK,Option.some.injEq,Prod.mk.injEq] at hi;obtain ⟨rfl,rfl⟩:=hi;simp [IntKind.wrap,IntKind.bits,IntKind.signed];omega)
  simp [binOp,Op.intDiv,hb,Int.tdiv_eq_ediv_of_nonneg h1,h3]
 | rem =>
  simp only [arO,Option.some.injEq,Prod.mk.injEq] at h
  obtain ⟨rfl,rfl⟩:=h;obtain ⟨h1,h2⟩:=hc;have hb:b≠0:=by omega
  simp [binOp,Op.intDiv,hb,Int.tmod_eq_emod_of_nonneg h1]
 | _=>simp [arO] at h
def evO (st:List (Nat×Value)) (o:Op):Option (Prop×Value) :=
 match o with
 | .move x=>match evS st x with
  | some v=>some (True,v)
  | none=>none
 | .assign x=>match evS st x with
  | some v=>some (True,v)
  | none=>none
 | .pick c x y=>match evS st c with
  | some (.bool b)=>match b with
   | true=>match evS st x with
    | some v=>some (True,v)
    | none=>none
   | false=>match evS st y with
    | some v=>some (True,v)
    | none=>none
  | _=>none
 | .unOp .not _ x=>match evS st x with
  | some (.bool b)=>match b with
   | true=>some (True,.bool false)
   | false=>some (True,.bool true)
  | _=>none
 | .unOp .neg _ x=>match evS st x with
  | some (.int .i64 a)=>inK .i64 (-a)
  | _=>none
 | .extract x i=>match evS st x with
  | some (.tuple vs)=>match vs.toList[i]? with
   | some v=>some (True,v)
   | none=>none
  | _=>none
 | .binOp bop _ x y _=>match evS st x with
  | some (.int k a)=>match evS st y with
   | some (.int k' b)=>match decide (k'=k) with
    | true=>arO bop k a b
    | false=>none
   | _=>none
  | _=>none
 | _=>none
theorem Nl {c:Prop}{v:Value} (h:evO st opn=some (c,v)) (hc:c):OpV C st M opn ty v/\oU opn=true:=by
 unfold evO at h
 split at h
 ·split at h
  ·rename_i hx;cases h;exact ⟨OpV.move hx,rfl⟩
  ·cases h
 ·split at h
  ·rename_i hx;cases h;exact ⟨OpV.assign hx,rfl⟩
  ·cases h
 ·split at h
  ·rename_i b hb
   cases b with
   | true =>
    simp only at h
    split at h
    ·rename_i hx;cases h;exact ⟨OpV.pickT hb hx,rfl⟩
    ·cases h
   | false =>
    simp only at h
    split at h
    ·rename_i hx;cases h;exact ⟨OpV.pickF hb hx,rfl⟩
    ·cases h
  ·cases h
 ·split at h
  ·rename_i b hb
   cases b with
   | true=>cases h;exact ⟨OpV.not hb,rfl⟩
   | false=>cases h;exact ⟨OpV.not hb,rfl⟩
  ·cases h
 ·split at h
  ·rename_i a ha
   simp only [inK,Option.some.injEq,Prod.mk.injEq] at h
   obtain ⟨rfl,rfl⟩:=h;exact ⟨OpV.neg ha hc.1 hc.2,rfl⟩
  ·cases h
 ·split at h
  ·rename_i vs hx
   split at h
   ·rename_i hv;cases h;exact ⟨OpV.extract hx (by simpa using hv),rfl⟩
   ·cases h
  ·cases h
 ·split at h
  ·rename_i k a hx
   split at h
   ·rename_i k' b hy
    split at h
    ·rename_i hk
     have e:k'=k:=of_decide_eq_true hk;subst e;exact ⟨OpV.PM hx hy fun w=>Nk h hc w,rfl⟩
    ·cases h
   ·cases h
  ·cases h
 ·cases h
theorem G.pu {c:Prop}{v:Value} (h:evO st opn=some (c,v)) (hs:bA all st gd d C.N q.calm=some q') (hc:c) (hh:G q' C all ((d,v)::st) M rest k) :
  G q C all st M ({ dst:=some d,op:=opn,type:=ty,pos,after,guard:=gd }::rest) k :=
 let ⟨h1,h2,h3⟩:=aJ hs
 let ⟨h4,h5⟩:=Nl (C:=C) (M:=q.cls M) (ty:=ty) h hc
 G.op h4 h1 h5 h2 h3 hh
def cmR (bop:BinOp) (a b:Int):Option (Prop×Prop) :=
 match bop with
 | .lss=>some (a < b,b<=a)
 | .leq=>some (a<=b,b < a)
 | .gtr=>some (b < a,a<=b)
 | .geq=>some (b<=a,a < b)
 | .eql=>some (a=b,a≠b)
 | .neq=>some (a≠b,a=b)
 | _=>none
def cmO (st:List (Nat×Value)) (o:Op):Option (Prop×Prop) :=
 match o with
 | .binOp bop _ x y _=>match evS st x with
  | some (.int k a)=>match evS st y with
   | some (.int k' b)=>match decide (k'=k) with
    | true=>cmR bop a b
    | false=>none
   | _=>none
  | _=>none
 | _=>none
theorem Nm {p n:Prop} (h:cmO st opn=some (p,n)):∃ b:Bool,OpV C st M opn ty (.bool b)/\(b=true->p)/\(b=false->n)/\oU opn=true:=by
 unfold cmO at h
 split at h
 ·split at h
  ·rename_i k a hx
   split at h
   ·rename_i k' b hy
    split at h
    ·rename_i hk
     have e:k'=k:=of_decide_eq_true hk;subst e;unfold cmR at h
     split at h
     ·cases h;exact ⟨_,OpV.lss hx hy,fun h=>of_decide_eq_true h,fun h=>by have:=of_decide_eq_false h;omega,rfl⟩
     ·cases h;exact ⟨_,OpV.leq hx hy,fun h=>of_decide_eq_true h,fun h=>by have:=of_decide_eq_false h;omega,rfl⟩
     ·cases h;exact ⟨_,OpV.gtr hx hy,fun h=>of_decide_eq_true h,fun h=>by have:=of_decide_eq_false h;omega,rfl⟩
     ·cases h;exact ⟨_,OpV.geq hx hy,fun h=>of_decide_eq_true h,fun h=>by have:=of_decide_eq_false h;omega,rfl⟩
     ·cases h;exact ⟨_,OpV.eql hx hy,fun h=>of_decide_eq_true h,fun h=>of_decide_eq_false h,rfl⟩
     ·cases h;exact ⟨_,OpV.neq hx hy,fun h=>of_decide_eq_true h,fun h=>by have:=of_decide_eq_false h;omega,rfl⟩
     ·cases h
    ·cases h
   ·cases h
  ·cases h
 ·cases h
theorem G.cm {p n:Prop} (h:cmO st opn=some (p,n)) (hs:bA all st gd d C.N q.calm=some q') (h1:p->G q' C all ((d,.bool true)::st) M rest k) (h2:n->G q' C all ((d,.bool false)::st) M rest k) :
  G q C all st M ({ dst:=some d,op:=opn,type:=ty,pos,after,guard:=gd }::rest) k :=
 let ⟨g1,g2,g3⟩:=aJ hs
 let ⟨_,h4,h5,h6,h7⟩:=Nm (C:=C) (M:=q.cls M) (ty:=ty) h
 G.PP h4 g1 h7 g2 g3 (fun e=>h1 (h5 e)) (fun e=>h2 (h6 e))
theorem G.fa {T f off:Nat}{x:Operand}{b o:Nat} (hx:evS st x=some (.pointer (some ⟨b,o,none⟩))) [hT:aV C.P T f off] (hs:bA all st gd d C.N q.calm=some q') (h:G q' C all ((d,.pointer (some ⟨b,CH o off,none⟩))::st) M rest k) :
  G q C all st M ({ dst:=some d,op:=.fieldAddr T x f,type:=ty,pos,after,guard:=gd }::rest) k :=
 let ⟨g1,g2,g3⟩:=aJ hs
 G.fieldAddr hx g1 g2 g3 h
theorem G.ix {T E sz:Nat}{x y:Operand}{b o n c:Nat}{ki:IntKind}{i:Nat}{e:Int} (hx:evS st x=some (.slice (some ⟨b,o,none⟩) n c)) (hy:evS st y=some (.int ki e)) (he:e=(i:Int)) (hi:i < n) [hT:bN C.P T E sz] (hs:bA all st gd d C.N q.calm=some q') (h:G q' C all ((d,.pointer (some ⟨b,o+i*sz,none⟩))::st) M rest k) :
  G q C all st M ({ dst:=some d,op:=.indexAddr T x y,type:=ty,pos,after,guard:=gd }::rest) k :=
 let ⟨g1,g2,g3⟩:=aJ hs
 G.indexAddr hx hy he hi g1 g2 g3 h
theorem G.ld {T:TypeId}{x:Operand}{p:Addr}{v:Value} (hx:evS st x=some (.pointer (some p))) (hl:LdV C (q.cls M) T p v) (hs:bA all st gd d C.N q.calm=some q') (h:G q' C all ((d,v)::st) M rest k) :
  G q C all st M ({ dst:=some d,op:=.load T x,type:=ty,pos,after,guard:=gd }::rest) k :=
 let ⟨g1,g2,g3⟩:=aJ hs
 G.load hx hl g1 g2 g3 h
theorem G.ls {T E sz:TypeId}{x:Operand}{a:Option Addr}{n c:Nat} (hx:evS st x=some (.slice a n c)) [hT:bN C.P T E sz] (hs:bA all st gd d C.N q.calm=some q') (h:G q' C all ((d,.int .i64 n)::st) M rest k) :
  G q C all st M ({ dst:=some d,op:=.call { callee:=.builtin .len,args:=#[x],argTypes:=#[T] },type:=ty,pos,after,guard:=gd }::rest) k :=
 let ⟨g1,g2,g3⟩:=aJ hs
 G.lenSlice hx g1 g2 g3 h
theorem G.lt {T:TypeId}{x:Operand}{l:List UInt8} (hx:evS st x=some (.string (bs l))) [hT:iD C.P T] (hs:bA all st gd d C.N q.calm=some q') (h:G q' C all ((d,.int .i64 l.length)::st) M rest k) :
  G q C all st M ({ dst:=some d,op:=.call { callee:=.builtin .len,args:=#[x],argTypes:=#[T] },type:=ty,pos,after,guard:=gd }::rest) k :=
 let ⟨g1,g2,g3⟩:=aJ hs
 G.lenStr hx g1 g2 g3 h
theorem G.bu {T:TypeId}{zero:List Value}{place:List (Nat×Nat)}{parts:List (Nat×Operand)}{vs:List (Nat×Value)}{out:List Value} (hp:Sl.evP st parts=some vs) [hT:dN C.P T zero place] (ho:uA place zero vs=some out) (hs:bA all st gd d C.N q.calm=some q') (h:G q' C all ((d,.agg out.toArray)::st) M rest k) :
  G q C all st M ({ dst:=some d,op:=.build T parts.toArray,type:=ty,pos,after,guard:=gd }::rest) k :=
 let ⟨g1,g2,g3⟩:=aJ hs
 G.build hp ho g1 g2 g3 h
theorem G.mx {ts:Array TypeId}{x y:Operand}{ki:IntKind}{a b:Int} (hx:evS st x=some (.int ki a)) (hy:evS st y=some (.int ki b)) (hs:bA all st gd d C.N q.calm=some q') (h:G q' C all ((d,.int ki (Max.max a b))::st) M rest k) :
  G q C all st M ({ dst:=some d,op:=.call { callee:=.builtin .max,args:=#[x,y],argTypes:=ts },type:=ty,pos,after,guard:=gd }::rest) k :=
 let ⟨g1,g2,g3⟩:=aJ hs
 G.Ro hx hy g1 g2 g3 h
theorem G.mn {ts:Array TypeId}{x y:Operand}{ki:IntKind}{a b:Int} (hx:evS st x=some (.int ki a)) (hy:evS st y=some (.int ki b)) (hs:bA all st gd d C.N q.calm=some q') (h:G q' C all ((d,.int ki (Min.min a b))::st) M rest k) :
  G q C all st M ({ dst:=some d,op:=.call { callee:=.builtin .min,args:=#[x,y],argTypes:=ts },type:=ty,pos,after,guard:=gd }::rest) k :=
 let ⟨g1,g2,g3⟩:=aJ hs
 G.Rm hx hy g1 g2 g3 h
theorem G.bx {T:TypeId}{x:Operand}{v:Value}{cs:List Value} (hs:bA all st gd d C.N q.ext=some q') (hx:evS st x=some v) (hcs:v.cells=cs.toArray)
  (h:∀ B,G q' C all ((d,.pointer (some ⟨B,0,none⟩))::st) (.blk B T cs cs.length::M) rest k) :
  G q C all st M ({ dst:=some d,op:=.box T x,type:=ty,pos,after,guard:=gd }::rest) k :=
 let ⟨g1,g2,g3⟩:=aJ hs
 G.box g1 g2 g3 hx hcs h
theorem G.al {T:TypeId}{cs:List Value} [hz:fW C.P T cs] (hs:bA all st gd d C.N q.ext=some q')
  (h:∀ B,G q' C all ((d,.pointer (some ⟨B,0,none⟩))::st) (.blk B T cs cs.length::M) rest k) :
  G q C all st M ({ dst:=some d,op:=.alloc T,type:=ty,pos,after,guard:=gd }::rest) k :=
 let ⟨g1,g2,g3⟩:=aJ hs
 G.alloc g1 g2 g3 h
theorem G.cv {S T:TypeId}{x:Operand}{k1 k2:IntKind}{n:Int}{c:Prop}{v:Value} (hx:evS st x=some (.int k1 n)) [hS:uB C.P S k1] [hT:uB C.P T k2] (hi:inK k2 n=some (c,v)) (hs:bA all st gd d C.N q.calm=some q') (hc:c) (h:G q' C all ((d,v)::st) M rest k) :
  G q C all st M ({ dst:=some d,op:=.convert S T x,type:=ty,pos,after,guard:=gd }::rest) k:=by
 obtain ⟨g1,g2,g3⟩:=aJ hs;obtain ⟨rfl,h2⟩:=CK hi hc;exact G.PL hx h2 g1 g2 g3 h
def skB (all:List Oper) (st:List (Nat×Value)) (gd:Option (Nat×Bool)) (d N:Nat) (q:Option Md):Option Md :=
 match gd with
 | some (j,want)=>match (all.toArray[j]?).bind (·.dst) with
  | some t=>match kM st t with
   | some v=>match IU v want with
    | true=>match Nat.blt d N with
     | true=>q
     | false=>none
    | false=>none
   | none=>none
  | none=>none
 | none=>none
theorem G.sk (hs:skB all st gd d C.N q.calm=some q') (h:G q' C all ((d,undef)::st) M rest k) :
  G q C all st M ({ dst:=some d,op:=opn,type:=ty,pos,after,guard:=gd }::rest) k:=by
 unfold skB at hs;split at hs
 ·split at hs
  ·rename_i h1
   split at hs
   ·rename_i h2
    split at hs
    ·rename_i h3
     split at hs
     ·rename_i h4;exact G.skip h1 h2 h3 h4 hs h
     ·cases hs
    ·cases hs
   ·cases hs
  ·cases hs
 ·cases hs
inductive RAt (r:Row):List Row->(Row->List Row)->Prop
 | head {M:List Row}:RAt r (r::M) (fun r'=>r'::M)
 | tail {s:Row}{M:List Row}{F:Row->List Row} (h:RAt r M F):RAt r (s::M) (fun r'=>s::F r')
theorem RAt.idx {r:Row}{M:List Row}{F:Row->List Row} (h:RAt r M F):∃ i,M[i]?=some r/\∀ r',M.set i r'=F r':=by
 induction h with
 | head=>exact ⟨0,rfl,fun _=>rfl⟩
 | tail h ih=>obtain ⟨i,h1,h2⟩:=ih;exact ⟨i+1,by simpa using h1,fun r'=>by simp [h2]⟩
def wqB (all:List Oper) (st:List (Nat×Value)) (gd:Option (Nat×Bool)) (q:Option Md):Option Md :=
 match wnB all st gd with
 | true=>q
 | false=>none
theorem pL {qo:Option Md} (h:wqB all st gd qo=some q'):wnB all st gd=true/\qo=some q':=by
 unfold wqB at h
 split at h
 ·rename_i h1;exact ⟨h1,h⟩
 ·cases h
def stB (v:Value) (j n:Nat) (cs:List Value):Option (List Value) :=
 match v.cells.toList with
 | vs=>match (vs.all (·.oneCell') && Nat.ble (j+vs.length) cs.length && Nat.beq vs.length n) with
  | true=>some (dU cs j vs)
  | false=>none
theorem IZ {v:Value}{j n:Nat}{cs out:List Value} (h:stB v j n cs=some out):∃ vs:List Value,v.cells=vs.toArray/\vs.all (·.oneCell')=true/\Nat.ble (j+vs.length) cs.length=true/\vs.length=n/\dU cs j vs=out:=by
 unfold stB at h
 simp only at h
 split at h
 ·rename_i h1
  simp only [Bool.and_eq_true] at h1;refine ⟨v.cells.toList,by simp,h1.1.1,h1.1.2,Nat.eq_of_beq_eq_true h1.2,by simpa using h⟩
 ·cases h
theorem G.so {T n:TypeId}{x y:Operand}{v:Value}{b j tot:Nat}{e:TypeId}{cs out:List Value}{F:Row->List Row} (hs:wqB all st gd q.res=some q')
  (hx:evS st x=some (.pointer (some ⟨b,j,none⟩))) (hm:RAt (.blk b e cs tot) M F) (hy:evS st y=some v) [hT:cP C.P T n] (ho:stB v j n cs=some out)
  (h:G q' C all st (F (.blk b e out tot)) rest k) :
  G q C all st M ({ dst:=none,op:=.store T x y,type:=ty,pos,after,guard:=gd }::rest) k:=by
 obtain ⟨g1,g2⟩:=pL hs;obtain ⟨vs,h1,h2,h3,h4,rfl⟩:=IZ ho;obtain ⟨i,h5,h6⟩:=hm.idx;rw [<- h6] at h
 exact G.store g1 g2 hx h5 hy h1 h2 h3 h4 h
theorem G.ss {T n:TypeId}{x y:Operand}{v:Value}{b j tot:Nat}{e:TypeId}{cs:List Value}{F:Row->List Row} (hs:wqB all st gd q.ext=some q')
  (hx:evS st x=some (.pointer (some ⟨b,j,none⟩))) (hm:RAt (.blk b e cs tot) M F) (hy:evS st y=some v) [hT:cP C.P T n] (ho:stB v j n cs=some cs)
  (h:G q' C all st M rest k) :
  G q C all st M ({ dst:=none,op:=.store T x y,type:=ty,pos,after,guard:=gd }::rest) k:=by
 obtain ⟨g1,g2⟩:=pL hs;obtain ⟨vs,h1,h2,h3,h4,h6⟩:=IZ ho;obtain ⟨i,h5,-⟩:=hm.idx;exact G.Ql g1 g2 hx h5 hy h1 h2 h3 h6 h4 h
theorem Ek {P:Program}{b:Frame}{a:Act}{k:List Item}{cs:List Frame}{w:World}{c:Code}:step P (lone (b.atR a (.code (.scope c)::k)) cs w)=.next (lone (b.atR a (.code c::.inScope c::k)) cs w) :=
 step_lone_go (by simp [stepG,stepG.exec,Frame.atR])
theorem BD {P:Program}{b:Frame}{a:Act}{k:List Item}{cs:List Frame}{w:World}{c:Code}:step P (lone (b.atR a (.inScope c::k)) cs w)=.next (lone (b.atR a k) cs w) :=
 step_lone_go (by simp [stepG,stepG.exec,Frame.atR])
theorem J.scope {c:Code} (h:J C st M (.code c::.inScope c::k)):J C st M (.code (.scope c)::k):=.mk fun a w hf hd hw=>(h.go a w hf hd hw).step fun _=>Ek
theorem J.inScope {c:Code} (h:J C st M k):J C st M (.inScope c::k):=.mk fun a w hf hd hw=>(h.go a w hf hd hw).step fun _=>BD
theorem J.goto {l:Nat}{k':List Item} (hk:gotoIn l k=some k') (h:J C st M k'):J C st M (.code (.goto l)::k):=.mk fun a w hf hd hw=>(h.go a w hf hd hw).step fun _=>stepR_goto hk
def ctl (st:List (Nat×Value)):List Item->Option (List Item)
 | .code .skip::k=>some k
 | .code (.label _)::k=>some k
 | .code (.seq x y)::k=>some (.code x::.code y::k)
 | .code (.block id c)::k=>some (.code c::.inBlock id::k)
 | .inBlock _::k=>some k
 | .code (.scope c)::k=>some (.code c::.inScope c::k)
 | .inScope _::k=>some k
 | .code (.goto l)::k=>gotoIn l k
 | .code (.exit id)::k=>exitTo id k
 | .code (.cond c x y)::k=>match evS st c with
  | some (.bool b)=>match b with
   | true=>some (.code x::k)
   | false=>some (.code y::k)
  | _=>none
 | _=>none
theorem Ja {l l':List Item} (h:ctl st l=some l') (hh:J C st M l'):J C st M l:=by
 unfold ctl at h
 split at h
 ·cases h;exact J.skip hh
 ·cases h;exact J.label hh
 ·cases h;exact J.seq hh
 ·cases h;exact J.block hh
 ·cases h;exact J.inBlock hh
 ·cases h;exact J.scope hh
 ·cases h;exact J.inScope hh
 ·exact J.goto h hh
 ·exact J.exit h hh
 ·split at h
  ·rename_i b hb
   cases b with
   | true=>cases h;exact J.QL hb hh
   | false=>cases h;exact J.QM hb hh
  ·cases h
 ·cases h
def Lq:Nat->List (Nat×Value)->List Item->Option (List Item)
 | 0,_,_=>none
 | n+1,st,l=>match ctl st l with
  | some l'=>match Lq n st l' with
   | some l2=>some l2
   | none=>some l'
  | none=>none
theorem GJ:∀ {n:Nat}{l l':List Item},Lq n st l=some l'->J C st M l'->J C st M l
 | 0,_,_,h,_=>by cases h
 | n+1,l,l',h,hh=>by
  unfold Lq at h
  split at h
  ·rename_i l1 h1
   split at h
   ·rename_i l2 h2;cases h;exact Ja h1 (GJ h2 hh)
   ·cases h;exact Ja h1 hh
  ·cases h
theorem J.ct {l l':List Item} (h:Lq 40 st l=some l') (hh:J C st M l'):J C st M l:=GJ h hh
theorem G.cV {g:FuncId}{args:List Operand}{vs:List Value}{at_:Array TypeId}{v:Value} (ha:evL st args=some vs) (hs:bA all st gd d C.N q.calm=some q') [hF:Fun C.P g]
  (hc:∀ w,Sat C.w0 (q.cls M) w->Calls C.P g vs.toArray w fun e w'=>e=.returned v/\Below w.heap.size w w') (h:G q' C all ((d,v)::st) M rest k) :
  G q C all st M ({ dst:=some d,op:=.call { callee:=.value (.func g),args:=args.toArray,argTypes:=at_ },type:=ty,pos,after,guard:=gd }::rest) k :=
 let ⟨g1,g2,g3⟩:=aJ hs
 G.PH ha g1 g2 g3 hc h
theorem Jb {P:Program}{F:FuncId}{fn:Func}{c:Code}{args:Array Value}{w w0:World}{M:List Row}{R:Ending->World->Prop}{N:Nat} (st:List (Nat×Value)) (hw:Sat w0 M w) (hf:P.funcs[F]?=some fn) (hb:fn.body=some c) (hN:fn.ntmps=N) (ha:(args.size<=N)=True)
  (hst:pI args st) (h:J (fU P F N R w0) st M [.code c]):Calls P F args w R:=by
 intro cs;have ha':args.size<=N:=of_eq_true ha;have henter:Frame.enter P F args .normal=(fU P F N R w0).b.atR { tmps:=args++Array.replicate (N-args.size) undef,defers:=[] } [.code c]:=by
  simp [Frame.enter,Frame.atR,hf,hb,hN,fU];rfl
 obtain ⟨m,h1,v,w',fr,h2,rfl,h3,h4⟩:=h.go { tmps:=args++Array.replicate (N-args.size) undef,defers:=[] } w
  ⟨by simp;omega,fun t v hv=>by
   have:=hst.get t v hv;have ht:=(Array.getElem?_eq_some_iff.1 this).1;rw [Array.getElem?_append_left ht];exact this⟩ rfl hw cs
 rw [<- henter] at h1;exact ⟨.returned v,w',fr,h2,h1,h3,h4⟩
theorem jV {A:Type} (f:A->List Value) (l:List A) (x:A):flat f l++f x=flat f (l++[x]):=by
 rw [jU,fA];simp [flat]
theorem rF {A:Type}{f:A->List Value} (hf:∀ x,(f x).length=1) {l:List A}{i:Nat} (h:i < l.length) {v:Value} (hv:f l[i]=[v]):(flat f l)[0+i*1]?=some v:=by
 rw [Nat.zero_add];have:=gC hf h (j:=0) dc;rw [Nat.add_zero,hv] at this;exact this
theorem lB {A:Type}{f:A->List Value} (hf:∀ x,(f x).length=1) {l:List A}{i:Nat} (h:i < l.length) {v:Value}{y:A} (hv:f y=[v]):dU (flat f l) (0+i*1) [v]=flat f (l.set i y):=by
 rw [Nat.zero_add,<- hv];exact pJ hf h y
theorem G.ap {T ty' E bytes size n m c base:Nat}{z v:Value}{x y:Operand}{a:Option Addr}{xs news cs:List Value}{F:Row->List Row} (hs:bA all st gd d C.N q.res=some q')
  (hx:evS st x=some v) (hy:evS st y=some (.slice a m c)) (hm:RAt (.own base v E size n xs) M F) [hT:cZ C.P T E z size bytes] (hsrc:cB C M a m size news) (hcs:xs++news=cs) (hb:(n+m)*bytes<=140737488355328) (hnm:n+m<=9223372036854775807)
  (h:∀ v',G q' C all ((d,v')::st) (F (.own 0 v' E size (n+m) cs)) rest k) :
  G q C all st M ({ dst:=some d,op:=.call { callee:=.builtin .append,args:=#[x,y],argTypes:=#[T,T] },type:=ty',pos,after,guard:=gd }::rest) k:=by
 obtain ⟨g1,g2,g3⟩:=aJ hs;subst hcs;obtain ⟨i,h1,h2⟩:=hm.idx;exact G.append g1 g2 g3 hx h1 hy hsrc hb hnm fun v'=>by rw [h2];exact h v'
theorem G.s1 {T:TypeId}{x y:Operand}{v:Value}{b j tot:Nat}{e:TypeId}{cs out:List Value}{F:Row->List Row} (hs:wqB all st gd q.res=some q')
  (hx:evS st x=some (.pointer (some ⟨b,j,none⟩))) (hy:evS st y=some v) (hm:RAt (.blk b e cs tot) M F) [hT:cP C.P T 1] (h1:v.cells=#[v]/\v.oneCell'=true) (hj:j < cs.length) (ho:dU cs j [v]=out)
  (h:G q' C all st (F (.blk b e out tot)) rest k) :
  G q C all st M ({ dst:=none,op:=.store T x y,type:=ty,pos,after,guard:=gd }::rest) k:=by
 obtain ⟨g1,g2⟩:=pL hs;obtain ⟨i,h5,h6⟩:=hm.idx;subst ho;rw [<- h6] at h
 exact G.Qa (vs:=[v]) g1 g2 hx h5 hy h1.1 (by simp [h1.2]) (by simp;omega) rfl h
theorem G.QP {T:TypeId}{x y:Operand}{v:Value}{b j tot:Nat}{e:TypeId}{cs out:List Value}{M0:List Row} (hs:wqB all st gd (q.st 0)=some q')
  (hx:evS st x=some (.pointer (some ⟨b,j,none⟩))) (hy:evS st y=some v) [hT:cP C.P T 1] (h1:v.cells=#[v]/\v.oneCell'=true) (hj:j < cs.length) (ho:dU cs j [v]=out)
  (h:G q' C all st (.blk b e out tot::M0) rest k) :
  G q C all st (.blk b e cs tot::M0) ({ dst:=none,op:=.store T x y,type:=ty,pos,after,guard:=gd }::rest) k:=by
 obtain ⟨g1,g2⟩:=pL hs;subst ho;exact G.Q6 (i:=0) (vs:=[v]) g1 g2 hx rfl hy h1.1 (by simp [h1.2]) (by simp;omega) rfl h
theorem G.cN {g:FuncId}{args:List Operand}{vs:List Value}{at_:Array TypeId}{sz:Nat} (v:Option Addr->Nat->Value) (L:List (List Value)) (ha:evL st args=some vs) (hs:bA all st gd d C.N q.ext=some q') [hF:Fun C.P g]
  (hc:∀ w,Sat C.w0 M w->Calls C.P g vs.toArray w fun e w'=>∃ a' c',e=.returned (v a' c')/\aE w' a' sz L/\(∀ p,a'=some p->w.heap.size<=p.block)/\Below w.heap.size w w')
  (h:∀ a' c',(0 < L.length->∃ b off,a'=some ⟨b,off,none⟩)->(∀ p,a'=some p->C.w0.heap.size<=p.block)->G q' C all ((d,v a' c')::st) (aL C.w0.heap.size a' sz L::M) rest k) :
  G q C all st M ({ dst:=some d,op:=.call { callee:=.value (.func g),args:=args.toArray,argTypes:=at_ },type:=ty,pos,after,guard:=gd }::rest) k :=
 let ⟨g1,g2,g3⟩:=aJ hs
 G.QS v L ha g1 g2 g3 hc h
theorem G.cM {X:Type}{g:FuncId}{args:List Operand}{vs:List Value}{at_:Array TypeId} (v:X->Value) (Mn:X->List Row) (hs:bA all st gd d C.N q.res=some q')
  (ha:evL st args=some vs) [hF:Fun C.P g]
  (hc:∀ w,Sat C.w0 M w->Calls C.P g vs.toArray w fun e w'=>∃ x,e=.returned (v x)/\Sat C.w0 (Mn x) w')
  (h:∀ x,G q' C all ((d,v x)::st) (Mn x) rest k) :
  G q C all st M ({ dst:=some d,op:=.call { callee:=.value (.func g),args:=args.toArray,argTypes:=at_ },type:=ty,pos,after,guard:=gd }::rest) k :=
 let ⟨g1,g2,g3⟩:=aJ hs
 G.QT v Mn g1 g2 g3 ha hc h
def Ft (P:Program) (w:World) (E size n:Nat) (xs:List Value) (v:Value->Value) (e:Ending) (w':World):Prop :=
 ∃ u,e=.returned (v u)/\w'.ownsRow w.heap.size E size u n xs/\Below w.heap.size w w'
theorem kQ {w:World}{base b':Nat}{e:TypeId}{size:Nat}{v:Value}{n:Nat}{xs:List Value} (h:w.ownsRow base e size v n xs) (hb:b'<=base):w.ownsRow b' e size v n xs:=by
 obtain ⟨h1,h2⟩:=h;refine ⟨h1,?_⟩;rcases h2 with h2|⟨g,cap,cur,hv,hg,r⟩
 ·exact .inl h2
 ·exact .inr ⟨g,cap,cur,hv,Nat.le_trans hb hg,r⟩
theorem G.cO {g:FuncId}{args:List Operand}{vs:List Value}{at_:Array TypeId}{E size n:Nat}{xs:List Value} (v:Value->Value) (ha:evL st args=some vs) (hs:bA all st gd d C.N q.ext=some q') [hF:Fun C.P g]
  (hc:∀ w,Sat C.w0 M w->Calls C.P g vs.toArray w (Ft C.P w E size n xs v))
  (h:∀ u,G q' C all ((d,v u)::st) (.own 0 u E size n xs::M) rest k) :
  G q C all st M ({ dst:=some d,op:=.call { callee:=.value (.func g),args:=args.toArray,argTypes:=at_ },type:=ty,pos,after,guard:=gd }::rest) k:=by
 obtain ⟨g1,g2,g3⟩:=aJ hs;refine G.call0 (X:=Value) (v:=v) (Mn:=fun u=>[.own 0 u E size n xs]) g1 g2 g3 ha (fun w hw=>(hc w hw).mono fun e w' he=>?_) h
 obtain ⟨u,rfl,h1,h2⟩:=he;refine ⟨u,rfl,hw.new h2 (r:=.own 0 u E size n xs) (kQ h1 (Nat.zero_le _)) (Nat.zero_le _) fun b hb=>?_⟩
 have hlt:=(kQ h1 (Nat.le_refl _)).lt b hb;exact hlt
theorem Sat.retO {w0 w:World}{i E size n base:Nat}{u:Value}{xs:List Value}{P:Program} (hw:Sat w0 M w) (hm:M[i]?=some (.own base u E size n xs)) (v:Value->Value):Ft P w0 E size n xs v (.returned (v u)) w:=by
 have hmem:=List.mem_of_getElem? hm;refine ⟨u,rfl,nW (hw.hold _ hmem:w.ownsRow base E size u n xs) fun b hb=>((hw.old _ hmem).2 b hb).1,hw.below⟩
theorem aE.part {A:Type}{f:A->List Value}{l:List A}{w0 w:World}{b o n:Nat}{e:TypeId}{tot:Nat} (hf:∀ x,(f x).length=1) (hw:Sat w0 M w) (hm:Row.blk b e (flat f l) tot∈M) (ho:o+n<=l.length):aE w (some ⟨b,o,none⟩) 1 (((l.drop o).take n).map f):=fun _=>by
 refine ⟨b,o,rfl,fun i cs hi=>⟨((hw.old _ hm).2 b rfl).2,fun j v hv=>?_⟩⟩
 rw [List.getElem?_map] at hi;obtain ⟨y,hy,rfl⟩:=Option.map_eq_some_iff.1 hi;rw [List.getElem?_take] at hy;split at hy
 ·rw [List.getElem?_drop] at hy
  have hj:j < 1:=by rw [<- hf y];exact (List.getElem?_eq_some_iff.1 hv).1
  have hj0:j=0:=by omega
  subst hj0;obtain ⟨hlt,rfl⟩:=List.getElem?_eq_some_iff.1 hy;refine hw.cellBlk hm ?_;have:=gC hf hlt (j:=0) dc;rw [Nat.mul_one,Nat.add_zero] at this;rw [Nat.mul_one,Nat.add_zero,this];exact hv
 ·cases hy
theorem G.QQ {T E sz:Nat}{x y:Operand}{yt:TypeId}{a:Option Addr}{n c n' c':Nat} (hx:evS st x=some (.slice a n c)) (hy:evS st y=some (.slice none n' c')) [hT:bN C.P T E sz] (hs:bA all st gd d C.N q.calm=some q')
  (h1:a=none->G q' C all ((d,.bool true)::st) M rest k) (h2:a≠none->G q' C all ((d,.bool false)::st) M rest k) :
  G q C all st M ({ dst:=some d,op:=.binOp .eql T x y yt,type:=ty,pos,after,guard:=gd }::rest) k:=by
 obtain ⟨g1,g2,g3⟩:=aJ hs;refine G.PP (b:=a.isNone) (OpV.of fun ac w hf _ dst pos after guard=>?_) g1 rfl g2 g3 (fun e=>h1 (by simpa using e)) (fun e=>h2 fun h=>by subst h;simp at e)
 have hg:(eqGuard .eql T x y (.slice a n c) (.slice none n' c')).run C.P w=.ok () w:=by rfl
 have hr:(binOp .eql T (.slice a n c) (.slice none n' c')).run C.P w=.ok (.bool a.isNone) w:=by
  simp only [binOp];simp [Op.equal,Op.maxDepth,Lib.run_equalIn_slice_nil w 9999 T E a n c n' c' hT.h1]
 simp only [execOp,hf.eval hx,hf.eval hy,Sem.run_bind,hg,hr,Result.andThen_ok];rfl
theorem G.Q8 {T E sz:Nat}{x lo hi:Operand}{b o n c off len:Nat}{k1 k2:IntKind}{l h:Nat}{e1 e2:Int} (hx:evS st x=some (.slice (some ⟨b,o,none⟩) n c)) (hlo:evS st lo=some (.int k1 e1)) (hhi:evS st hi=some (.int k2 e2)) (he1:e1=(l:Int)) (he2:e2=(h:Int)) (h1:l<=h) (h2:h<=c) (h3:l < c) [hT:bN C.P T E sz] (hoff:o+l*sz=off) (hlen:h-l=len) (hs:bA all st gd d C.N q.calm=some q') (hh:G q' C all ((d,.slice (some ⟨b,off,none⟩) len (c-l))::st) M rest k) :
  G q C all st M ({ dst:=some d,op:=.slice T x (some lo) (some hi) none,type:=ty,pos,after,guard:=gd }::rest) k:=by
 obtain ⟨g1,g2,g3⟩:=aJ hs;refine G.slice hx hlo hhi he1 he2 h1 h2 g1 g2 g3 ?_;subst hoff;subst hlen;rw [oZ,if_neg om,Option.map_some,dS,dV];exact hh
theorem BE {z:Value} (n:Nat):(Builtin.zeroCells #[z] n).toList=List.replicate n z:=by
 apply List.ext_getElem
 ·simp [Builtin.zeroCells]
 ·intro i h1 h2
  simp [Builtin.zeroCells,Nat.mod_one]
theorem Eff.QH {o:Op}{Post:List (Nat×Value)->List Row->Prop}
  (hx:∀ a w,fF C.N st a->Sat C.w0 M w->∃ v w' M',(execOp a.eval ⟨none,o,ty,pos,after,gd⟩).run C.P w=.ok (.value v) w'/\Sat C.w0 M' w'/\Post st M'):Eff C st M ⟨none,o,ty,pos,after,gd⟩ Post:=by
 intro a w hf hw K hK;obtain ⟨v,w',M',h1,h2,h3⟩:=hx a w hf hw;rw [h1];exact hK _ _ _ _ h3 hf rfl h2
theorem G.RA {T E n c bytes b o tot:Nat}{z:Value}{x:Operand}{e:TypeId}{cs:List Value}{F:Row->List Row} (hs:wqB all st gd q.res=some q') (hx:evS st x=some (.slice (some ⟨b,o,none⟩) n c)) (hm:RAt (.blk b e cs tot) M F) [hT:cZ C.P T E z 1 bytes] (hz:z.cells=#[z]/\z.oneCell'=true) (hzr:∀ w,(zeroValue E).run C.P w=.ok z w) (ho:o+n<=cs.length)
  (h:G q' C all st (F (.blk b e (dU cs o (List.replicate n z)) tot)) rest k) :
  G q C all st M ({ dst:=none,op:=.call { callee:=.builtin .clear,args:=#[x],argTypes:=#[T] },type:=ty,pos,after,guard:=gd }::rest) k:=by
 obtain ⟨g1,g3⟩:=pL hs;obtain ⟨i,h5,h6⟩:=hm.idx;rw [<- h6] at h
 refine G.res g1 rfl g3 (Eff.QH fun a w hf hw=>?_)
 obtain ⟨w',h7,h8⟩:=hw.setRow h5 (j:=o) (vs:=List.replicate n z) (by simpa using ho) (fun v hv=>by rw [List.eq_of_mem_replicate hv];exact hz.2) C.P
 refine ⟨.tuple #[],w',_,?_,h8,h⟩;have hu:∀ w,(underlying T).run C.P w=.ok (.slice E) w:=fun w=>by simp [underlying,hT.h1]
 cases n with
 | zero =>
  have:w'=w:=by
   have h9:=h7;simp only [List.replicate,storeCells] at h9;cases h9;rfl
  subst this;simp [execOp,resolve,hf.eval hx,invoke,builtin,Builtin.clear_,hu]
 | succ n =>
  simp [execOp,resolve,hf.eval hx,invoke,builtin,Builtin.clear_,hu,hzr,hz.1,BE,h7]
theorem G.R9 {T T2 E n c m c2 bytes b o tot:Nat}{z:Value}{x y:Operand}{a:Option Addr}{e:TypeId}{cs news:List Value}{F:Row->List Row} (hs:bA all st gd d C.N q.res=some q') (hx:evS st x=some (.slice (some ⟨b,o,none⟩) n c)) (hy:evS st y=some (.slice a m c2)) (hm:RAt (.blk b e cs tot) M F) [hT:cZ C.P T E z 1 bytes] (hsrc:cB C M a m 1 news) (hmn:m<=n) (ho:o+n<=cs.length)
  (h:G q' C all ((d,.int .i64 m)::st) (F (.blk b e (dU cs o news) tot)) rest k) :
  G q C all st M ({ dst:=some d,op:=.call { callee:=.builtin .copy,args:=#[x,y],argTypes:=#[T,T2] },type:=ty,pos,after,guard:=gd }::rest) k:=by
 obtain ⟨g1,g2,g3⟩:=aJ hs;obtain ⟨i,h5,h6⟩:=hm.idx;rw [<- h6] at h
 have hlen:news.length=m:=by rw [hsrc.len,Nat.mul_one]
 refine G.res g1 rfl g3 (Eff.val g2 fun ac w hf hw=>?_)
 obtain ⟨w',h7,h8⟩:=hw.setRow h5 (j:=o) (vs:=news) om (fun v hv=>List.all_eq_true.1 hsrc.one v hv) C.P
 refine ⟨_,w',_,?_,h8,h⟩;have hu:∀ w,(underlying T).run C.P w=.ok (.slice E) w:=fun w=>by simp [underlying,hT.h1]
 obtain ⟨inf,hi,hzz,hsize,hby⟩:=info_parts hT.h2;have hmin:Nat.min m n=m:=Nat.min_eq_left hmn;cases a with
 | none =>
  have h0:=hsrc.nil rfl;subst h0;have hn0:news=[]:=List.length_eq_zero_iff.1 hlen;subst hn0
  have:w'=w:=by
   simp only [storeCells] at h7;cases h7;rfl
  subst this;simp [execOp,resolve,hf.eval hx,hf.eval hy,invoke,builtin,Builtin.copy_,hu,sizeOf,typeInfo,hi,Builtin.lenOf,Builtin.firstCells,hmin,storeCells,goInt]
 | some ad =>
  have hl:=run_loadCells_list (P:=C.P) w ad news fun j v hv=>hsrc.go ad rfl w hw j v hv
  rw [hlen] at hl;simp [execOp,resolve,hf.eval hx,hf.eval hy,invoke,builtin,Builtin.copy_,hu,sizeOf,typeInfo,hi,hsize,Builtin.lenOf,Builtin.firstCells,hmin,hl,h7,goInt]
theorem G.RF {T ty' E bytes size n m c base:Nat}{z v:Value}{x y:Operand}{a:Option Addr}{xs news cs:List Value}{F:Row->List Row} (hs:bA all st gd d C.N q.res=some q')
  (hx:evS st x=some v) (hy:evS st y=some (.slice a m c)) (hm:RAt (.own base v E size n xs) M F) [hT:cZ C.P T E z size bytes] (hsrc:cB C M a m size news) (hcs:xs++news=cs) (hb:(n+m)*bytes<=140737488355328) (hnm:n+m<=9223372036854775807) (h0:0 < n+m)
  (h:∀ g cap,n+m<=cap->G q' C all ((d,.slice (some ⟨g,0,none⟩) (n+m) cap)::st) (F (.blk g E cs (cap*size))) rest k) :
  G q C all st M ({ dst:=some d,op:=.call { callee:=.builtin .append,args:=#[x,y],argTypes:=#[T,T] },type:=ty',pos,after,guard:=gd }::rest) k:=by
 obtain ⟨g1,g2,g3⟩:=aJ hs;subst hcs;obtain ⟨i,h1,h2⟩:=hm.idx;exact G.Q4 g1 g2 g3 hx h1 hy hsrc hb hnm h0 fun g cap hc=>by rw [h2];exact h g cap hc
theorem G.R5 {ts:Array TypeId}{x y:Operand}{ki:IntKind}{a b m:Int} (hx:evS st x=some (.int ki a)) (hy:evS st y=some (.int ki b)) (hm:Min.min a b=m) (hs:bA all st gd d C.N q.calm=some q') (h:G q' C all ((d,.int ki m)::st) M rest k) :
  G q C all st M ({ dst:=some d,op:=.call { callee:=.builtin .min,args:=#[x,y],argTypes:=ts },type:=ty,pos,after,guard:=gd }::rest) k:=by
 subst hm;exact G.mn hx hy hs h
theorem G.Rl {ts:Array TypeId}{x y:Operand}{ki:IntKind}{a b m:Int} (hx:evS st x=some (.int ki a)) (hy:evS st y=some (.int ki b)) (hm:Max.max a b=m) (hs:bA all st gd d C.N q.calm=some q') (h:G q' C all ((d,.int ki m)::st) M rest k) :
  G q C all st M ({ dst:=some d,op:=.call { callee:=.builtin .max,args:=#[x,y],argTypes:=ts },type:=ty,pos,after,guard:=gd }::rest) k:=by
 subst hm;exact G.mx hx hy hs h
theorem G.Ru {g:FuncId}{args:List Operand}{vs:List Value}{at_:Array TypeId}{E size n:Nat}{xs:List Value} (ha:evL st args=some vs) (hs:bA all st gd d C.N q.ext=some q') [hF:Fun C.P g]
  (hc:∀ w,Sat C.w0 M w->Calls C.P g vs.toArray w (Ft C.P w E size n xs id)) (h0:0 < n)
  (h:∀ b cap,n<=cap->G q' C all ((d,.slice (some ⟨b,0,none⟩) n cap)::st) (.blk b E xs (cap*size)::M) rest k) :
  G q C all st M ({ dst:=some d,op:=.call { callee:=.value (.func g),args:=args.toArray,argTypes:=at_ },type:=ty,pos,after,guard:=gd }::rest) k:=by
 obtain ⟨g1,g2,g3⟩:=aJ hs;refine G.call0 (X:={ x:Nat×Nat // n<=x.2 }) (v:=fun x=>.slice (some ⟨x.1.1,0,none⟩) n x.1.2) (Mn:=fun x=>[.blk x.1.1 E xs (x.1.2*size)]) g1 g2 g3 ha (fun w hw=>(hc w hw).mono fun e w' he=>?_) fun x=>h x.1.1 x.1.2 x.2
 obtain ⟨u,rfl,h1,h2⟩:=he;have h3:Sat C.w0 (.own 0 u E size n xs::M) w':=hw.new h2 (r:=.own 0 u E size n xs) (kQ h1 (Nat.zero_le _)) (Nat.zero_le _) fun b hb=>(kQ h1 (Nat.le_refl _)).lt b hb
 obtain ⟨b,cap,h4,rfl,h5⟩:=h3.opn (i:=0) rfl h0;exact ⟨⟨(b,cap),h4⟩,rfl,h5⟩
theorem cB.sl {A:Type}{f:A->List Value}{sz N:Nat}{l:List A}{a:Option Addr} (hf:∀ x,(f x).length=sz) (h1:∀ x,(f x).all (·.oneCell')=true) (h0:0 < (l.map f).length->∃ b off,a=some ⟨b,off,none⟩) (hm:aL N a sz (l.map f)∈M):cB C M a l.length sz (flat f l) where
 len:=aO hf l
 one:=by
  refine List.all_eq_true.2 fun v hv=>?_
  obtain ⟨cs,hcs,hv⟩:=List.mem_flatten.1 hv;obtain ⟨x,_,rfl⟩:=List.mem_map.1 hcs;exact List.all_eq_true.1 (h1 x) v hv
 nil:=fun e=>by
  rcases Nat.eq_zero_or_pos l.length with h|h
  ·exact h
  ·obtain ⟨b,off,h2⟩:=h0 (by simpa using h)
   rw [h2] at e;cases e
 go:=fun ad ha w hw j u hj=>by
  subst ha;obtain ⟨h3,h4,h5⟩:=vV hf hj;obtain ⟨b,off,h6,h7⟩:=(hw.sl hm) (by rw [List.length_map];exact Nat.lt_of_le_of_lt (Nat.zero_le _) h4)
  cases h6;have:=(h7 (j / sz) _ (by rw [List.getElem?_map,gE h4];rfl)).2 (j % sz) u h5
  rw [dS,dV,<- this];congr 2;have:=Nat.div_add_mod j sz;rw [Nat.mul_comm] at this;omega
theorem G.QU {g:FuncId}{f:Operand}{cap:Array Value}{args:List Operand}{vs:List Value}{at_:Array TypeId}{sz:Nat} (Q:Option Addr->Prop) (v:Option Addr->Nat->Value) (L:List (List Value)) (hf:evS st f=some (.func (.func g) #[] cap)) (ha:evL st args=some vs) (hs:bA all st gd d C.N q.ext=some q') [hF:Fun C.P g]
  (hc:∀ w,Sat C.w0 M w->Calls C.P g (vs.toArray++cap) w fun e w'=>∃ a' c',e=.returned (v a' c')/\aE w' a' sz L/\(∀ p,a'=some p->0 < L.length->O1 C M w p.block)/\Q a'/\Below w.heap.size w w')
  (h:∀ a' c',(0 < L.length->∃ b off,a'=some ⟨b,off,none⟩)->Q a'->G q' C all ((d,v a' c')::st) (aL C.w0.heap.size a' sz L::M) rest k) :
  G q C all st M ({ dst:=some d,op:=.call { callee:=.value f,args:=args.toArray,argTypes:=at_ },type:=ty,pos,after,guard:=gd }::rest) k:=by
 obtain ⟨g1,g2,g3⟩:=aJ hs;refine G.call (X:={ x:Option Addr×Nat // (0 < L.length->∃ b off,x.1=some ⟨b,off,none⟩)/\Q x.1 }) (v:=fun x=>v x.1.1 x.1.2) (Mn:=fun x=>[aL C.w0.heap.size x.1.1 sz L]) g1 g2 g3 hf ha (fun w hw=>(hc w hw).mono fun e w' he=>?_) fun x=>h x.1.1 x.1.2 x.2.1 x.2.2
 obtain ⟨a',c',rfl,h1,h2,hQ,h3⟩:=he;refine ⟨⟨(a',c'),fun h0=>let ⟨b,off,e,_⟩:=h1 h0;⟨b,off,e⟩,hQ⟩,rfl,(hw.ext h3).addFact (Nat.le_refl _) h1 fun b hb=>?_⟩
 obtain ⟨h0,p,h5,h6,h7⟩:=hb;dsimp only at h5;obtain ⟨b',off,h8,hr⟩:=h1 h0;have hlt:=(hr 0 _ (gE h0)).1;have:=h2 p h5 h0;rw [h5] at h8;cases h8;simp only at h6 this;subst h6;exact ⟨h7,hlt,hw.free this h7⟩
theorem Sat.addSl {w0 w:World}{a:Option Addr}{sz:Nat}{L:List (List Value)} (hw:Sat w0 M w) (h1:aE w a sz L) (h2:∀ p,a=some p->∀ r∈M,¬ r.lock p.block):Sat w0 (aL w0.heap.size a sz L::M) w:=by
 refine hw.addFact (Nat.le_refl _) h1 fun b hb=>?_
 obtain ⟨h0,p,h5,h6,h7⟩:=hb;obtain ⟨b',off,h8,hr⟩:=h1 h0;have hlt:=(hr 0 _ (gE h0)).1;have h9:=h2 p h5;rw [h5] at h8;cases h8;simp only at h6 h9;subst h6;exact ⟨h7,hlt,h9⟩
theorem G.Rv {g:FuncId}{args:List Operand}{vs:List Value}{at_:Array TypeId}{s1 s2:Nat} (v:Option Addr->Nat->Option Addr->Nat->Value) (L1 L2:List (List Value)) (ha:evL st args=some vs) (hs:bA all st gd d C.N q.ext=some q') [hF:Fun C.P g]
  (hc:∀ w,Sat C.w0 M w->Calls C.P g vs.toArray w fun e w'=>∃ a1 c1 a2 c2,e=.returned (v a1 c1 a2 c2)/\aE w' a1 s1 L1/\aE w' a2 s2 L2/\(∀ p,a1=some p->w.heap.size<=p.block)/\(∀ p,a2=some p->w.heap.size<=p.block)/\Below w.heap.size w w')
  (h:∀ a1 c1 a2 c2,(0 < L1.length->∃ b off,a1=some ⟨b,off,none⟩)->(0 < L2.length->∃ b off,a2=some ⟨b,off,none⟩)->(∀ p,a1=some p->C.w0.heap.size<=p.block)->(∀ p,a2=some p->C.w0.heap.size<=p.block)->G q' C all ((d,v a1 c1 a2 c2)::st) (aL C.w0.heap.size a1 s1 L1::aL C.w0.heap.size a2 s2 L2::M) rest k) :
  G q C all st M ({ dst:=some d,op:=.call { callee:=.value (.func g),args:=args.toArray,argTypes:=at_ },type:=ty,pos,after,guard:=gd }::rest) k:=by
 obtain ⟨g1,g2,g3⟩:=aJ hs;refine G.call0 (X:={ x:(Option Addr×Nat)×(Option Addr×Nat) // (0 < L1.length->∃ b off,x.1.1=some ⟨b,off,none⟩)/\(0 < L2.length->∃ b off,x.2.1=some ⟨b,off,none⟩)/\(∀ p,x.1.1=some p->C.w0.heap.size<=p.block)/\(∀ p,x.2.1=some p->C.w0.heap.size<=p.block) }) (v:=fun x=>v x.1.1.1 x.1.1.2 x.1.2.1 x.1.2.2) (Mn:=fun x=>[aL C.w0.heap.size x.1.1.1 s1 L1,aL C.w0.heap.size x.1.2.1 s2 L2]) g1 g2 g3 ha (fun w hw=>(hc w hw).mono fun e w' he=>?_) fun x=>h x.1.1.1 x.1.1.2 x.1.2.1 x.1.2.2 x.2.1 x.2.2.1 x.2.2.2.1 x.2.2.2.2
 obtain ⟨a1,c1,a2,c2,rfl,h1,h2,f1,f2,h3⟩:=he;have nl:∀ {a:Option Addr},(∀ p,a=some p->w.heap.size<=p.block)->∀ p,a=some p->∀ r∈M,¬ r.lock p.block:=fun hf p hp r hr hl=>by
  have:=((hw.old r hr).2 p.block (Row.P2 hl)).2;have:=hf p hp;omega
 have k1:=(hw.ext h3).addSl h2 (nl f2);refine ⟨⟨((a1,c1),(a2,c2)),fun h0=>(let ⟨b,off,e,_⟩:=h1 h0;⟨b,off,e⟩),fun h0=>(let ⟨b,off,e,_⟩:=h2 h0;⟨b,off,e⟩),fun p hp=>Nat.le_trans hw.size (f1 p hp),fun p hp=>Nat.le_trans hw.size (f2 p hp)⟩,rfl,k1.addSl h1 fun p hp r hr=>?_⟩
 rcases List.mem_cons.1 hr with rfl|hr
 ·exact fun hl=>hl
 ·exact nl f1 p hp r hr
theorem G.cE {g:FuncId}{args:List Operand}{vs:List Value}{at_:Array TypeId}{v:Value} (ha:evL st args=some vs) (hs:bA all st gd d C.N q.ext=some q') [hF:Fun C.P g]
  (hc:∀ w,Sat C.w0 M w->Calls C.P g vs.toArray w fun e w'=>e=.returned v/\Below w.heap.size w w') (h:G q' C all ((d,v)::st) M rest k) :
  G q C all st M ({ dst:=some d,op:=.call { callee:=.value (.func g),args:=args.toArray,argTypes:=at_ },type:=ty,pos,after,guard:=gd }::rest) k :=
 let ⟨g1,g2,g3⟩:=aJ hs
 G.call0 (X:=Unit) (v:=fun _=>v) (Mn:=fun _=>[]) g1 g2 g3 ha (fun w hw=>(hc w hw).mono fun e w' he=>⟨(),he.1,hw.ext he.2⟩) fun _=>h
theorem G.mf {f:Fn}{caps:List Operand}{vs:List Value} (ha:evL st caps=some vs) (hs:bA all st gd d C.N q.calm=some q') (h:G q' C all ((d,.func f #[] vs.toArray)::st) M rest k) :
  G q C all st M ({ dst:=some d,op:=.makeFunc f #[] caps.toArray,type:=ty,pos,after,guard:=gd }::rest) k :=
 let ⟨g1,g2,g3⟩:=aJ hs
 G.makeFunc ha g1 g2 g3 h
theorem G.sx {T:TypeId}{x y:Operand}{l:List UInt8}{ki:IntKind}{e:Int}{i:Nat}{v:UInt8} (hx:evS st x=some (.string (bs l))) (hy:evS st y=some (.int ki e)) (he:e=(i:Int)) (hv:l[i]?=some v) [hT:iD C.P T] (hs:bA all st gd d C.N q.calm=some q') (h:G q' C all ((d,.int .u8 (v.toNat:Int))::st) M rest k) :
  G q C all st M ({ dst:=some d,op:=.index T x y,type:=ty,pos,after,guard:=gd }::rest) k:=by
 obtain ⟨g1,g2,g3⟩:=aJ hs;obtain ⟨hi,hv2⟩:=List.getElem?_eq_some_iff.1 hv;subst hv2;exact G.QB hx hy he hi g1 g2 g3 h
theorem Lr {a b:Nat} (hb:b < 4294967296) (ha:a < 4294967296):IntKind.u64.wrap ((BitVec.ofInt 64 ((a*4294967296:Nat):Int) ||| BitVec.ofInt 64 (b:Int)).toNat:Int)=((a*4294967296+b:Nat):Int):=by
 have h1:(BitVec.ofInt 64 ((a*4294967296:Nat):Int) ||| BitVec.ofInt 64 (b:Int)).toNat=a*4294967296+b:=by
  rw [BitVec.toNat_or,BitVec.ofInt_natCast,BitVec.ofInt_natCast,BitVec.toNat_ofNat,BitVec.toNat_ofNat,Nat.mod_eq_of_lt om,Nat.mod_eq_of_lt om];have:=Nat.two_pow_add_eq_or_of_lt (i:=32) (b:=b) (by simpa using hb) a
  rw [Nat.mul_comm a];simpa using this.symm
 rw [h1,hH];omega
end Go.Sl
