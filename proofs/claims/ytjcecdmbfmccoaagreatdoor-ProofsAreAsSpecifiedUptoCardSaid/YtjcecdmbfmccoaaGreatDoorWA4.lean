/-
  Contracts of the natural numbers' digits: at.
-/
import Derived.Test.YtjcecdmbfmccoaaGreatDoorWA3
set_option linter.unusedVariables false
set_option linter.unusedSimpArgs false
set_option linter.unusedSectionVars false
namespace Go.Proofs.YtjcecdmbfmccoaaGreatDoor
open Go.RowKit Go.Sl Go.Num
theorem GP {k:IntKind}{a b:Int} (h:a=b):Ending.returned (.int k a)=.returned (.int k b):=by rw [h]
theorem bL {a b:Bool} (h:a=b):Ending.returned (.bool a)=.returned (.bool b):=by rw [h]
def lmV (d:Nat):List Value:=[.int .u32 (d:Int)]
theorem eY (d:Nat):(lmV d).length=1:=rfl
theorem GQ (d:Nat):(lmV d).all (·.oneCell')=true:=rfl
abbrev CR (g:FuncId) (a:Array Value) (w:World) (v:Value):Prop:=Calls Tryz.prog g a w fun e w'=>e=.returned v/\Below w.heap.size w w'
theorem uG (a:Option Addr) (x:List Nat) (c k:Nat) (w:World) (hl:x.length<=9223372036854775807) (hx:∀ d∈x,d < B32) (hA:aE w a 1 (x.map lmV)) :
  CR 171 #[.slice a x.length c,.int .i64 k] w (.int .u64 ((x.getD k 0:Nat):Int)):=by
 refine enter [(0,.slice a x.length c),(1,.int .i64 k)] Tryz.func171 rfl Tryz.ntmps171 (by simp) ⟨rfl,rfl,trivial⟩ ?_
 by_cases hk:k < x.length
 ·obtain ⟨b,o,rfl,hrow⟩:=hA.at k hk
  have hd:x.getD k 0=x[k]:=by rw [gD,gE hk];rfl
  have hb:=hx _ (gM hk);rw [hd];generalize x[k]=v at *;have hw:IntKind.u64.wrap (v:Int)=v:=by rw [hH];simp only [B32] at hb;omega
  repeat' (first|(apply G.PL;rfl;exact hw;rfl;rfl;rfl)|(apply G.pu;rfl;rfl;first|exact trivial|omega)|(apply J.ct;rfl)|(apply G.nil;rfl)|(apply G.cm;rfl;rfl;all_goals intro h;all_goals try (exfalso;omega))|(apply G.fa;rfl;rfl)|(apply G.ld;rfl;(first|(apply LdV.one;(first|exact aC.P0 (by assumption) rfl|exact aC.rowS (by assumption) rfl|exact aC.Px (by assumption) rfl|(apply aC.blk;exact mm;rfl)))|(apply LdV.Pw;exact mm;rfl)|(apply LdV.part;exact mm;rfl;rfl)|(apply LdV.Pv;assumption;rfl)|(apply LdV.Ps;assumption;rfl;rfl));rfl)|(apply G.sk;rfl)|(apply G.ls;rfl;rfl)|(apply G.ix;rfl;rfl;rfl;omega;rfl)|(apply G.ix;rfl;rfl;(first|exact bU _|exact bJ _);omega;rfl)|(apply G.lt;rfl;rfl)|(apply G.bu;rfl;rfl;rfl)|(apply G.fd;rfl;rfl;rfl)|(apply G.cv;rfl;rfl;rfl;omega)|(apply G.beq;rfl;rfl;rfl)|(apply G.P9;rfl;rfl;rfl)|(apply G.mm;rfl;rfl)|(apply G.mf;rfl;rfl)|(apply G.mx;rfl;rfl;rfl)|(apply G.mn;rfl;rfl;rfl)|(apply G.bx;rfl;rfl;rfl;intro Bk)|(apply G.al;rfl;intro Bk)|(apply G.so;rfl;rfl;(repeat (first|exact RAt.head|apply RAt.tail));rfl;rfl)|(apply G.ss;rfl;rfl;(repeat (first|exact RAt.head|apply RAt.tail));rfl;rfl)|(apply J.Pz;exact Tryz.Pr;decide +kernel)|(apply J.P4;exact Tryz.Pr;decide +kernel)|apply J.PA)
  all_goals exact aA Tryz.func171 Tryz.results171 rfl
 ·have hd:x.getD k 0=0:=by rw [gD,List.getElem?_eq_none om];rfl
  rw [hd];all_goals (refine go ?_;and_intros<;>first|exact trivial|repeat first|intro(Bk:Nat)|intro h)
  all_goals exact aA Tryz.func171 Tryz.results171 rfl
theorem HW (a:Option Addr) (c sz:Nat):oZ a c 0 sz=a:=by
 rw [oZ];split
 ·rfl
 ·cases a with
  | none=>rfl
  | some p=>rw [Nat.zero_mul];rfl
theorem zP:∀ l:List Nat,dI (l++[0])=dI l
 | []=>by simp [dI]
 | x::r=>by rw [List.cons_append,dI,dI,zP r]
theorem nA:∀ l:List Nat,(dI l).length<=l.length
 | []=>Nat.le_refl _
 | x::r=>by
  have:=nA r;rw [dI];split
  ·simp
  ·simp;omega
theorem rG:∀ l:List Nat,dI l <+: l
 | []=>List.prefix_refl _
 | x::r=>by
  rw [dI];split
  ·exact List.nil_prefix
  ·exact List.cons_prefix_cons.2 ⟨rfl,rG r⟩
theorem zQ (a:Option Addr) (Y:List Nat) (c:Nat) (w:World) (hc:Y.length<=c) (hl:Y.length<=9223372036854775807) (hA:aE w a 1 (Y.map lmV)) :
  CR 154 #[.slice a Y.length c] w (.slice a (dI Y).length c):=by
 refine enter [(0,.slice a Y.length c)] Tryz.func154 rfl Tryz.ntmps154 (by simp) ⟨rfl,trivial⟩ ?_
 all_goals (refine go ?_;and_intros<;>first|exact trivial|repeat first|intro(Bk:Nat)|intro h)
 refine J.loop (c:=_) Y.length (fun x=>x) (fun x=>[(0,.slice a x c)]) (fun x=>[]) (fun x=>x<=Y.length/\dI (Y.take x)=dI Y) ?_ sbT sbL ?_
 ·exact ⟨Nat.le_refl _,by rw [List.take_length]⟩
 intro n ⟨hn,ht⟩ ih;rcases Nat.eq_zero_or_pos n with rfl|h0
 ·have ht':dI Y=[]:=by rw [<- ht];rfl
  rw [ht'];all_goals (refine go ?_;and_intros<;>first|exact trivial|repeat first|intro(Bk:Nat)|intro h)
  all_goals exact aA Tryz.func154 Tryz.results154 rfl
 ·obtain ⟨i,rfl⟩:∃ i,n=i+1:=⟨n-1,by omega⟩
  obtain ⟨b,o,rfl,hrow⟩:=hA.at i om;have hsp:Y.take (i+1)=Y.take i++[Y[i]]:=by rw [List.take_add_one,gE om];rfl
  rw [hsp] at ht;have e1:((i+1:Nat):Int)-1=(i:Int):=by omega
  generalize hv:Y[i]=v at *;by_cases hz:v=0
  ·subst hz
   rw [zP] at ht;repeat' first|(refine gp ?_;and_intros<;>first|exact trivial|repeat first|intro(Bk:Nat)|intro h)|(apply G.indexAddr (i:=i);rfl;rfl;exact e1;omega;rfl;rfl;rfl)|(apply G.sliceTo (h:=i);rfl;rfl;exact e1;omega;rfl;rfl;rfl;rw [HW])
   exact J.fin (ih i ⟨by omega,ht⟩ om)
  ·have hl2:dI Y=Y.take (i+1):=by
    rw [<- ht,hsp,tA _ (by simp) (by simp [hz])]
   have hlen:(dI Y).length=i+1:=by rw [hl2,List.length_take];omega
   rw [hlen];repeat' first|(refine gp ?_;and_intros<;>first|exact trivial|repeat first|intro(Bk:Nat)|intro h)|(apply G.indexAddr (i:=i);rfl;rfl;exact e1;omega;rfl;rfl;rfl)
   all_goals exact aA Tryz.func154 Tryz.results154 rfl
def hZ (x y:Int):Int:=if x < y then -1 else if y < x then 1 else 0
theorem CS (x:Int) (w:World):CR 175 #[.int .i64 x] w (.bool false):=by
 refine enter [(0,.int .i64 x)] Tryz.func175 rfl Tryz.ntmps175 (by simp) ⟨rfl,trivial⟩ ?_
 all_goals (refine go ?_;and_intros<;>first|exact trivial|repeat first|intro(Bk:Nat)|intro h)
 all_goals exact aA Tryz.func175 Tryz.results175 rfl
theorem CU (x:Int) (w:World):CR 176 #[.int .u32 x] w (.bool false):=by
 refine enter [(0,.int .u32 x)] Tryz.func176 rfl Tryz.ntmps176 (by simp) ⟨rfl,trivial⟩ ?_
 all_goals (refine go ?_;and_intros<;>first|exact trivial|repeat first|intro(Bk:Nat)|intro h)
 all_goals exact aA Tryz.func176 Tryz.results176 rfl
theorem Fz (x y:Int) (w:World):CR 169 #[.int .i64 x,.int .i64 y] w (.int .i64 (hZ x y)):=by
 refine enter [(0,.int .i64 x),(1,.int .i64 y)] Tryz.func169 rfl Tryz.ntmps169 (by simp) ⟨rfl,rfl,trivial⟩ ?_
 repeat' first|(refine gp ?_;and_intros<;>first|exact trivial|repeat first|intro(Bk:Nat)|intro h)|(apply G.PH (g:=175);rfl;rfl;rfl;rfl;exact fun w _=>CS _ w)
 all_goals refine aA Tryz.func169 Tryz.results169 ?_
 all_goals exact GP (by rw [hZ];first|(rw [if_pos om])|(rw [if_neg om,if_pos om])|(rw [if_neg om,if_neg om]))
theorem F0 (x y:Int) (w:World):CR 170 #[.int .u32 x,.int .u32 y] w (.int .i64 (hZ x y)):=by
 refine enter [(0,.int .u32 x),(1,.int .u32 y)] Tryz.func170 rfl Tryz.ntmps170 (by simp) ⟨rfl,rfl,trivial⟩ ?_
 repeat' first|(refine gp ?_;and_intros<;>first|exact trivial|repeat first|intro(Bk:Nat)|intro h)|(apply G.PH (g:=176);rfl;rfl;rfl;rfl;exact fun w _=>CU _ w)
 all_goals refine aA Tryz.func170 Tryz.results170 ?_
 all_goals exact GP (by rw [hZ];first|(rw [if_pos om])|(rw [if_neg om,if_pos om])|(rw [if_neg om,if_neg om]))
theorem jT {x y:Int} (h:x < y):hZ x y=-1:=by rw [hZ,if_pos h]
theorem gJ {x y:Int} (h:y < x):hZ x y=1:=by rw [hZ,if_neg om,if_pos h]
theorem iE (x:Int):hZ x x=0:=by rw [hZ,if_neg om,if_neg om]
theorem eW (a:Option Addr) (m c:Nat) (b:Option Addr) (n d:Nat) (w:World) (hl:(dgs B32 m).length<=9223372036854775807) (hm:(dgs B32 n).length<=9223372036854775807) (hA:aE w a 1 ((dgs B32 m).map lmV)) (hB:aE w b 1 ((dgs B32 n).map lmV)) :
  CR 152 #[.slice a (dgs B32 m).length c,.slice b (dgs B32 n).length d] w (.int .i64 (hZ m n)):=by
 obtain ⟨B,hBB,h2⟩:∃ B,B32=B/\2<=B:=⟨_,rfl,by decide⟩
 rw [hBB] at hl hm hA hB ⊢;clear hBB;have hx:=eG h2 m;have hy:=eG h2 n;have vx:=eF h2 m;have vy:=eF h2 n;have l1:(dgs B m).length < (dgs B n).length->m < n:=sZ h2;have l2:(dgs B n).length < (dgs B m).length->n < m:=sZ h2;generalize dgs B m=X at *;generalize dgs B n=Z at *;refine enter [(0,.slice a X.length c),(1,.slice b Z.length d)] Tryz.func152 rfl Tryz.ntmps152 (by simp) ⟨rfl,rfl,trivial⟩ ?_
 have k1:=fun w=>Fz X.length Z.length w
 rcases Nat.lt_trichotomy X.length Z.length with hlt|heq|hgt
 ·rw [jT om] at k1
  rw [jT (by have:=l1 hlt;omega)]
  repeat' first|(refine gp ?_;and_intros<;>first|exact trivial|repeat first|intro(Bk:Nat)|intro h)|(apply G.PH (g:=169);rfl;rfl;rfl;rfl;exact fun w _=>k1 w)
  all_goals exact aA Tryz.func152 Tryz.results152 rfl
 ·have hce:hZ X.length Z.length=0:=by rw [heq,iE]
  rw [hce] at k1;clear l1 l2 hce;repeat' first|(refine gp ?_;and_intros<;>first|exact trivial|repeat first|intro(Bk:Nat)|intro h)|(apply G.PH (g:=169);rfl;rfl;rfl;rfl;exact fun w _=>k1 w)
  refine J.loop (c:=_) (X.length,(X.length:Int)-1) (fun x=>x.1) (fun x=>[(0,.slice a X.length c),(1,.slice b Z.length d),(6,.int .i64 x.2)]) (fun x=>[]) (fun x=>x.1<=X.length/\x.2=(x.1:Int)-1/\vL B (X.drop x.1)=vL B (Z.drop x.1)) ?_ sbT sbL ?_
  ·exact ⟨Nat.le_refl _,rfl,by rw [List.drop_length,heq,List.drop_length]⟩
  intro ⟨k,z⟩ ⟨hk,hz,hd⟩ ih;dsimp only at hk hz hd ⊢;rcases Nat.eq_zero_or_pos k with rfl|h0
  ·have e2:m=n:=by rw [<- vx,<- vy];exact hd
   rw [e2,iE];all_goals (refine go ?_;and_intros<;>first|exact trivial|repeat first|intro(Bk:Nat)|intro h)
   all_goals exact aA Tryz.func152 Tryz.results152 rfl
  ·obtain ⟨i,rfl⟩:∃ i,k=i+1:=⟨k-1,by omega⟩
   have hzi:z=(i:Int):=by omega
   subst hzi;obtain ⟨ba,oa,rfl,hra⟩:=hA.at i om;obtain ⟨bb,ob,rfl,hrb⟩:=hB.at i om;have g1:X.getD i 0=X[i]:=by rw [gD,gE om];rfl
   have g2:Z.getD i 0=Z[i]:=by rw [gD,gE om];rfl
   have k2:=fun w=>F0 X[i] Z[i] w
   rcases Nat.lt_trichotomy X[i] Z[i] with hlt|he|hgt
   ·have hlt2:=GK h2 hx heq om hd om
    rw [vx,vy] at hlt2;rw [jT om] at k2;rw [jT om];generalize X[i]=u at *;generalize Z[i]=v at *;repeat' first|(refine gp ?_;and_intros<;>first|exact trivial|repeat first|intro(Bk:Nat)|intro h)|(apply G.PH (g:=170);rfl;rfl;rfl;rfl;exact fun w _=>k2 w)
    all_goals exact aA Tryz.func152 Tryz.results152 rfl
   ·have hd2:vL B (X.drop i)=vL B (Z.drop i):=by rw [gG (x:=X) (k:=i) om,gG (x:=Z) (k:=i) om,hd,g1,g2,he]
    rw [he,iE] at k2;rw [he] at hra g1;generalize X[i]=u at *;generalize Z[i]=v at *;repeat' first|(refine gp ?_;and_intros<;>first|exact trivial|repeat first|intro(Bk:Nat)|intro h)|(apply G.PH (g:=170);rfl;rfl;rfl;rfl;exact fun w _=>k2 w)
    exact J.fin (ih (i,(i:Int)-1) ⟨by omega,rfl,hd2⟩ om)
   ·have hlt2:=GK h2 hy heq.symm om hd.symm om
    rw [vx,vy] at hlt2;rw [gJ om] at k2;rw [gJ om];generalize X[i]=u at *;generalize Z[i]=v at *;repeat' first|(refine gp ?_;and_intros<;>first|exact trivial|repeat first|intro(Bk:Nat)|intro h)|(apply G.PH (g:=170);rfl;rfl;rfl;rfl;exact fun w _=>k2 w)
    all_goals exact aA Tryz.func152 Tryz.results152 rfl
 ·rw [gJ om] at k1
  rw [gJ (by have:=l2 hgt;omega)]
  repeat' first|(refine gp ?_;and_intros<;>first|exact trivial|repeat first|intro(Bk:Nat)|intro h)|(apply G.PH (g:=169);rfl;rfl;rfl;rfl;exact fun w _=>k1 w)
  all_goals exact aA Tryz.func152 Tryz.results152 rfl
def BH (n:Nat) (w:World) (e:Ending) (w':World):Prop :=
 ∃ a' c',e=.returned (.slice a' (dgs B32 n).length c')/\aE w' a' 1 ((dgs B32 n).map lmV)/\(∀ p,a'=some p->w.heap.size<=p.block)/\Below w.heap.size w w'
theorem CV (s:Nat):IntKind.u32.wrap (s:Int)=((s % B32:Nat):Int):=by rw [lI];show _=((s % 4294967296:Nat):Int);omega
theorem GR (s:Nat):(s:Int).fdiv (2 ^ (min 32 IntKind.u64.bits))=((s / B32:Nat):Int):=by
 have e:(2:Int) ^ (min 32 IntKind.u64.bits)=4294967296:=rfl;rw [e,Int.fdiv_eq_ediv_of_nonneg _ dc];show _=((s / 4294967296:Nat):Int)
 omega
theorem Lx {w:World}{base E sz n c:Nat}{a:Option Addr}{xs:List Value} (h:w.ownsRow base E sz (.slice a n c) n xs):n<=c:=by
 obtain ⟨h1,h2⟩:=h;rcases h2 with ⟨h4,h3⟩|⟨g,cap,cur,hv,hg,hh,h3,r⟩
 ·omega
 ·cases hv;exact h3
theorem zR {w0 w:World}{M:List Row}{base E c n:Nat}{a:Option Addr}{l:List Nat} (hw:Sat w0 M w) (hm:Row.own base (.slice a l.length c) E 1 l.length (flat lmV l)∈M) (hl:∀ d∈l,d < B32) (hv:vL B32 l=n):BH n w0 (.returned (.slice a (dI l).length c)) w:=by
 have ho:w.ownsRow base E 1 (.slice a l.length c) l.length (flat lmV l):=hw.hold _ hm;have hs:=aE.P8 (f:=lmV) (sz:=1) eY ho rfl;have ht:dI l=dgs B32 n:=by rw [iX dc l hl,hv]
 rw [ht];have hpre:∀ i,i < (dgs B32 n).length->(dgs B32 n)[i]?=l[i]?:=by
  have:dI l <+: l:=rG l;rw [ht] at this;obtain ⟨r,hr⟩:=this;intro i hi;rw [<- hr,List.getElem?_append_left hi]
 refine ⟨a,c,rfl,fun h0=>?_,fun p hp=>?_,hw.below⟩
 ·have hlen:(dgs B32 n).length<=l.length:=by rw [<- ht];exact nA l
  simp only [List.length_map] at h0;obtain ⟨b,off,h1,h2⟩:=hs (by simp only [List.length_map];omega)
  refine ⟨b,off,h1,fun i cs hi=>h2 i cs ?_⟩
  rw [List.getElem?_map] at hi ⊢;obtain ⟨y,hy,rfl⟩:=Option.map_eq_some_iff.1 hi;rw [<- hpre i (List.getElem?_eq_some_iff.1 hy).1,hy];rfl
 ·subst hp
  exact ((hw.old _ hm).2 p.block rfl).1
theorem pP {w0 w:World}{M:List Row}{base E c:Nat}{a:Option Addr}{l:List Nat} (hw:Sat w0 M w) (hm:Row.own base (.slice a l.length c) E 1 l.length (flat lmV l)∈M) (hl:l.length<=9223372036854775807) :
  CR 154 #[.slice a l.length c] w (.slice a (dI l).length c) :=
 have ho:w.ownsRow base E 1 (.slice a l.length c) l.length (flat lmV l):=hw.hold _ hm
 zQ a l c w (Lx ho) hl (aE.P8 eY ho rfl)
theorem F1 (a:Option Addr) (m c:Nat) (b:Option Addr) (n d:Nat) (w:World) (hl:(dgs B32 m).length<=1073741824) (hm:(dgs B32 n).length<=1073741824) (hA:aE w a 1 ((dgs B32 m).map lmV)) (hB:aE w b 1 ((dgs B32 n).map lmV)) :
  Calls Tryz.prog 161 #[.slice a (dgs B32 m).length c,.slice b (dgs B32 n).length d] w (BH (m+n) w):=by
 have hx:=eG (b:=B32) dc m;have hy:=eG (b:=B32) dc n;rw [show m+n=vL B32 (dgs B32 m)+vL B32 (dgs B32 n) by rw [eF dc,eF dc]]
 generalize dgs B32 m=x at *;generalize dgs B32 n=y at *;refine aB [(0,.slice a x.length c),(1,.slice b y.length d)] Tryz.func161 Tryz.ntmps161 ?_;all_goals (refine go ?_;and_intros<;>first|exact trivial|repeat first|intro(Bk:Nat)|intro h)
 apply J.nilOwn (E:=206) (size:=1);have hend:∀ (o:List Nat) (v:Nat),o.length=max x.length y.length+1->vL B32 o+B32 ^ (max x.length y.length+1)*v=vL B32 (x.take (max x.length y.length+1))+vL B32 (y.take (max x.length y.length+1))->vL B32 o=vL B32 x+vL B32 y:=fun o v _ h=>El dc hx hy h
 have hstep:∀ (o:List Nat) (k v:Nat),o.length=k->v<=1->(∀ d∈o,d < B32)->vL B32 o+B32 ^ k*v=vL B32 (x.take k)+vL B32 (y.take k)->∃ s v',x.getD k 0+y.getD k 0+v=s/\s < 18446744073709551615/\v'=s / B32/\v'<=1/\(∀ d∈o++[s % B32],d < B32)/\vL B32 (o++[s % B32])+B32 ^ (k+1)*v'=vL B32 (x.take (k+1))+vL B32 (y.take (k+1)):=by
  intro o k v h1 h2 h3 h4;have g1:=bZ dc hx k;have g2:=bZ dc hy k;have g3:B32=4294967296:=rfl;exact ⟨_,_,rfl,by omega,rfl,zF dc hx hy h2,uC h3 (Nat.mod_lt _ dc),BU dc h1 h4⟩
 refine J.loop (c:=_) ((0,0,.slice none 0 0,[]):Nat×Nat×Value×List Nat) (fun s=>max x.length y.length+1-s.1) (fun s=>[(0,.slice a x.length c),(1,.slice b y.length d),(5,s.2.2.1),(6,.int .u64 (s.2.1:Int)),(14,.int .i64 (max (x.length:Int) y.length+1)),(15,.int .i64 s.1)]) (fun s=>[.own 0 s.2.2.1 206 1 s.1 (flat lmV s.2.2.2)]) (fun s=>s.1<=max x.length y.length+1/\s.2.1<=1/\s.2.2.2.length=s.1/\(∀ d∈s.2.2.2,d < B32)/\vL B32 s.2.2.2+B32 ^ s.1*s.2.1=vL B32 (x.take s.1)+vL B32 (y.take s.1)) ?_ sbT sbL ?_
 ·exact ⟨Nat.zero_le _,Nat.zero_le _,rfl,by simp,by simp [vL]⟩
 intro ⟨k,v,u,o⟩ ⟨h1,h2,h3,h4,h5⟩ ih;dsimp only at h1 h2 h3 h4 h5 ⊢;by_cases hk:k < max x.length y.length+1
 ·obtain ⟨t,v',e1,e2,e3,e4,e5,e6⟩:=hstep o k v h3 h2 h4 h5
  have c1:IntKind.u32.wrap (((x.getD k 0:Nat):Int)+(y.getD k 0:Nat)+(v:Nat))=((t % B32:Nat):Int):=by rw [<- CV,<- e1];congr 1
  have c2:(((x.getD k 0:Nat):Int)+(y.getD k 0:Nat)+(v:Nat)).fdiv (2 ^ (min 32 IntKind.u64.bits))=(v':Int):=by rw [e3,<- GR,<- e1];congr 1
  repeat' (first|(apply G.cV (g:=171) (vs:=[.slice a x.length c,.int .i64 k]);rfl;rfl;exact fun w hw=>uG a x c k w om hx (hA.below hw.below))|(apply G.cV (g:=171) (vs:=[.slice b y.length d,.int .i64 k]);rfl;rfl;exact fun w hw=>uG b y d k w om hy (hB.below hw.below))|(apply G.PL;rfl;exact c1;rfl;rfl;rfl)|(apply G.PN (n:=32);rfl;rfl;rfl;exact c2;rfl;rfl;rfl)|(apply G.Pu;rfl;rfl;rfl;rfl;rfl;rfl;rfl;rfl;intro Bs)|(apply G.ap;rfl;rfl;rfl;(repeat (first|exact RAt.head|apply RAt.tail));exact cB.blk (by exact mm) rfl rfl;exact jV lmV o (t % B32);omega;omega;intro v2)|(apply G.pu;rfl;rfl;first|exact trivial|omega)|(apply J.ct;rfl)|(apply G.nil;rfl)|(apply G.cm;rfl;rfl;all_goals intro h;all_goals try (exfalso;omega))|(apply G.fa;rfl;rfl)|(apply G.ld;rfl;(first|(apply LdV.one;(first|exact aC.P0 (by assumption) rfl|exact aC.rowS (by assumption) rfl|exact aC.Px (by assumption) rfl|(apply aC.blk;exact mm;rfl)))|(apply LdV.Pw;exact mm;rfl)|(apply LdV.part;exact mm;rfl;rfl)|(apply LdV.Pv;assumption;rfl)|(apply LdV.Ps;assumption;rfl;rfl));rfl)|(apply G.sk;rfl)|(apply G.ls;rfl;rfl)|(apply G.ix;rfl;rfl;rfl;omega;rfl)|(apply G.ix;rfl;rfl;(first|exact bU _|exact bJ _);omega;rfl)|(apply G.lt;rfl;rfl)|(apply G.bu;rfl;rfl;rfl)|(apply G.fd;rfl;rfl;rfl)|(apply G.cv;rfl;rfl;rfl;omega)|(apply G.beq;rfl;rfl;rfl)|(apply G.P9;rfl;rfl;rfl)|(apply G.mm;rfl;rfl)|(apply G.mf;rfl;rfl)|(apply G.mx;rfl;rfl;rfl)|(apply G.mn;rfl;rfl;rfl)|(apply G.bx;rfl;rfl;rfl;intro Bk)|(apply G.al;rfl;intro Bk)|(apply G.so;rfl;rfl;(repeat (first|exact RAt.head|apply RAt.tail));rfl;rfl)|(apply G.ss;rfl;rfl;(repeat (first|exact RAt.head|apply RAt.tail));rfl;rfl)|(apply J.Pz;exact Tryz.Pr;decide +kernel)|(apply J.P4;exact Tryz.Pr;decide +kernel)|apply J.PA)
  exact J.fin (ih (k+1,v',v2,o++[t % B32]) ⟨by dsimp only;omega,e4,by simp [h3],e5,e6⟩ (by dsimp only;omega))
 ·have h6:o.length=max x.length y.length+1:=by omega
  subst h3;rw [h6] at h5;apply J.ownForm (i:=0) rfl;intro a2 c2 hu;subst hu;repeat' first|(refine gp ?_;and_intros<;>first|exact trivial|repeat first|intro(Bk:Nat)|intro h)|(apply G.cV (g:=154);rfl;rfl;exact fun w hw=>pP hw (by exact mm) om)
  (refine kE Tryz.func161 Tryz.results161 ?_;intro w' hw)
  exact zR hw (by exact mm) h4 (hend o v h6 h5)
theorem BW {w:World}{a:Option Addr}{x:List Nat}{k:Nat} (hA:aE w a 1 (x.map lmV)) (hk:k < x.length):∃ b off,a=some ⟨b,off,none⟩/\bG w b (off+k*1) [.int .u32 ((x.getD k 0:Nat):Int)]:=by
 obtain ⟨b,off,h1,h2⟩:=hA.at k hk;refine ⟨b,off,h1,?_⟩;rw [gD,gE hk];exact h2
theorem HX {x y c d c':Nat} (hx:x < B32) (hy:y < B32) (hc:c<=1) (he:(x:Int)-y-c=(d:Int)-(B32*c':Nat)) (hd:d < B32) (hc':c'<=1) :
  ∃ u1 u2:Nat,IntKind.u64.wrap ((x:Int)-y)=u1/\IntKind.u64.wrap ((u1:Int)-c)=u2/\IntKind.u32.wrap (u2:Int)=d/\(u2:Int).fdiv (2 ^ (min 63 IntKind.u64.bits))=c':=by
 have e0:(2:Int) ^ (min 63 IntKind.u64.bits)=9223372036854775808:=rfl;have e1:B32=4294967296:=rfl;rw [e0];simp only [hH,lI];refine ⟨(((x:Int)-y) % 18446744073709551616).toNat,(((x:Int)-y-c) % 18446744073709551616).toNat,by omega,by omega,?_,?_⟩
 ·have:c'=0∨c'=1:=by omega
  rcases this with rfl|rfl<;>omega
 ·rw [Int.fdiv_eq_ediv_of_nonneg _ dc]
  have:c'=0∨c'=1:=by omega
  rcases this with rfl|rfl<;>omega
theorem pQ (a:Option Addr) (m c:Nat) (b:Option Addr) (n d:Nat) (w:World) (hl:(dgs B32 m).length<=1073741824) (hm:(dgs B32 n).length<=1073741824) (hA:aE w a 1 ((dgs B32 m).map lmV)) (hB:aE w b 1 ((dgs B32 n).map lmV)) (hle:n<=m) :
  Calls Tryz.prog 158 #[.slice a (dgs B32 m).length c,.slice b (dgs B32 n).length d] w (BH (m-n) w):=by
 have hx:=eG (b:=B32) dc m;have hy:=eG (b:=B32) dc n;rw [show m-n=vL B32 (dgs B32 m)-vL B32 (dgs B32 n) by rw [eF dc,eF dc]]
 have hle2:vL B32 (dgs B32 n)<=vL B32 (dgs B32 m):=by rw [eF dc,eF dc];exact hle
 clear hle;generalize dgs B32 m=x at *;generalize dgs B32 n=y at *;refine aB [(0,.slice a x.length c),(1,.slice b y.length d)] Tryz.func158 Tryz.ntmps158 ?_;all_goals (refine go ?_;and_intros<;>first|exact trivial|repeat first|intro(Bk:Nat)|intro h)
 apply J.nilOwn (E:=206) (size:=1);have hstep:∀ (o:List Nat) (k v:Nat),o.length=k->v<=1->(∀ d∈o,d < B32)->vL B32 o+vL B32 (y.take k)=vL B32 (x.take k)+B32 ^ k*v->∃ dg v' u1 u2:Nat,IntKind.u64.wrap (((x.getD k 0:Nat):Int)-(y.getD k 0:Nat))=u1/\IntKind.u64.wrap ((u1:Int)-v)=u2/\IntKind.u32.wrap (u2:Int)=dg/\(u2:Int).fdiv (2 ^ (min 63 IntKind.u64.bits))=v'/\v'<=1/\(∀ d∈o++[dg],d < B32)/\vL B32 (o++[dg])+vL B32 (y.take (k+1))=vL B32 (x.take (k+1))+B32 ^ (k+1)*v':=by
  intro o k v h1 h2 h3 h4;have g1:=bZ dc hx k;have g2:=bZ dc hy k;obtain ⟨dg,v',f1,f2,f3,f4⟩:=zG (b:=B32) dc h1 hy h2 (by rw [h4,Nat.add_assoc,<- Nat.mul_add];congr 2;omega) g1
  obtain ⟨u1,u2,p1,p2,p3,p4⟩:=HX g1 g2 h2 f1 f2 f3;exact ⟨dg,v',u1,u2,p1,p2,p3,p4,f3,uC h3 f2,f4⟩
 refine J.loop (c:=_) ((0,0,.slice none 0 0,[]):Nat×Nat×Value×List Nat) (fun s=>x.length-s.1) (fun s=>[(0,.slice a x.length c),(1,.slice b y.length d),(5,s.2.2.1),(6,.int .u64 (s.2.1:Int)),(10,.int .i64 x.length),(11,.int .i64 s.1)]) (fun s=>[.own 0 s.2.2.1 206 1 s.1 (flat lmV s.2.2.2)]) (fun s=>s.1<=x.length/\s.2.1<=1/\s.2.2.2.length=s.1/\(∀ d∈s.2.2.2,d < B32)/\vL B32 s.2.2.2+vL B32 (y.take s.1)=vL B32 (x.take s.1)+B32 ^ s.1*s.2.1) ?_ sbT sbL ?_
 ·exact ⟨Nat.zero_le _,Nat.zero_le _,rfl,by simp,by simp [vL]⟩
 intro ⟨k,v,u,o⟩ ⟨h1,h2,h3,h4,h5⟩ ih;dsimp only at h1 h2 h3 h4 h5 ⊢;by_cases hk:k < x.length
 ·obtain ⟨t,v',u1,u2,e1,e2,e3,e4,e5,e6,e7⟩:=hstep o k v h3 h2 h4 h5
  obtain ⟨ba,oa,rfl,hrow⟩:=BW hA hk;have g1:x.getD k 0 < 4294967296:=bZ dc hx k;have g2:y.getD k 0 < 4294967296:=bZ dc hy k;repeat' (first|(apply G.cV (g:=171) (vs:=[.slice b y.length d,.int .i64 k]);rfl;rfl;exact fun w hw=>uG b y d k w om hy (hB.below hw.below))|(apply G.PW;rfl;rfl;exact e1;rfl;rfl;rfl)|(apply G.PW;rfl;rfl;exact e2;rfl;rfl;rfl)|(apply G.PL;rfl;exact e3;rfl;rfl;rfl)|(apply G.PN (n:=63);rfl;rfl;rfl;exact e4;rfl;rfl;rfl)|(apply G.Pu;rfl;rfl;rfl;rfl;rfl;rfl;rfl;rfl;intro Bs)|(apply G.ap;rfl;rfl;rfl;(repeat (first|exact RAt.head|apply RAt.tail));exact cB.blk (by exact mm) rfl rfl;exact jV lmV o t;omega;omega;intro v2)|(apply G.pu;rfl;rfl;first|exact trivial|omega)|(apply J.ct;rfl)|(apply G.nil;rfl)|(apply G.cm;rfl;rfl;all_goals intro h;all_goals try (exfalso;omega))|(apply G.fa;rfl;rfl)|(apply G.ld;rfl;(first|(apply LdV.one;(first|exact aC.P0 (by assumption) rfl|exact aC.rowS (by assumption) rfl|exact aC.Px (by assumption) rfl|(apply aC.blk;exact mm;rfl)))|(apply LdV.Pw;exact mm;rfl)|(apply LdV.part;exact mm;rfl;rfl)|(apply LdV.Pv;assumption;rfl)|(apply LdV.Ps;assumption;rfl;rfl));rfl)|(apply G.sk;rfl)|(apply G.ls;rfl;rfl)|(apply G.ix;rfl;rfl;rfl;omega;rfl)|(apply G.ix;rfl;rfl;(first|exact bU _|exact bJ _);omega;rfl)|(apply G.lt;rfl;rfl)|(apply G.bu;rfl;rfl;rfl)|(apply G.fd;rfl;rfl;rfl)|(apply G.cv;rfl;rfl;rfl;omega)|(apply G.beq;rfl;rfl;rfl)|(apply G.P9;rfl;rfl;rfl)|(apply G.mm;rfl;rfl)|(apply G.mf;rfl;rfl)|(apply G.mx;rfl;rfl;rfl)|(apply G.mn;rfl;rfl;rfl)|(apply G.bx;rfl;rfl;rfl;intro Bk)|(apply G.al;rfl;intro Bk)|(apply G.so;rfl;rfl;(repeat (first|exact RAt.head|apply RAt.tail));rfl;rfl)|(apply G.ss;rfl;rfl;(repeat (first|exact RAt.head|apply RAt.tail));rfl;rfl)|(apply J.Pz;exact Tryz.Pr;decide +kernel)|(apply J.P4;exact Tryz.Pr;decide +kernel)|apply J.PA)
  exact J.fin (ih (k+1,v',v2,o++[t]) ⟨by dsimp only;omega,e5,by simp [h3],e6,e7⟩ (by dsimp only;omega))
 ·have h6:o.length=x.length:=by omega
  subst h3;rw [h6,List.take_length] at h5;apply J.ownForm (i:=0) rfl;intro a2 c2 hu;subst hu;repeat' first|(refine gp ?_;and_intros<;>first|exact trivial|repeat first|intro(Bk:Nat)|intro h)|(apply G.cV (g:=154);rfl;rfl;exact fun w hw=>pP hw (by exact mm) om)
  (refine kE Tryz.func158 Tryz.results158 ?_;intro w' hw)
  exact zR hw (by exact mm) h4 (BV dc hx h4 h6 hle2 h5)
theorem CW (n:Nat):flat (fun x:List Value=>x) (List.replicate n [.int .u32 0])=flat lmV (List.replicate n 0):=by
 simp only [flat,List.map_replicate];rfl
theorem yL (b:Nat):∀ n,vL b (List.replicate n 0)=0
 | 0=>rfl
 | n+1=>by rw [List.replicate_succ,vL,yL b n];simp
theorem Er {w0 w:World}{M:List Row}{E g tot n:Nat}{l:List Nat} (hw:Sat w0 M w) (hm:Row.blk g E (flat lmV l) tot∈M) (hl:∀ d∈l,d < B32) (hv:vL B32 l=n) :
  dI l=dgs B32 n/\aE w (some ⟨g,0,none⟩) 1 ((dgs B32 n).map lmV)/\(∀ p,some (⟨g,0,none⟩:Addr)=some p->w0.heap.size<=p.block):=by
 have hs:=aE.P5 (f:=lmV) (sz:=1) eY hw hm;have ht:dI l=dgs B32 n:=by rw [iX dc l hl,hv]
 have hpre:∀ i,i < (dgs B32 n).length->(dgs B32 n)[i]?=l[i]?:=by
  have:dI l <+: l:=rG l;rw [ht] at this;obtain ⟨r,hr⟩:=this;intro i hi;rw [<- hr,List.getElem?_append_left hi]
 refine ⟨ht,fun h0=>?_,fun p hp=>?_⟩
 ·have hlen:(dgs B32 n).length<=l.length:=by rw [<- ht];exact nA l
  simp only [List.length_map] at h0;obtain ⟨b,off,h1,h2⟩:=hs (by simp only [List.length_map];omega)
  refine ⟨b,off,h1,fun i cs hi=>h2 i cs ?_⟩
  rw [List.getElem?_map] at hi ⊢;obtain ⟨y,hy,rfl⟩:=Option.map_eq_some_iff.1 hi;rw [<- hpre i (List.getElem?_eq_some_iff.1 hy).1,hy];rfl
 ·cases hp
  exact ((hw.old _ hm).2 g rfl).1
theorem pR {w0 w:World}{M:List Row}{E g c tot n:Nat}{l:List Nat} (hw:Sat w0 M w) (hm:Row.blk g E (flat lmV l) tot∈M) (hn:l.length=n) (hc:n<=c) (hl:n<=9223372036854775807) :
  CR 154 #[.slice (some ⟨g,0,none⟩) n c] w (.slice (some ⟨g,0,none⟩) (dI l).length c):=by
 subst hn;exact zQ _ l c w hc hl (aE.P5 eY hw hm)
theorem CX {p:List Nat}{j:Nat} (h:j < p.length):(flat lmV p)[0+j*1]?=some (.int .u32 ((p.getD j 0:Nat):Int)):=by
 refine rF eY h ?_;rw [gD,gE h];rfl
theorem F3 {p:List Nat}{j d:Nat} (h:j < p.length):dU (flat lmV p) (0+j*1) [.int .u32 (d:Int)]=flat lmV (p.set j d):=lB eY h rfl
theorem CY {b:Nat}{p:List Nat}{j d:Nat} (h:∀ x∈p,x < b) (hd:d < b):∀ x∈p.set j d,x < b:=fun x hx=>by
 rcases List.mem_or_eq_of_mem_set hx with h1|h1
 ·exact h x h1
 ·rw [h1];exact hd
theorem BX {b:Nat}{o y:List Nat}{a i c z:Nat} (hb:2<=b) (hl:vL b o+b ^ (i+(y.length+1))*c=z+a*b ^ i*vL b y) (hz:z < b ^ (i+y.length)) (ha:a < b) (hy:∀ d∈y,d < b):c=0:=by
 have h1:=fT (b:=b) om y hy;have h2:a*b ^ i*vL b y<=(b-1)*(b ^ i*b ^ y.length):=by
  rw [Nat.mul_assoc];exact Nat.mul_le_mul om (Nat.mul_le_mul_left _ om)
 rw [<- Nat.pow_add] at h2;have h3:b ^ (i+(y.length+1))=b*b ^ (i+y.length):=by rw [<- Nat.add_assoc,Nat.pow_succ,Nat.mul_comm]
 rw [h3] at hl;clear h3;obtain ⟨m,rfl⟩:∃ m,b=m+1:=⟨b-1,by omega⟩
 rw [Nat.add_sub_cancel] at h2;rcases Nat.eq_zero_or_pos c with h|h
 ·exact h
 ·have h4:(m+1)*(m+1) ^ (i+y.length)*1<=(m+1)*(m+1) ^ (i+y.length)*c:=Nat.mul_le_mul_left _ h
  have h5:(m+1)*(m+1) ^ (i+y.length)=m*(m+1) ^ (i+y.length)+(m+1) ^ (i+y.length):=by rw [Nat.add_mul,Nat.one_mul]
  omega
theorem pS (a:Option Addr) (m c:Nat) (b:Option Addr) (n d:Nat) (w:World) (hl:(dgs B32 m).length<=1073741824) (hm:(dgs B32 n).length<=1073741824) (hA:aE w a 1 ((dgs B32 m).map lmV)) (hB:aE w b 1 ((dgs B32 n).map lmV)) :
  Calls Tryz.prog 157 #[.slice a (dgs B32 m).length c,.slice b (dgs B32 n).length d] w (BH (m*n) w):=by
 have hx:=eG (b:=B32) dc m;have hy:=eG (b:=B32) dc n;rw [show m*n=vL B32 (dgs B32 m)*vL B32 (dgs B32 n) by rw [eF dc,eF dc]]
 generalize dgs B32 m=x at *;generalize dgs B32 n=y at *;refine aB [(0,.slice a x.length c),(1,.slice b y.length d)] Tryz.func157 Tryz.ntmps157 ?_;repeat' first|(refine gp ?_;and_intros<;>first|exact trivial|repeat first|intro(Bk:Nat)|intro h)|(apply G.PD (n:=x.length+y.length+1) [.int .u32 0];rfl;rfl;rfl;rfl;rfl;omega;omega;rfl;omega;omega;intro Bk;rw [CW])
 have hX:aE w a 1 (x.map lmV):=hA;refine J.loop (c:=_) ((0,List.replicate (x.length+y.length+1) 0):Nat×List Nat) (fun s=>x.length-s.1) (fun s=>[(1,.slice b y.length d),(5,.slice (some ⟨Bk,0,none⟩) (x.length+y.length+1) (x.length+y.length+1)),(18,.slice a x.length c),(19,.int .i64 x.length),(20,.int .i64 s.1)]) (fun s=>[.blk Bk 206 (flat lmV s.2) ((x.length+y.length+1)*1)]) (fun s=>s.1<=x.length/\s.2.length=x.length+y.length+1/\(∀ d∈s.2,d < B32)/\vL B32 s.2=vL B32 (x.take s.1)*vL B32 y) ?_ sbT sbL ?_
 ·exact ⟨Nat.zero_le _,by simp,fun d hd=>by rw [List.eq_of_mem_replicate hd];decide,by rw [yL];simp [vL]⟩
 intro ⟨i,o⟩ ⟨h1,h2,h3,h4⟩ ih;dsimp only at h1 h2 h3 h4 ⊢;by_cases hi:i < x.length
 ·obtain ⟨ba,oa,rfl,hrow⟩:=BW hA hi
  all_goals (refine go ?_;and_intros<;>first|exact trivial|repeat first|intro(Bk:Nat)|intro h)
  generalize hav:x.getD i 0=av;have hav2:av < B32:=by rw [<- hav];exact bZ dc hx i
  have hz:vL B32 o < B32 ^ (i+y.length):=by
   rw [h4,Nat.pow_add];have e1:=fT (b:=B32) dc (x.take i) fun d hd=>hx d (List.mem_of_mem_take hd)
   have e2:=fT (b:=B32) dc y hy;rw [List.length_take,Nat.min_eq_left om] at e1;exact Nat.mul_lt_mul'' e1 e2
  have hstep:∀ (p:List Nat) (k v:Nat),p.length=x.length+y.length+1->(∀ d∈p,d < B32)->v < B32->k<=y.length->vL B32 p+B32 ^ (i+k)*v=vL B32 o+av*B32 ^ i*vL B32 (y.take k) ->
    ∃ pr t v':Nat,pr=av*y.getD k 0/\pr+p.getD (i+k) 0+v=t/\t < 18446744073709551616/\v'=t / B32/\v' < B32/\pr < 18446744073709551616/\y.getD k 0 < 4294967296/\p.getD (i+k) 0 < 4294967296/\vL B32 (p.set (i+k) (t % B32))+B32 ^ (i+(k+1))*v'=vL B32 o+av*B32 ^ i*vL B32 (y.take (k+1)):=by
   intro p k v p1 p2 p3 p4 p5;have g1:=bZ dc hy k;have g2:=bZ dc p2 (i+k);have g3:=xH hav2 g1 g2 p3;have g4:av*y.getD k 0<=(B32-1)*(B32-1):=Nat.mul_le_mul om om;have g5:B32=4294967296:=rfl;have g6:(B32-1)*(B32-1)=18446744065119617025:=rfl;exact ⟨_,_,_,rfl,rfl,by omega,rfl,g3,by omega,by omega,by omega,zH om p5⟩
  refine J.loop (c:=_) ((0,0,o):Nat×Nat×List Nat) (fun s=>y.length+1-s.1) (fun s=>[(1,.slice b y.length d),(5,.slice (some ⟨Bk,0,none⟩) (x.length+y.length+1) (x.length+y.length+1)),(6,.int .i64 i),(7,.int .u32 av),(8,.int .u64 (s.2.1:Int)),(9,.int .i64 s.1),(18,.slice (some ⟨ba,oa,none⟩) x.length c),(19,.int .i64 x.length),(20,.int .i64 i)]) (fun s=>[.blk Bk 206 (flat lmV s.2.2) ((x.length+y.length+1)*1)]) (fun s=>s.1<=y.length+1/\s.2.1 < B32/\s.2.2.length=x.length+y.length+1/\(∀ d∈s.2.2,d < B32)/\vL B32 s.2.2+B32 ^ (i+s.1)*s.2.1=vL B32 o+av*B32 ^ i*vL B32 (y.take s.1)) ?_ sbT sbL ?_
  ·exact ⟨Nat.zero_le _,(by decide:0 < B32),h2,h3,by simp [vL]⟩
  intro ⟨k,v,p⟩ ⟨j1,j2,j3,j4,j5⟩ ih2;dsimp only at j1 j2 j3 j4 j5 ⊢;have hfin:y.length<=k->v=0->vL B32 p=vL B32 (x.take (i+1))*vL B32 y:=by
   intro q1 q2;rw [q2,List.take_of_length_le q1,h4] at j5;rw [bT,hav,Nat.add_mul,Nat.mul_comm (B32 ^ i) av];omega
  have hz2:k=y.length+1->v=0:=by
   intro q1;subst q1;rw [List.take_of_length_le om] at j5;exact BX dc j5 hz hav2 hy
  by_cases hgo:k<=y.length/\(k < y.length∨0 < v)
  ·obtain ⟨hk,hgo⟩:=hgo
   obtain ⟨pr,t,v',e1,e2,e3,e4,e5,e6,e7,e8,e9⟩:=hstep p k v j3 j4 j2 hk j5;have m1:IntKind.u64.wrap ((av:Int)*(y.getD k 0:Nat))=(pr:Int):=by
    rw [hH,<- Int.natCast_mul,<- e1];omega
   have c1:IntKind.u32.wrap ((pr:Int)+(p.getD (i+k) 0:Nat)+(v:Nat))=((t % B32:Nat):Int):=by rw [<- CV,<- e2];congr 1
   have c2:((pr:Int)+(p.getD (i+k) 0:Nat)+(v:Nat)).fdiv (2 ^ (min 32 IntKind.u64.bits))=(v':Int):=by rw [e4,<- GR,<- e2];congr 1
   have q1:=CX (p:=p) (j:=i+k) om;have q2:=F3 (p:=p) (j:=i+k) (d:=t % B32) om;have hav3:av < 4294967296:=hav2;have l9:(flat lmV p).length=p.length:=by rw [aO eY,Nat.mul_one]
   repeat' (first|(apply G.cV (g:=171) (vs:=[.slice b y.length d,.int .i64 k]);rfl;rfl;exact fun w hw=>uG b y d k w om hy (hB.below hw.below))|(apply G.Qh;rfl;rfl;exact m1;rfl;rfl;rfl)|(apply G.PL;rfl;exact c1;rfl;rfl;rfl)|(apply G.PN (n:=32);rfl;rfl;rfl;exact c2;rfl;rfl;rfl)|(apply G.ix (i:=i+k);rfl;rfl;omega;omega;rfl)|(apply G.ld;rfl;(apply LdV.one;exact aC.blk (by exact mm) q1);rfl)|(apply G.s1;rfl;rfl;rfl;(repeat (first|exact RAt.head|apply RAt.tail));exact ⟨rfl,rfl⟩;omega;exact q2)|(apply G.pu;rfl;rfl;first|exact trivial|omega)|(apply J.ct;rfl)|(apply G.nil;rfl)|(apply G.cm;rfl;rfl;all_goals intro h;all_goals try (exfalso;omega))|(apply G.fa;rfl;rfl)|(apply G.ld;rfl;(first|(apply LdV.one;(first|exact aC.P0 (by assumption) rfl|exact aC.rowS (by assumption) rfl|exact aC.Px (by assumption) rfl|(apply aC.blk;exact mm;rfl)))|(apply LdV.Pw;exact mm;rfl)|(apply LdV.part;exact mm;rfl;rfl)|(apply LdV.Pv;assumption;rfl)|(apply LdV.Ps;assumption;rfl;rfl));rfl)|(apply G.sk;rfl)|(apply G.ls;rfl;rfl)|(apply G.ix;rfl;rfl;rfl;omega;rfl)|(apply G.ix;rfl;rfl;(first|exact bU _|exact bJ _);omega;rfl)|(apply G.lt;rfl;rfl)|(apply G.bu;rfl;rfl;rfl)|(apply G.fd;rfl;rfl;rfl)|(apply G.cv;rfl;rfl;rfl;omega)|(apply G.beq;rfl;rfl;rfl)|(apply G.P9;rfl;rfl;rfl)|(apply G.mm;rfl;rfl)|(apply G.mf;rfl;rfl)|(apply G.mx;rfl;rfl;rfl)|(apply G.mn;rfl;rfl;rfl)|(apply G.bx;rfl;rfl;rfl;intro Bk)|(apply G.al;rfl;intro Bk)|(apply G.so;rfl;rfl;(repeat (first|exact RAt.head|apply RAt.tail));rfl;rfl)|(apply G.ss;rfl;rfl;(repeat (first|exact RAt.head|apply RAt.tail));rfl;rfl)|(apply J.Pz;exact Tryz.Pr;decide +kernel)|(apply J.P4;exact Tryz.Pr;decide +kernel)|apply J.PA)
   all_goals (refine J.fin (ih2 (k+1,v',p.set (i+k) (t % B32)) ⟨by dsimp only;omega,e5,by simp [j3],CY j4 (Nat.mod_lt _ dc),e9⟩ (by dsimp only;omega)))
  ·have hv:v=0:=by omega
   subst hv;all_goals (refine go ?_;and_intros<;>first|exact trivial|repeat first|intro(Bk:Nat)|intro h)
   exact J.fin (ih (i+1,p) ⟨by dsimp only;omega,j3,j4,hfin om rfl⟩ (by dsimp only;omega))
 ·have h6:i=x.length:=by omega
  subst h6;rw [List.take_length] at h4;repeat' first|(refine gp ?_;and_intros<;>first|exact trivial|repeat first|intro(Bk:Nat)|intro h)|(apply G.cV (g:=154);rfl;rfl;exact fun w hw=>pR hw (by exact mm) (by assumption) om om)
  (refine kE Tryz.func157 Tryz.results157 ?_;intro w' hw)
  obtain ⟨q1,q2,q3⟩:=Er hw (by exact mm) h3 h4
  rw [q1];exact ⟨_,_,rfl,q2,q3,hw.below⟩
theorem BI {A:Type}{l:List A}{i:Nat}{d:A} (h:i < l.length):(l.set i d).drop i=d::l.drop (i+1):=by
 rw [List.drop_eq_getElem_cons (by simpa using h),List.getElem_set_self,List.drop_set_of_lt om]
theorem xM (a:Option Addr) (m c dv:Nat) (w:World) (hl:(dgs B32 m).length<=1073741824) (hA:aE w a 1 ((dgs B32 m).map lmV)) (hd0:0 < dv) (hd1:dv < 4294967296) :
  Calls Tryz.prog 153 #[.slice a (dgs B32 m).length c,.int .u32 dv] w fun e w'=>∃ a' c',e=.returned (.tuple #[.slice a' (dgs B32 (m / dv)).length c',.int .u32 ((m % dv:Nat):Int)])/\aE w' a' 1 ((dgs B32 (m / dv)).map lmV)/\(∀ p,a'=some p->w.heap.size<=p.block)/\Below w.heap.size w w':=by
 have hx:=eG (b:=B32) dc m;have hv:vL B32 (dgs B32 m)=m:=eF dc m;generalize dgs B32 m=x at *;refine aB [(0,.slice a x.length c),(1,.int .u32 dv)] Tryz.func153 Tryz.ntmps153 ?_;repeat' first|(refine gp ?_;and_intros<;>first|exact trivial|repeat first|intro(Bk:Nat)|intro h)|(apply G.PD (n:=x.length) [.int .u32 0];rfl;rfl;rfl;rfl;rfl;omega;omega;rfl;omega;omega;intro Bk;rw [CW])
 refine J.loop (c:=_) ((x.length,(x.length:Int)-1,0,List.replicate x.length 0):Nat×Int×Nat×List Nat) (fun s=>s.1) (fun s=>[(0,.slice a x.length c),(1,.int .u32 dv),(6,.slice (some ⟨Bk,0,none⟩) x.length x.length),(7,.int .u64 (s.2.2.1:Int)),(8,.int .i64 s.2.1)]) (fun s=>[.blk Bk 206 (flat lmV s.2.2.2) (x.length*1)]) (fun s=>s.1<=x.length/\s.2.1=(s.1:Int)-1/\s.2.2.1 < dv/\s.2.2.2.length=x.length/\(∀ d∈s.2.2.2,d < B32)/\dv*vL B32 (s.2.2.2.drop s.1)+s.2.2.1=vL B32 (x.drop s.1)) ?_ sbT sbL ?_
 ·exact ⟨Nat.le_refl _,rfl,hd0,by simp,fun d hd=>by rw [List.eq_of_mem_replicate hd];decide,by simp [vL]⟩
 intro ⟨n,z,r,o⟩ ⟨h1,h2,h3,h4,h5,h6⟩ ih;dsimp only at h1 h2 h3 h4 h5 h6 ⊢;rcases Nat.eq_zero_or_pos n with rfl|h0
 ·rw [List.drop_zero,List.drop_zero,hv] at h6
  have hq:vL B32 o=m / dv:=by
   rw [<- h6,Nat.add_comm,Nat.add_mul_div_left _ _ hd0,Nat.div_eq_of_lt h3,Nat.zero_add]
  have hr:m % dv=r:=by rw [<- h6,Nat.add_comm,Nat.add_mul_mod_self_left,Nat.mod_eq_of_lt h3]
  repeat' first|(refine gp ?_;and_intros<;>first|exact trivial|repeat first|intro(Bk:Nat)|intro h)|(apply G.cV (g:=154);rfl;rfl;exact fun w hw=>pR hw (by exact mm) (by assumption) om om)
  (refine sK Tryz.func153 Tryz.results153 ?_;intro w' hw)
  obtain ⟨q1,q2,q3⟩:=Er hw (by exact mm) h5 hq
  rw [q1,hr];exact ⟨_,_,rfl,q2,q3,hw.below⟩
 ·obtain ⟨i,rfl⟩:∃ i,n=i+1:=⟨n-1,by omega⟩
  have hzi:z=(i:Int):=by omega
  subst hzi;obtain ⟨ba,oa,rfl,hrow⟩:=BW hA (k:=i) om;have hxi:x.getD i 0 < 4294967296:=bZ dc hx i;have hst:=Fv (b:=B32) h3 hxi h6 (gG (b:=B32) (x:=x) (k:=i) om);have hor:=Lr (a:=r) (b:=x.getD i 0) hxi om;have hsh:IntKind.u64.wrap ((r:Int)*2 ^ (min 32 IntKind.u64.bits))=((r*4294967296:Nat):Int):=by
   have e0:(2:Int) ^ (min 32 IntKind.u64.bits)=4294967296:=rfl;rw [e0,hH];omega
  obtain ⟨A,hA2⟩:∃ A,A=r*4294967296+x.getD i 0:=⟨_,rfl⟩;rw [<- hA2] at hor;rw [show r*B32+x.getD i 0=A from hA2.symm] at hst
  obtain ⟨q,hq⟩:∃ q,q=A / dv:=⟨_,rfl⟩;obtain ⟨r',hr'⟩:∃ r',r'=A % dv:=⟨_,rfl⟩;rw [<- hq,<- hr'] at hst;obtain ⟨f1,f2,f3⟩:=hst;have f0:q < 4294967296:=f1;have d1:IntKind.u64.wrap ((A:Int).tdiv dv)=(q:Int):=by
   rw [Int.tdiv_eq_ediv_of_nonneg om,<- Int.natCast_ediv,<- hq,hH];omega
  have d2:(A:Int).tmod dv=(r':Int):=by
   rw [Int.tmod_eq_emod_of_nonneg om,<- Int.natCast_emod,<- hr']
  have q2:=F3 (p:=o) (j:=i) (d:=q) om;have l9:(flat lmV o).length=o.length:=by rw [aO eY,Nat.mul_one]
  have hb0:(dv:Int)≠0:=by omega
  repeat' (first|(apply J.Rc 0 (.q 0 <| .q 1 <| .q 2 <| .q 3 <| .q 4 <| .q 5 <| .q 6 <| .q 7 <| .q 8 <| .q 9 <| .q 10 <| .q 11 <| .e 12 <| .q 13 <| .nil);exact Tryz.Pr;decide +kernel)|(apply G.PO (n:=32);rfl;rfl;rfl;exact hsh;rfl;rfl;rfl)|(apply G.Q1;rfl;rfl;exact hor;rfl;rfl;rfl)|(apply G.Qg;rfl;rfl;exact hb0;exact d1;rfl;rfl;rfl)|(apply G.Qr;rfl;rfl;exact hb0;exact d2;rfl;rfl;rfl)|(apply G.QP;rfl;rfl;rfl;exact ⟨rfl,rfl⟩;omega;exact q2)|(apply G.pu;rfl;rfl;first|exact trivial|omega)|(apply J.ct;rfl)|(apply G.nil;rfl)|(apply G.cm;rfl;rfl;all_goals intro h;all_goals try (exfalso;omega))|(apply G.fa;rfl;rfl)|(apply G.ld;rfl;(first|(apply LdV.one;(first|exact aC.P0 (by assumption) rfl|exact aC.rowS (by assumption) rfl|exact aC.Px (by assumption) rfl|(apply aC.blk;exact mm;rfl)))|(apply LdV.Pw;exact mm;rfl)|(apply LdV.part;exact mm;rfl;rfl)|(apply LdV.Pv;assumption;rfl)|(apply LdV.Ps;assumption;rfl;rfl));rfl)|(apply G.sk;rfl)|(apply G.ls;rfl;rfl)|(apply G.ix;rfl;rfl;rfl;omega;rfl)|(apply G.ix;rfl;rfl;(first|exact bU _|exact bJ _);omega;rfl)|(apply G.lt;rfl;rfl)|(apply G.bu;rfl;rfl;rfl)|(apply G.fd;rfl;rfl;rfl)|(apply G.cv;rfl;rfl;rfl;omega)|(apply G.beq;rfl;rfl;rfl)|(apply G.P9;rfl;rfl;rfl)|(apply G.mm;rfl;rfl)|(apply G.mf;rfl;rfl)|(apply G.mx;rfl;rfl;rfl)|(apply G.mn;rfl;rfl;rfl)|(apply G.bx;rfl;rfl;rfl;intro Bk)|(apply G.al;rfl;intro Bk)|(apply G.so;rfl;rfl;(repeat (first|exact RAt.head|apply RAt.tail));rfl;rfl)|(apply G.ss;rfl;rfl;(repeat (first|exact RAt.head|apply RAt.tail));rfl;rfl)|(apply J.Pz;exact Tryz.Pr;decide +kernel)|(apply J.P4;exact Tryz.Pr;decide +kernel)|apply J.PA)
  exact J.fin (ih (i,(i:Int)-1,r',o.set i q) ⟨by dsimp only;omega,rfl,f2,by simp [h4],CY h5 f1,by dsimp only;rw [BI om,vL];exact f3⟩ (by dsimp only;omega))
theorem yM {d:Nat} (h0:0 < d) (h1:d < B32):dgs B32 d=[d]:=by
 rw [iW dc om,Nat.mod_eq_of_lt h1,Nat.div_eq_of_lt h1,cS]
theorem wB (a:Option Addr) (m c k:Nat) (w:World) (hl:(dgs B32 m).length<=1073741824) (hA:aE w a 1 ((dgs B32 m).map lmV)) (hk:k<=31) :
  Calls Tryz.prog 155 #[.slice a (dgs B32 m).length c,.int .i64 k] w (BH (m*2 ^ k) w):=by
 have hp0:0 < 2 ^ k:=Nat.two_pow_pos k;have hp1:2 ^ k < B32:=Nat.lt_of_le_of_lt (Nat.pow_le_pow_right om hk) dc;have hsh:IntKind.u32.wrap ((1:Int)*2 ^ (min k IntKind.u32.bits))=((2 ^ k:Nat):Int):=by
  have e0:min k IntKind.u32.bits=k:=Nat.min_eq_left (show k<=32 by omega)
  have e1:(2:Int) ^ k=((2 ^ k:Nat):Int):=by simp
  have e2:2 ^ k < 4294967296:=hp1;rw [e0,Int.one_mul,e1,lI];omega
 have hd:=yM hp0 hp1;generalize 2 ^ k=p at *;have hlen:(dgs B32 p).length=1:=by rw [hd];rfl
 have htm:=fun (g:Nat) (w':World) (hw:Below w.heap.size w w') (hB:aE w' (some ⟨g,0,none⟩) 1 ((dgs B32 p).map lmV))=>pS a m c (some ⟨g,0,none⟩) p 1 w' hl om (hA.below hw) hB
 rw [hlen,hd] at htm;generalize dgs B32 m=x at *;refine aB [(0,.slice a x.length c),(1,.int .i64 k)] Tryz.func155 Tryz.ntmps155 ?_;repeat' (first|(apply G.PO (n:=k);rfl;rfl;rfl;exact hsh;rfl;rfl;rfl)|(apply G.Pu;rfl;rfl;rfl;rfl;rfl;rfl;rfl;rfl;intro Bs)|(apply G.cN (g:=157) (fun a' c'=>.slice a' (dgs B32 (m*p)).length c') ((dgs B32 (m*p)).map lmV);rfl;rfl;exact fun w' hw=>htm _ w' hw.below (aE.P5 (l:=[p]) eY hw (by exact mm));intro a2 c2 hp2 hp3)|(apply G.pu;rfl;rfl;first|exact trivial|omega)|(apply J.ct;rfl)|(apply G.nil;rfl)|(apply G.cm;rfl;rfl;all_goals intro h;all_goals try (exfalso;omega))|(apply G.fa;rfl;rfl)|(apply G.ld;rfl;(first|(apply LdV.one;(first|exact aC.P0 (by assumption) rfl|exact aC.rowS (by assumption) rfl|exact aC.Px (by assumption) rfl|(apply aC.blk;exact mm;rfl)))|(apply LdV.Pw;exact mm;rfl)|(apply LdV.part;exact mm;rfl;rfl)|(apply LdV.Pv;assumption;rfl)|(apply LdV.Ps;assumption;rfl;rfl));rfl)|(apply G.sk;rfl)|(apply G.ls;rfl;rfl)|(apply G.ix;rfl;rfl;rfl;omega;rfl)|(apply G.ix;rfl;rfl;(first|exact bU _|exact bJ _);omega;rfl)|(apply G.lt;rfl;rfl)|(apply G.bu;rfl;rfl;rfl)|(apply G.fd;rfl;rfl;rfl)|(apply G.cv;rfl;rfl;rfl;omega)|(apply G.beq;rfl;rfl;rfl)|(apply G.P9;rfl;rfl;rfl)|(apply G.mm;rfl;rfl)|(apply G.mf;rfl;rfl)|(apply G.mx;rfl;rfl;rfl)|(apply G.mn;rfl;rfl;rfl)|(apply G.bx;rfl;rfl;rfl;intro Bk)|(apply G.al;rfl;intro Bk)|(apply G.so;rfl;rfl;(repeat (first|exact RAt.head|apply RAt.tail));rfl;rfl)|(apply G.ss;rfl;rfl;(repeat (first|exact RAt.head|apply RAt.tail));rfl;rfl)|(apply J.Pz;exact Tryz.Pr;decide +kernel)|(apply J.P4;exact Tryz.Pr;decide +kernel)|apply J.PA)
 (refine kE Tryz.func155 Tryz.results155 ?_;intro w' hw)
 exact ⟨a2,c2,rfl,hw.sl (by exact mm),hp3,hw.below⟩
theorem HY (a:Option Addr) (m c k:Nat) (w:World) (hl:(dgs B32 m).length<=1073741824) (hA:aE w a 1 ((dgs B32 m).map lmV)) (h0:0 < k) (hk:k<=31) :
  Calls Tryz.prog 155 #[.slice a (dgs B32 m).length c,.int .i64 (-(k:Int))] w (BH (m / 2 ^ k) w):=by
 have hp0:0 < 2 ^ k:=Nat.two_pow_pos k;have hp1:2 ^ k < 4294967296:=Nat.lt_of_le_of_lt (Nat.pow_le_pow_right om hk) dc;have hsh:IntKind.u32.wrap ((1:Int)*2 ^ (min k IntKind.u32.bits))=((2 ^ k:Nat):Int):=by
  have e0:min k IntKind.u32.bits=k:=Nat.min_eq_left (show k<=32 by omega)
  have e1:(2:Int) ^ k=((2 ^ k:Nat):Int):=by simp
  rw [e0,Int.one_mul,e1,lI];omega
 generalize 2 ^ k=p at *;have hsm:=fun (w':World) (hw:Below w.heap.size w w')=>xM a m c p w' hl (hA.below hw) hp0 hp1
 generalize dgs B32 m=x at *;refine aB [(0,.slice a x.length c),(1,.int .i64 (-(k:Int)))] Tryz.func155 Tryz.ntmps155 ?_;repeat' (first|(apply G.PO (n:=k);rfl;rfl;omega;exact hsh;rfl;rfl;rfl)|(apply G.cN (g:=153) (fun a' c'=>.tuple #[.slice a' (dgs B32 (m / p)).length c',.int .u32 ((m % p:Nat):Int)]) ((dgs B32 (m / p)).map lmV);rfl;rfl;exact fun w' hw=>hsm w' hw.below;intro a2 c2 hp2 hp3)|(apply G.pu;rfl;rfl;first|exact trivial|omega)|(apply J.ct;rfl)|(apply G.nil;rfl)|(apply G.cm;rfl;rfl;all_goals intro h;all_goals try (exfalso;omega))|(apply G.fa;rfl;rfl)|(apply G.ld;rfl;(first|(apply LdV.one;(first|exact aC.P0 (by assumption) rfl|exact aC.rowS (by assumption) rfl|exact aC.Px (by assumption) rfl|(apply aC.blk;exact mm;rfl)))|(apply LdV.Pw;exact mm;rfl)|(apply LdV.part;exact mm;rfl;rfl)|(apply LdV.Pv;assumption;rfl)|(apply LdV.Ps;assumption;rfl;rfl));rfl)|(apply G.sk;rfl)|(apply G.ls;rfl;rfl)|(apply G.ix;rfl;rfl;rfl;omega;rfl)|(apply G.ix;rfl;rfl;(first|exact bU _|exact bJ _);omega;rfl)|(apply G.lt;rfl;rfl)|(apply G.bu;rfl;rfl;rfl)|(apply G.fd;rfl;rfl;rfl)|(apply G.cv;rfl;rfl;rfl;omega)|(apply G.beq;rfl;rfl;rfl)|(apply G.P9;rfl;rfl;rfl)|(apply G.mm;rfl;rfl)|(apply G.mf;rfl;rfl)|(apply G.mx;rfl;rfl;rfl)|(apply G.mn;rfl;rfl;rfl)|(apply G.bx;rfl;rfl;rfl;intro Bk)|(apply G.al;rfl;intro Bk)|(apply G.so;rfl;rfl;(repeat (first|exact RAt.head|apply RAt.tail));rfl;rfl)|(apply G.ss;rfl;rfl;(repeat (first|exact RAt.head|apply RAt.tail));rfl;rfl)|(apply J.Pz;exact Tryz.Pr;decide +kernel)|(apply J.P4;exact Tryz.Pr;decide +kernel)|apply J.PA)
 (refine kE Tryz.func155 Tryz.results155 ?_;intro w' hw)
 exact ⟨a2,c2,rfl,hw.sl (by exact mm),hp3,hw.below⟩
theorem xN (p:Addr) (l:List Nat) (c:Nat) (w:World) (hl:l.length<=4294967296) (hA:aE w (some p) 1 (l.map lmV)) :
  Calls Tryz.prog 156 #[.slice (some p) l.length c] w (Ft Tryz.prog w 206 1 l.length (flat lmV l) id):=by
 refine aB [(0,.slice (some p) l.length c)] Tryz.func156 Tryz.ntmps156 ?_;repeat' first|(refine gp ?_;and_intros<;>first|exact trivial|repeat first|intro(Bk:Nat)|intro h)|(apply G.QQ;rfl;rfl;rfl;all_goals intro h;all_goals try (cases h;done))|(apply G.QA;rfl;rfl;rfl;intro Bk)|(apply G.ap;rfl;rfl;rfl;(repeat (first|exact RAt.head|apply RAt.tail));exact cB.old eY GQ hA;exact List.nil_append _;omega;omega;intro v')
 (refine kE Tryz.func156 Tryz.results156 ?_;intro w' hw)
 have:=hw.retO (P:=Tryz.prog) (i:=0) rfl id
 rwa [Nat.zero_add] at this
theorem MG (a:Option Addr) (m c:Nat) (b:Option Addr) (n d:Nat) (w:World) (hl:(dgs B32 m).length<=1073741824) (hm:(dgs B32 n).length<=1073741824) (hA:aE w a 1 ((dgs B32 m).map lmV)) (hB:aE w b 1 ((dgs B32 n).map lmV)) (hlt:m < n) :
  CR 114 #[.slice a (dgs B32 m).length c,.slice b (dgs B32 n).length d] w (.tuple #[.slice none 0 0,.slice a (dgs B32 m).length c]):=by
 have hcm:=fun (w':World) (hw:Below w.heap.size w w')=>eW a m c b n d w' om om (hA.below hw) (hB.below hw)
 rw [jT om] at hcm;generalize dgs B32 m=x at *;generalize dgs B32 n=y at *;refine aB [(0,.slice a x.length c),(1,.slice b y.length d)] Tryz.func114 Tryz.ntmps114 ?_;repeat' first|(refine gp ?_;and_intros<;>first|exact trivial|repeat first|intro(Bk:Nat)|intro h)|(apply G.cV (g:=152);rfl;rfl;exact fun w' hw=>hcm w' hw.below)
 all_goals exact hU Tryz.func114 Tryz.results114 rfl
def Jk (q r:Nat) (w:World) (e:Ending) (w':World):Prop :=
 ∃ a1 c1 a2 c2,e=.returned (.tuple #[.slice a1 (dgs B32 q).length c1,.slice a2 (dgs B32 r).length c2])/\aE w' a1 1 ((dgs B32 q).map lmV)/\aE w' a2 1 ((dgs B32 r).map lmV)/\(∀ p,a1=some p->w.heap.size<=p.block)/\(∀ p,a2=some p->w.heap.size<=p.block)/\Below w.heap.size w w'
theorem tC {w0 w:World}{M:List Row}{E g tot n:Nat}{l:List Nat} (hw:Sat w0 M w) (hm:Row.blk g E (flat lmV l) tot∈M) (ht:dI l=dgs B32 n):aE w (some ⟨g,0,none⟩) 1 ((dgs B32 n).map lmV):=by
 have hs:=aE.P5 (f:=lmV) (sz:=1) eY hw hm;have hpre:∀ i,i < (dgs B32 n).length->(dgs B32 n)[i]?=l[i]?:=by
  have:dI l <+: l:=rG l;rw [ht] at this;obtain ⟨r,hr⟩:=this;intro i hi;rw [<- hr,List.getElem?_append_left hi]
 intro h0;have hlen:(dgs B32 n).length<=l.length:=by rw [<- ht];exact nA l
 simp only [List.length_map] at h0;obtain ⟨b,off,h1,h2⟩:=hs (by simp only [List.length_map];omega)
 refine ⟨b,off,h1,fun i cs hi=>h2 i cs ?_⟩
 rw [List.getElem?_map] at hi ⊢;obtain ⟨y,hy,rfl⟩:=Option.map_eq_some_iff.1 hi;rw [<- hpre i (List.getElem?_eq_some_iff.1 hy).1,hy];rfl
theorem iP {w0 w:World}{M:List Row}{E g c tot n k:Nat}{l:List Nat} (hw:Sat w0 M w) (hm:Row.blk g E (flat lmV l) tot∈M) (hn:l.length=n) (ht:dI l=dgs B32 k) (hc:n<=c) (hl:n<=9223372036854775807) :
  CR 154 #[.slice (some ⟨g,0,none⟩) n c] w (.slice (some ⟨g,0,none⟩) (dgs B32 k).length c):=by
 rw [<- ht];exact pR hw hm hn hc hl
theorem Nt (a:Option Addr) (m c:Nat) (b:Option Addr) (n d:Nat) (w:World) (hl:(dgs B32 m).length<=1073741824) (hA:aE w a 1 ((dgs B32 m).map lmV)) (hB:aE w b 1 ((dgs B32 n).map lmV)) (hge:n<=m) (h1:(dgs B32 n).length=1) :
  Calls Tryz.prog 114 #[.slice a (dgs B32 m).length c,.slice b (dgs B32 n).length d] w (Jk (m / n) (m % n) w):=by
 have hcm:=fun (w':World) (hw:Below w.heap.size w w')=>eW a m c b n d w' om om (hA.below hw) (hB.below hw)
 have hc0:0<=hZ m n:=by
  rcases Nat.lt_or_ge n m with h|h
  ·rw [gJ om];decide
  ·rw [show m=n by omega,iE];decide
 have hn:dgs B32 n=[n]/\0 < n/\n < B32:=by
  have h2:=eF (b:=B32) dc n;have h3:=eG (b:=B32) dc n;have h4:n≠0:=fun e=>by rw [e,cS] at h1;cases h1
  match hh:dgs B32 n,h1 with
  | [x],_ =>
   rw [hh] at h2 h3;have e:x=n:=by simpa [vL] using h2
   subst e;exact ⟨rfl,by omega,h3 x (.head _)⟩
 obtain ⟨hn1,hn2,hn3⟩:=hn;have hsm:=fun (w':World) (hw:Below w.heap.size w w')=>xM a m c n w' hl (hA.below hw) hn2 hn3
 obtain ⟨bb,ob,rfl,hrow⟩:=BW hB (k:=0) om;have hg0:(dgs B32 n).getD 0 0=n:=by rw [hn1];rfl
 rw [hg0] at hrow;rw [h1] at hcm ⊢;have hr3:m % n < B32:=Nat.lt_trans (Nat.mod_lt _ hn2) hn3;have ht:dI [m % n]=dgs B32 (m % n):=by
  rw [iX (b:=B32) dc [m % n] (fun d hd=>by rw [List.mem_singleton.1 hd];exact hr3)];simp [vL]
 generalize hZ m n=cc at *;generalize dgs B32 m=x at *;refine aB [(0,.slice a x.length c),(1,.slice (some ⟨bb,ob,none⟩) 1 d)] Tryz.func114 Tryz.ntmps114 ?_;repeat' first|(refine gp ?_;and_intros<;>first|exact trivial|repeat first|intro(Bk:Nat)|intro h)|(apply G.cV (g:=152);rfl;rfl;exact fun w' hw=>hcm w' hw.below)|(apply G.cN (g:=153) (fun a' c'=>.tuple #[.slice a' (dgs B32 (m / n)).length c',.int .u32 ((m % n:Nat):Int)]) ((dgs B32 (m / n)).map lmV);rfl;rfl;exact fun w' hw=>hsm w' hw.below;intro a2 c2 hp2 hp3)|(apply G.Pu;rfl;rfl;rfl;rfl;rfl;rfl;rfl;rfl;intro Bs)|(apply G.cV (g:=154);rfl;rfl;exact fun w' hw=>iP (l:=[m % n]) hw (by exact mm) rfl ht dc dc)|(apply G.ix (i:=0);rfl;rfl;rfl;omega;rfl)
 (refine sK Tryz.func114 Tryz.results114 ?_;intro w' hw)
 exact ⟨a2,c2,some ⟨Bs,0,none⟩,1,rfl,hw.sl (by exact mm),tC (l:=[m % n]) hw (.head _) ht,hp3,fun p hp=>by cases hp;exact ((hw.old _ (.head _)).2 Bs rfl).1,hw.below⟩
theorem GS {b:Nat} (hb:2<=b) {n:Nat} (hn:n≠0):(dgs b n).getD ((dgs b n).length-1) 0≠0:=by
 intro h;have h0:(dgs b n).length≠0:=by rw [iW hb hn];simp
 have h1:=bT b (dgs b n) ((dgs b n).length-1);rw [h,Nat.mul_zero,Nat.add_zero,List.take_of_length_le om,eF hb] at h1;have h2:=fT (b:=b) om ((dgs b n).take ((dgs b n).length-1)) fun d hd=>eG hb n d (List.mem_of_mem_take hd)
 rw [List.length_take,Nat.min_eq_left om] at h2;have:=vX hb n hn;omega
theorem O3 {C:Ctx}{M:List Row}{N b off i:Nat}{l:List Nat} (hm:aL N (some ⟨b,off,none⟩) 1 (l.map lmV)∈M) (hi:i < l.length):aC C M ⟨b,off+i*1,none⟩ (.int .u32 ((l.getD i 0:Nat):Int)):=by
 refine aC.QJ hm hi ?_;rw [gD,gE hi];rfl
theorem CZ {C:Ctx}{M:List Row}{N b off i d:Nat}{l:List Nat} (hm:aL N (some ⟨b,off,none⟩) 1 (l.map lmV)∈M) (hi:i < l.length) (he:l.getD i 0=d):aC C M ⟨b,off+i*1,none⟩ (.int .u32 (d:Int)):=by
 subst he;exact O3 hm hi
theorem Da (l:List Nat):flat lmV l=l.map fun d:Nat=>Value.int .u32 (d:Int):=by
 induction l with
 | nil=>rfl
 | cons x r ih=>rw [fA,ih];rfl
theorem Nu {rho:List Nat}{i n:Nat}{d:List Nat} (hd:d.length<=n+1) (hl:i+n+1<=rho.length):dU (dU (flat lmV rho) i (List.replicate (n+1) (.int .u32 0))) i (flat lmV d)=flat lmV (gI rho i n d):=by
 rw [rD (List.replicate (n+1) _) _ _ (by simp [Da];omega),rD _ _ _ (by simp [Da];omega)]
 simp only [Da,gI,List.map_append,List.map_take,List.map_drop,List.map_replicate,List.length_replicate,List.length_map];have e1:List.take i (List.take i (rho.map fun d:Nat=>Value.int .u32 (d:Int))++List.replicate (n+1) (Value.int .u32 0)++List.drop (i+(n+1)) (rho.map fun d:Nat=>Value.int .u32 (d:Int)))=List.take i (rho.map fun d:Nat=>Value.int .u32 (d:Int)):=by
  rw [List.append_assoc,List.take_append_of_le_length (by simp;omega),List.take_take,Nat.min_self]
 have e2:List.drop (i+d.length) (List.take i (rho.map fun d:Nat=>Value.int .u32 (d:Int))++List.replicate (n+1) (Value.int .u32 0)++List.drop (i+(n+1)) (rho.map fun d:Nat=>Value.int .u32 (d:Int)))=List.replicate (n+1-d.length) (Value.int .u32 0)++List.drop (i+(n+1)) (rho.map fun d:Nat=>Value.int .u32 (d:Int)):=by
  rw [List.append_assoc,List.drop_append,List.length_take,List.length_map,Nat.min_eq_left om,List.drop_of_length_le (by simp;omega),List.nil_append,show i+d.length-i=d.length by omega,List.drop_append_of_le_length (by simp;omega),List.drop_replicate]
 rw [e1,e2];simp only [List.append_assoc];rfl
structure DI (V M' nV L ql:Nat) (s:Nat×Int×List Nat×List Nat):Prop where
 a1:s.1+nV<=L
 a2:s.2.1=(s.1:Int)-1
 a3:s.2.2.1.length=L
 a4:∀ d∈s.2.2.1,d < B32
 a5:vL B32 (s.2.2.1.drop s.1) < V
 a6:s.1+nV=L->s.2.2.1.getD (L-1) 0=0/\s.2.2.1.getD (L-2) 0=0
 a7:s.2.2.2.length=ql
 a8:∀ d∈s.2.2.2,d < B32
 a9:∀ t,t < s.1->s.2.2.2.getD t 0=0
 a10:vL B32 s.2.2.1+V*vL B32 s.2.2.2=M'
theorem Jl {a b:Nat} (h:a*b < 18446744073709551616):IntKind.u64.wrap ((a:Int)*(b:Int))=((a*b:Nat):Int):=by
 rw [hH,<- Int.natCast_mul];omega
theorem F4 {a b:Nat} (h:b<=a) (ha:a < 18446744073709551616):IntKind.u64.wrap ((a:Int)-(b:Int))=((a-b:Nat):Int):=by
 rw [hH];omega
theorem Jm {a:Nat} (h:a < 4294967296):IntKind.u64.wrap ((a:Int)*2 ^ (min 32 IntKind.u64.bits))=((a*4294967296:Nat):Int):=by
 have e0:(2:Int) ^ (min 32 IntKind.u64.bits)=4294967296:=rfl;rw [e0,hH];omega
theorem O4 {a b:Nat} (h:a < 18446744073709551616):IntKind.u64.wrap ((a:Int).tdiv (b:Int))=((a / b:Nat):Int):=by
 have h2:=Nat.div_le_self a b;rw [Int.tdiv_eq_ediv_of_nonneg om,<- Int.natCast_ediv,hH];generalize a / b=q at *;omega
theorem Jn {V M' lx:Nat} (hV:2<=(dgs B32 V).length) (hle:V<=M') (hlx:(dgs B32 M').length<=lx+1) :
  DI V M' (dgs B32 V).length ((dgs B32 M').length+2) (lx+2-(dgs B32 V).length) ((dgs B32 M').length+2-(dgs B32 V).length,(((dgs B32 M').length+2:Nat):Int)-(dgs B32 V).length-1,dgs B32 M'++[0,0],List.replicate (lx+2-(dgs B32 V).length) 0):=by
 have hb:2<=B32:=by decide
 have hV0:V≠0:=fun e=>by rw [e,cS] at hV;exact absurd hV dc
 have h1:=dA hb hle;have h2:=vX hb V hV0;have h3:=eG hb M';have h4:=eF hb M';generalize dgs B32 M'=x at *;generalize hn:(dgs B32 V).length=nV at *;have hd:(x++[0,0]).drop (x.length+2-nV)=x.drop (x.length+2-nV)++[0,0]:=by
  rw [List.drop_append_of_le_length om]
 refine ⟨by dsimp only;omega,by dsimp only;omega,by simp,?_,?_,?_,by simp,?_,?_,?_⟩
 ·intro d hd
  rcases List.mem_append.1 hd with h|h
  ·exact h3 d h
  ·have:d=0:=by simpa using h
   rw [this];decide
 ·dsimp only
  rw [hd,fS];have h5:=fT (b:=B32) dc (x.drop (x.length+2-nV)) fun d hd=>h3 d (List.mem_of_mem_drop hd)
  rw [List.length_drop] at h5;have h6:B32 ^ (x.length-(x.length+2-nV))<=B32 ^ (nV-1):=Nat.pow_le_pow_right dc om;have h7:vL B32 [0,0]=0:=rfl;rw [h7,Nat.mul_zero,Nat.add_zero];exact Nat.lt_of_lt_of_le h5 (Nat.le_trans h6 h2)
 ·intro _
  dsimp only;simp only [gD];rw [List.getElem?_append_right om,List.getElem?_append_right om];simp
 ·intro d hd
  rw [List.eq_of_mem_replicate hd];decide
 ·intro t _
  simp only [gD,List.getElem?_replicate];split<;>rfl
 ·dsimp only
  rw [fS,yL,h4];have h7:vL B32 [0,0]=0:=rfl;rw [h7];simp
theorem O5 {V M' L ql nV j:Nat}{z:Int}{rho Q v:List Nat} (h:DI V M' nV L ql (j+1,z,rho,Q)) (hv:vL B32 v=V) (hvl:v.length=nV) (hvd:∀ d∈v,d < B32) (hn:2<=nV):Kn B32 V v rho j nV :=
 ⟨by decide,hv,hvl,hvd,hn,h.a4,by have:=h.a1;have:=h.a3;dsimp only at *;omega,h.a5⟩
theorem Ly {V M' L ql nV j:Nat}{z:Int}{rho Q v:List Nat} (h:DI V M' nV L ql (j+1,z,rho,Q)) (kn:Kn B32 V v rho j nV) (hq:vL B32 (rho.drop j) / V=0):DI V M' nV L ql (j,(j:Int)-1,rho,Q):=by
 have h1:=h.a1;refine ⟨by dsimp only at *;omega,rfl,h.a3,h.a4,?_,fun e=>?_,h.a7,h.a8,fun t ht=>h.a9 t (by dsimp only at *;omega),h.a10⟩
 ·exact Nat.lt_of_div_eq_zero kn.vpos hq
 ·dsimp only at *;omega
theorem Lz {V M' L ql nV j g:Nat}{z:Int}{rho Q v d:List Nat} (h:DI V M' nV L ql (j+1,z,rho,Q)) (kn:Kn B32 V v rho j nV) (hq:g=vL B32 (rho.drop j) / V) (hj:j < ql) (hd:∀ x∈d,x < B32) (hdl:d.length<=nV+1) (hdv:vL B32 d=vL B32 (rho.drop j)-g*V) :
  DI V M' nV L ql (j,(j:Int)-1,gI rho j nV d,Q.set j g):=by
 obtain ⟨p1,p2,p3,p4⟩:=kn.put hq hd hdl hdv;have h1:=h.a1;have h7:=h.a7;have hg:g < B32:=by rw [hq];exact kn.qlt
 have h9:=h.a9 j (by dsimp only;omega)
 dsimp only at h1 h7 h9;refine ⟨by dsimp only;omega,rfl,p1.trans h.a3,p2,p3,fun e=>by dsimp only at e;omega,by simpa using h7,CY h.a8 hg,fun t ht=>?_,?_⟩
 ·dsimp only at ht
  have h10:=h.a9 t (by dsimp only;omega)
  dsimp only at h10 ⊢;rw [gD,List.getElem?_set_ne om,<- gD];exact h10
 ·have h10:=h.a10
  have h11:=Fu B32 Q j g om;dsimp only at h10 ⊢;rw [h9,Nat.mul_zero,Nat.add_zero] at h11;rw [h11,Nat.mul_add,<- h10,<- p4,Nat.mul_left_comm V,Nat.mul_comm V g];omega
set_option maxHeartbeats 4000000 in
theorem O6 (a:Option Addr) (m c:Nat) (b:Option Addr) (n d:Nat) (w:World) (hl:(dgs B32 m).length<=268435456) (hA:aE w a 1 ((dgs B32 m).map lmV)) (hB:aE w b 1 ((dgs B32 n).map lmV)) (hge:n<=m) (h2:2<=(dgs B32 n).length) :
  Calls Tryz.prog 114 #[.slice a (dgs B32 m).length c,.slice b (dgs B32 n).length d] w (Jk (m / n) (m % n) w):=by
 have hlm:=dA (b:=B32) dc hge;have hn0:n≠0:=fun e=>by rw [e,cS] at h2;exact absurd h2 dc
 have hcm:=fun (w':World) (hw:Below w.heap.size w w')=>eW a m c b n d w' om om (hA.below hw) (hB.below hw)
 have hc0:0<=hZ m n:=by
  rcases Nat.lt_or_ge n m with h|h
  ·rw [gJ om];decide
  ·rw [show m=n by omega,iE];decide
 generalize hZ m n=cc at *;have htop:=GS (b:=B32) dc hn0;have hyd:=eG (b:=B32) dc n;have hxv:=eF (b:=B32) dc m;have hxd:=fT (b:=B32) dc (dgs B32 m) (eG dc m);rw [hxv] at hxd;have hshX:=fun (k:Nat) (w':World) (hw:Below w.heap.size w w') (hk:k<=31)=>wB a m c k w' om (hA.below hw) hk
 have hshY:=fun (k:Nat) (w':World) (hw:Below w.heap.size w w') (hk:k<=31)=>wB b n d k w' om (hB.below hw) hk
 have hlenV:∀ k,(dgs B32 n).length<=(dgs B32 (n*2 ^ k)).length:=fun k=>dA dc (by have:=Nat.mul_le_mul_left n (Nat.two_pow_pos k);omega)
 generalize dgs B32 m=x at *;generalize dgs B32 n=y at *;obtain ⟨bb,ob,rfl,hrow⟩:=BW hB (k:=y.length-1) om;have ht:=bZ (b:=B32) dc hyd (y.length-1);generalize y.getD (y.length-1) 0=t at *;refine aB [(0,.slice a x.length c),(1,.slice (some ⟨bb,ob,none⟩) y.length d)] Tryz.func114 Tryz.ntmps114 ?_;repeat' first|(refine gp ?_;and_intros<;>first|exact trivial|repeat first|intro(Bk:Nat)|intro h)|(apply G.cV (g:=152);rfl;rfl;exact fun w' hw=>hcm w' hw.below)
 clear hcm hc0;refine J.loop (c:=_) (0:Nat) (fun s=>32-s) (fun s=>[(0,.slice a x.length c),(1,.slice (some ⟨bb,ob,none⟩) y.length d),(8,.int .i64 s)]) (fun s=>[]) (fun s=>s<=31/\t*2 ^ s < 4294967296) ?_ sbT sbL ?_
 ·exact ⟨Nat.zero_le _,by rw [Nat.pow_zero,Nat.mul_one];exact ht⟩
 intro k ⟨hk,htk⟩ ih;have hsh:IntKind.u32.wrap ((t:Int)*2 ^ (min k IntKind.u32.bits))=((t*2 ^ k:Nat):Int):=by
  have e0:min k IntKind.u32.bits=k:=Nat.min_eq_left (show k<=32 by omega)
  have e1:(t:Int)*(2:Int) ^ k=((t*2 ^ k:Nat):Int):=by simp
  rw [e0,e1,lI];omega
 by_cases hgo:t*2 ^ k < 2147483648
 ·have hk1:k+1<=31:=by
   rcases Nat.lt_or_ge k 31 with h|h
   ·omega
   ·have:k=31:=by omega
    subst this;omega
  repeat' first|(refine gp ?_;and_intros<;>first|exact trivial|repeat first|intro(Bk:Nat)|intro h)|(apply G.ix (i:=y.length-1);rfl;rfl;omega;omega;rfl)|(apply G.PO (n:=k);rfl;rfl;rfl;exact hsh;rfl;rfl;rfl)
  exact J.fin (ih (k+1) ⟨hk1,by rw [Nat.pow_succ,<- Nat.mul_assoc];omega⟩ om)
 have hV2:=hlenV k;have hshX:=hshX k;have hshY:=hshY k;have hle:n*2 ^ k<=m*2 ^ k:=Nat.mul_le_mul_right _ hge;have hM1:(dgs B32 (m*2 ^ k)).length<=x.length+1:=by
  refine gF dc _ _ ?_;rw [Nat.pow_succ]
  have:2 ^ k < B32:=Nat.lt_of_le_of_lt (Nat.pow_le_pow_right om hk) dc;exact Nat.mul_lt_mul'' hxd this
 have hst:=Jn (V:=n*2 ^ k) (M':=m*2 ^ k) (lx:=x.length) om hle hM1;have hVM:=dA (b:=B32) dc hle;have hvv:=eF (b:=B32) dc (n*2 ^ k);have hvd:=eG (b:=B32) dc (n*2 ^ k);have hvt:=GS (b:=B32) dc (n:=n*2 ^ k) (fun e=>by rw [e,cS,List.length_nil] at hV2;omega)
 have hkq:∀ N,N*2 ^ k / 2 ^ k=N:=fun N=>Nat.mul_div_cancel _ (Nat.two_pow_pos k)
 have hdiv:m*2 ^ k / (n*2 ^ k)=m / n:=Nat.mul_div_mul_right _ _ (Nat.two_pow_pos k);have hmod:m*2 ^ k % (n*2 ^ k)=m % n*2 ^ k:=Nat.mul_mod_mul_right _ _ _;generalize hVV:n*2 ^ k=V at *;generalize hMM:m*2 ^ k=M' at *;have tmV:∀ (w':World) (a3:Option Addr) (c3 p gg:Nat),aE w' a3 1 ((dgs B32 V).map lmV)->aE w' (some ⟨p,0,none⟩) 1 ([gg].map lmV)->0 < gg->gg < B32->Calls Tryz.prog 157 #[.slice a3 (dgs B32 V).length c3,.slice (some ⟨p,0,none⟩) 1 1] w' (BH (V*gg) w'):=by
  intro w' a3 c3 p gg h3 h4 h5 h6;have h7:=pS a3 V c3 (some ⟨p,0,none⟩) gg 1 w' om (by rw [yM h5 h6];simp) h3 (by rw [yM h5 h6];exact h4)
  rwa [yM h5 h6] at h7
 have mnV:∀ (w':World) (ap:Option Addr) (cp:Nat) (a3:Option Addr) (c3 gg:Nat),aE w' ap 1 ((dgs B32 (V*gg)).map lmV)->aE w' a3 1 ((dgs B32 V).map lmV)->0 < gg->(dgs B32 (V*gg)).length<=1073741824->Calls Tryz.prog 158 #[.slice ap (dgs B32 (V*gg)).length cp,.slice a3 (dgs B32 V).length c3] w' (BH (V*(gg-1)) w'):=by
  intro w' ap cp a3 c3 gg h3 h4 h5 h6;have e:V*(gg-1)=V*gg-V:=by rw [Nat.mul_sub,Nat.mul_one]
  rw [e];exact pQ ap (V*gg) cp a3 V c3 w' h6 om h3 h4 (by have:=Nat.mul_le_mul_left V h5;omega)
 have hVB:V < B32 ^ (dgs B32 V).length:=by
  have:=fT (b:=B32) dc (dgs B32 V) hvd
  rwa [hvv] at this
 have hshX:∀ w':World,Below w.heap.size w w'->Calls Tryz.prog 155 #[.slice a x.length c,.int .i64 k] w' (fun e w2=>∃ a' c',e=.returned (.slice a' (dgs B32 M').length c')/\aE w2 a' 1 ((dgs B32 M').map lmV)/\(∀ p,a'=some p->w'.heap.size<=p.block)/\Below w'.heap.size w' w2):=fun w' hw=>hshX w' hw hk
 have hshY:∀ w':World,Below w.heap.size w w'->Calls Tryz.prog 155 #[.slice (some ⟨bb,ob,none⟩) y.length d,.int .i64 k] w' (fun e w2=>∃ a' c',e=.returned (.slice a' (dgs B32 V).length c')/\aE w2 a' 1 ((dgs B32 V).map lmV)/\(∀ p,a'=some p->w'.heap.size<=p.block)/\Below w'.heap.size w' w2):=fun w' hw=>hshY w' hw hk
 generalize hv:dgs B32 V=v at *;generalize hx':dgs B32 M'=x' at *;have hx'0:0 < x'.length:=by omega
 repeat' first|(refine gp ?_;and_intros<;>first|exact trivial|repeat first|intro(Bk:Nat)|intro h)|(apply G.ix (i:=y.length-1);rfl;rfl;omega;omega;rfl)|(apply G.PO (n:=k);rfl;rfl;rfl;exact hsh;rfl;rfl;rfl)|(apply G.cN (g:=155) (vs:=[.slice (some ⟨bb,ob,none⟩) y.length d,.int .i64 k]) (fun a' c'=>.slice a' v.length c') (v.map lmV);rfl;rfl;exact fun w' hw=>hshY w' hw.below;intro a3 c3 hp3 hq3)|(apply G.cN (g:=155) (vs:=[.slice a x.length c,.int .i64 k]) (fun a' c'=>.slice a' x'.length c') (x'.map lmV);rfl;rfl;exact fun w' hw=>hshX w' hw.below;intro a4 c4 hp4 hq4)
 obtain ⟨b4,o4,rfl⟩:=hp4 (by rw [List.length_map];exact hx'0)
 obtain ⟨b3,o3,rfl⟩:=hp3 (by rw [List.length_map];omega)
 repeat' first|(refine gp ?_;and_intros<;>first|exact trivial|repeat first|intro(Bk:Nat)|intro h)|(apply G.cO (g:=156) id;rfl;rfl;exact fun w' hw=>xN _ x' c4 w' om (hw.sl (by exact mm));intro u)|(apply G.Pu;rfl;rfl;rfl;rfl;rfl;rfl;rfl;rfl;intro Bs)|(apply G.RF;rfl;rfl;rfl;(repeat (first|exact RAt.head|apply RAt.tail));exact cB.blk (by exact mm) rfl rfl;exact (jU lmV x' [0,0]).symm;omega;omega;omega;intro rg rc hrc)|(apply G.PD (n:=x.length+2-v.length) [.int .u32 0];rfl;rfl;rfl;rfl;rfl;omega;omega;rfl;omega;omega;intro Qk;rw [CW])
 clear hshX hshY hlenV hA hrow hp3 hp4 hq4;generalize hnV:v.length=nV at *;generalize hL:x'.length+2=L at *;generalize hql:x.length+2-nV=ql at *;have hw0:∀ {M:List Row}{w':World},Sat w M w'->Sat w M w':=fun h=>h
 refine J.loop (c:=_) ((L-nV,(L:Int)-nV-1,x'++[0,0],List.replicate ql 0):Nat×Int×List Nat×List Nat) (fun s=>s.1) (fun s=>[(8,.int .i64 k),(9,.slice (some ⟨b3,o3,none⟩) nV c3),(10,.slice (some ⟨rg,0,none⟩) L rc),(11,.int .i64 nV),(12,.slice (some ⟨Qk,0,none⟩) ql ql),(13,.int .i64 s.2.1)]) (fun s=>[.blk Qk 206 (flat lmV s.2.2.2) (ql*1),.blk rg 206 (flat lmV s.2.2.1) (rc*1),aL w.heap.size (some ⟨b3,o3,none⟩) 1 (v.map lmV)]) (fun s=>DI V M' nV L ql s) ?_ sbT sbL ?_
 ·exact hst
 intro ⟨i,z,rho,Q⟩ hdi ih;rcases Nat.eq_zero_or_pos i with rfl|hi0
 ·have d5:=hdi.a5
  have d10:=hdi.a10;have d2:=hdi.a2;have d3:=hdi.a3;have d7:=hdi.a7;dsimp only at d2 d3 d5 d7 d10 ⊢;rw [List.drop_zero] at d5;have hqv:vL B32 Q=m / n:=by
   rw [<- hdiv,<- d10,Nat.add_mul_div_left _ _ om,Nat.div_eq_of_lt d5,Nat.zero_add]
  have hrv:vL B32 rho=m % n*2 ^ k:=by
   rw [<- hmod,<- d10,Nat.add_mul_mod_self_left,Nat.mod_eq_of_lt d5]
  have tQ:dI Q=dgs B32 (m / n):=by rw [iX dc Q hdi.a8,hqv]
  have tR:dI rho=dgs B32 (m % n*2 ^ k):=by rw [iX dc rho hdi.a4,hrv]
  have lR:(dgs B32 (m % n*2 ^ k)).length<=L:=by rw [<- tR,<- d3];exact nA rho
  have hsh:∀ (w':World) (a1:Option Addr) (c1:Nat),aE w' a1 1 ((dgs B32 (m % n*2 ^ k)).map lmV)->Calls Tryz.prog 155 #[.slice a1 (dgs B32 (m % n*2 ^ k)).length c1,.int .i64 (-(k:Int))] w' (BH (m % n) w'):=by
   intro w' a1 c1 h;rcases Nat.eq_zero_or_pos k with rfl|hk0
   ·have:=wB a1 (m % n*2 ^ 0) c1 0 w' om h dc
    rwa [show m % n*2 ^ 0*2 ^ 0=m % n by simp] at this
   ·have:=HY a1 (m % n*2 ^ k) c1 k w' om h hk0 hk
    rwa [hkq] at this
  repeat' first|(refine gp ?_;and_intros<;>first|exact trivial|repeat first|intro(Bk:Nat)|intro h)|(apply G.cV (g:=154) (vs:=[.slice (some ⟨Qk,0,none⟩) ql ql]);rfl;rfl;exact fun w' hw=>iP (l:=Q) hw (by exact mm) d7 tQ om om)|(apply G.cV (g:=154) (vs:=[.slice (some ⟨rg,0,none⟩) L rc]);rfl;rfl;exact fun w' hw=>iP (l:=rho) hw (by exact mm) d3 tR om om)|(apply G.cN (g:=155) (fun a' c'=>.slice a' (dgs B32 (m % n)).length c') ((dgs B32 (m % n)).map lmV);rfl;rfl;exact fun w' hw=>hsh w' _ _ (tC hw (by exact mm) tR);intro a5 c5 hp5 hq5)
  (refine sK Tryz.func114 Tryz.results114 ?_;intro w' hw)
  exact ⟨_,_,a5,c5,rfl,tC hw (by exact mm) tQ,hw.sl (by exact mm),fun p hp=>by cases hp;exact ((hw.old (.blk Qk 206 (flat lmV Q) (ql*1)) (by exact mm)).2 Qk rfl).1,hq5,hw.below⟩
 obtain ⟨j,rfl⟩:∃ j,i=j+1:=⟨i-1,by omega⟩
 have hz:z=(j:Int):=by have:=hdi.a2;dsimp only at this;omega
 subst hz;have kn:=O5 hdi hvv hnV hvd om;have hj1:=hdi.a1;have hrl:=hdi.a3;have hQl:=hdi.a7;have htop0:=hdi.a6;dsimp only at hj1 hrl hQl htop0 ⊢;have hrd:=fun i=>bZ (b:=4294967296) dc (x:=rho) hdi.a4 i
 have hvdd:=fun i=>bZ (b:=4294967296) dc (x:=v) hvd i
 have g0:=CX (p:=rho) (j:=j+nV) om;have g1:=CX (p:=rho) (j:=j+nV-1) om;have g2:=CX (p:=rho) (j:=j+nV-2) om;have hguess:=kn.guess;have hqlt:=kn.qlt;have hsec:=fun l g=>kn.second (l:=l) (g:=g)
 have f0:=hrd (j+nV);have f1:=hrd (j+nV-1);have f2:=hrd (j+nV-2);have f3:=hvdd (nV-1);have f4:=hvdd (nV-2);have hvt0:v.getD (nV-1) 0≠0:=hvt;generalize hr0:rho.getD (j+nV) 0=r0 at *;generalize hr1:rho.getD (j+nV-1) 0=r1 at *;generalize hr2:rho.getD (j+nV-2) 0=r2 at *;generalize hvt1:v.getD (nV-1) 0=vt at *;generalize hvu1:v.getD (nV-2) 0=vu at *;generalize hq:vL B32 (rho.drop j) / V=q at *;have or1:=Lr f1 f0;obtain ⟨T,hT⟩:∃ T,T=r0*4294967296+r1:=⟨_,rfl⟩;rw [<- hT] at or1;have hTb:T < 18446744073709551616:=by omega
 have hdq:=O4 (b:=vt) hTb;have hguess2:q<=T / vt:=(Nat.le_div_iff_mul_le om).2 (by rw [hT];exact hguess)
 have hdm:T / vt*vt<=T:=Nat.div_mul_le_self _ _;generalize T / vt=q0 at *;have hmin:min (q0:Int) 4294967295=((min q0 4294967295:Nat):Int):=by omega
 have hg0q:q<=min q0 4294967295:=by
  have:q < 4294967296:=hqlt;omega
 have hg0m:min q0 4294967295*vt<=T:=Nat.le_trans (Nat.mul_le_mul_right _ (Nat.min_le_left _ _)) hdm;have hg0b:min q0 4294967295<=4294967295:=Nat.min_le_right _ _;generalize min q0 4294967295=gs at *;have hm1:=Jl (a:=gs) (b:=vt) om;have hs1:=F4 hg0m hTb;have hvt2:(vt:Int)≠0:=by omega
 repeat' (first|(apply G.ix (i:=j+nV);rfl;rfl;omega;omega;rfl)|(apply G.ix (i:=j+nV-1);rfl;rfl;omega;omega;rfl)|(apply G.ix (i:=nV-1);rfl;rfl;omega;omega;rfl)|(apply G.ld;rfl;(apply LdV.one;(first|exact aC.blk (by exact mm) g0|exact aC.blk (by exact mm) g1|exact CZ (by exact mm) om hvt1));rfl)|(apply G.PO (n:=32);rfl;rfl;rfl;exact Jm f0;rfl;rfl;rfl)|(apply G.Q1;rfl;rfl;exact or1;rfl;rfl;rfl)|(apply G.Qg;rfl;rfl;exact hvt2;exact hdq;rfl;rfl;rfl)|(apply G.R5;rfl;rfl;exact hmin;rfl)|(apply G.Qh;rfl;rfl;exact hm1;rfl;rfl;rfl)|(apply G.PW;rfl;rfl;exact hs1;rfl;rfl;rfl)|(apply G.pu;rfl;rfl;first|exact trivial|omega)|(apply J.ct;rfl)|(apply G.nil;rfl)|(apply G.cm;rfl;rfl;all_goals intro h;all_goals try (exfalso;omega))|(apply G.fa;rfl;rfl)|(apply G.ld;rfl;(first|(apply LdV.one;(first|exact aC.P0 (by assumption) rfl|exact aC.rowS (by assumption) rfl|exact aC.Px (by assumption) rfl|(apply aC.blk;exact mm;rfl)))|(apply LdV.Pw;exact mm;rfl)|(apply LdV.part;exact mm;rfl;rfl)|(apply LdV.Pv;assumption;rfl)|(apply LdV.Ps;assumption;rfl;rfl));rfl)|(apply G.sk;rfl)|(apply G.ls;rfl;rfl)|(apply G.ix;rfl;rfl;rfl;omega;rfl)|(apply G.ix;rfl;rfl;(first|exact bU _|exact bJ _);omega;rfl)|(apply G.lt;rfl;rfl)|(apply G.bu;rfl;rfl;rfl)|(apply G.fd;rfl;rfl;rfl)|(apply G.cv;rfl;rfl;rfl;omega)|(apply G.beq;rfl;rfl;rfl)|(apply G.P9;rfl;rfl;rfl)|(apply G.mm;rfl;rfl)|(apply G.mf;rfl;rfl)|(apply G.mx;rfl;rfl;rfl)|(apply G.mn;rfl;rfl;rfl)|(apply G.bx;rfl;rfl;rfl;intro Bk)|(apply G.al;rfl;intro Bk)|(apply G.so;rfl;rfl;(repeat (first|exact RAt.head|apply RAt.tail));rfl;rfl)|(apply G.ss;rfl;rfl;(repeat (first|exact RAt.head|apply RAt.tail));rfl;rfl)|(apply J.Pz;exact Tryz.Pr;decide +kernel)|(apply J.P4;exact Tryz.Pr;decide +kernel)|apply J.PA)
 refine J.loop (c:=_) ((gs,T-gs*vt):Nat×Nat) (fun s=>s.1) (fun s=>[(8,.int .i64 k),(9,.slice (some ⟨b3,o3,none⟩) nV c3),(10,.slice (some ⟨rg,0,none⟩) L rc),(11,.int .i64 nV),(12,.slice (some ⟨Qk,0,none⟩) ql ql),(13,.int .i64 j),(15,.int .u64 s.1),(16,.int .u64 s.2)]) (fun s=>[.blk Qk 206 (flat lmV Q) (ql*1),.blk rg 206 (flat lmV rho) (rc*1),aL w.heap.size (some ⟨b3,o3,none⟩) 1 (v.map lmV)]) (fun s=>q<=s.1/\s.1<=4294967295/\s.2+s.1*vt=T) ?_ sbT sbL ?_
 ·exact ⟨hg0q,hg0b,by dsimp only;omega⟩
 clear hm1 hs1 hg0q hg0m hg0b hdm hguess2 hdq or1;intro ⟨g,l⟩ ⟨k1,k2,k3⟩ ih2;dsimp only at k1 k2 k3 ⊢;have hgu:g*vu < 18446744073709551616:=by
  have:g*vu<=4294967295*4294967295:=Nat.mul_le_mul k2 om;omega
 have hm2:=Jl hgu;have hsec2:l*4294967296+r2 < g*vu->q < g:=fun h=>hsec l g (by rw [hT] at k3;exact k3) h
 generalize g*vu=gu at *;by_cases hgo:l < 4294967296/\l*4294967296+r2 < gu
 ·obtain ⟨hl32,hgt⟩:=hgo
  have hqg:=hsec2 hgt;have hs2:=F4 (a:=g) (b:=1) om om;have or2:=Lr f2 hl32;repeat' (first|(apply G.ix (i:=j+nV-2);rfl;rfl;omega;omega;rfl)|(apply G.ix (i:=nV-1);rfl;rfl;omega;omega;rfl)|(apply G.ix (i:=nV-2);rfl;rfl;omega;omega;rfl)|(apply G.ld;rfl;(apply LdV.one;(first|exact aC.blk (by exact mm) g2|exact CZ (by exact mm) om hvt1|exact CZ (by exact mm) om hvu1));rfl)|(apply G.PO (n:=32);rfl;rfl;rfl;exact Jm hl32;rfl;rfl;rfl)|(apply G.Q1;rfl;rfl;exact or2;rfl;rfl;rfl)|(apply G.Qh;rfl;rfl;exact hm2;rfl;rfl;rfl)|(apply G.PW;rfl;rfl;exact hs2;rfl;rfl;rfl)|(apply G.pu;rfl;rfl;first|exact trivial|omega)|(apply J.ct;rfl)|(apply G.nil;rfl)|(apply G.cm;rfl;rfl;all_goals intro h;all_goals try (exfalso;omega))|(apply G.fa;rfl;rfl)|(apply G.ld;rfl;(first|(apply LdV.one;(first|exact aC.P0 (by assumption) rfl|exact aC.rowS (by assumption) rfl|exact aC.Px (by assumption) rfl|(apply aC.blk;exact mm;rfl)))|(apply LdV.Pw;exact mm;rfl)|(apply LdV.part;exact mm;rfl;rfl)|(apply LdV.Pv;assumption;rfl)|(apply LdV.Ps;assumption;rfl;rfl));rfl)|(apply G.sk;rfl)|(apply G.ls;rfl;rfl)|(apply G.ix;rfl;rfl;rfl;omega;rfl)|(apply G.ix;rfl;rfl;(first|exact bU _|exact bJ _);omega;rfl)|(apply G.lt;rfl;rfl)|(apply G.bu;rfl;rfl;rfl)|(apply G.fd;rfl;rfl;rfl)|(apply G.cv;rfl;rfl;rfl;omega)|(apply G.beq;rfl;rfl;rfl)|(apply G.P9;rfl;rfl;rfl)|(apply G.mm;rfl;rfl)|(apply G.mf;rfl;rfl)|(apply G.mx;rfl;rfl;rfl)|(apply G.mn;rfl;rfl;rfl)|(apply G.bx;rfl;rfl;rfl;intro Bk)|(apply G.al;rfl;intro Bk)|(apply G.so;rfl;rfl;(repeat (first|exact RAt.head|apply RAt.tail));rfl;rfl)|(apply G.ss;rfl;rfl;(repeat (first|exact RAt.head|apply RAt.tail));rfl;rfl)|(apply J.Pz;exact Tryz.Pr;decide +kernel)|(apply J.P4;exact Tryz.Pr;decide +kernel)|apply J.PA)
  exact J.forget (by (repeat' (first|exact List.Sublist.refl _|apply List.Sublist.cons_cons|apply List.Sublist.cons))) (J.sub (by (repeat' (first|exact trivial|refine ⟨rfl,?_⟩))) (ih2 (g-1,l+vt) ⟨by dsimp only;omega,by dsimp only;omega,by
   dsimp only;obtain ⟨g',rfl⟩:∃ g',g=g'+1:=⟨g-1,by omega⟩
   rw [Nat.add_mul,Nat.one_mul] at k3;rw [Nat.add_sub_cancel];omega⟩ (by dsimp only;omega)))
 clear ih2;have hnext:g=0->DI V M' nV L ql (j,(j:Int)-1,rho,Q):=fun e=>Ly hdi kn (by rw [hq];omega)
 apply J.ct
 ·rfl
 apply J.Pz Tryz.Pr (by decide +kernel)
 refine G.cut (X:=Unit) (fun _=>[(136,.bool false),(8,.int .i64 k),(9,.slice (some ⟨b3,o3,none⟩) nV c3),(10,.slice (some ⟨rg,0,none⟩) L rc),(11,.int .i64 nV),(12,.slice (some ⟨Qk,0,none⟩) ql ql),(13,.int .i64 j),(15,.int .u64 g)]) (fun _=>[.blk Qk 206 (flat lmV Q) (ql*1),.blk rg 206 (flat lmV rho) (rc*1),aL w.heap.size (some ⟨b3,o3,none⟩) 1 (v.map lmV)]) (fun _=>?_) (fun hk2=>?_)
 rotate_left
 ·skip
  repeat' (first|exact J.Rd hk2 () (by (repeat' (first|exact trivial|refine ⟨rfl,?_⟩))) (List.Sublist.refl _) (List.Perm.refl _)|(apply G.ix (i:=j+nV-2);rfl;rfl;omega;omega;rfl)|(apply G.ix (i:=nV-2);rfl;rfl;omega;omega;rfl)|(apply G.ld;rfl;(apply LdV.one;(first|exact aC.blk (by exact mm) g2|exact CZ (by exact mm) om hvu1));rfl)|(apply G.PO (n:=32);rfl;rfl;rfl;exact Jm om;rfl;rfl;rfl)|(apply G.Q1;rfl;rfl;exact Lr f2 om;rfl;rfl;rfl)|(apply G.Qh;rfl;rfl;exact hm2;rfl;rfl;rfl)|(apply G.pu;rfl;rfl;first|exact trivial|omega)|(apply J.ct;rfl)|(apply G.nil;rfl)|(apply G.cm;rfl;rfl;all_goals intro h;all_goals try (exfalso;omega))|(apply G.fa;rfl;rfl)|(apply G.ld;rfl;(first|(apply LdV.one;(first|exact aC.P0 (by assumption) rfl|exact aC.rowS (by assumption) rfl|exact aC.Px (by assumption) rfl|(apply aC.blk;exact mm;rfl)))|(apply LdV.Pw;exact mm;rfl)|(apply LdV.part;exact mm;rfl;rfl)|(apply LdV.Pv;assumption;rfl)|(apply LdV.Ps;assumption;rfl;rfl));rfl)|(apply G.sk;rfl)|(apply G.ls;rfl;rfl)|(apply G.ix;rfl;rfl;rfl;omega;rfl)|(apply G.ix;rfl;rfl;(first|exact bU _|exact bJ _);omega;rfl)|(apply G.lt;rfl;rfl)|(apply G.bu;rfl;rfl;rfl)|(apply G.fd;rfl;rfl;rfl)|(apply G.cv;rfl;rfl;rfl;omega)|(apply G.beq;rfl;rfl;rfl)|(apply G.P9;rfl;rfl;rfl)|(apply G.mm;rfl;rfl)|(apply G.mf;rfl;rfl)|(apply G.mx;rfl;rfl;rfl)|(apply G.mn;rfl;rfl;rfl)|(apply G.bx;rfl;rfl;rfl;intro Bk)|(apply G.al;rfl;intro Bk)|(apply G.so;rfl;rfl;(repeat (first|exact RAt.head|apply RAt.tail));rfl;rfl)|(apply G.ss;rfl;rfl;(repeat (first|exact RAt.head|apply RAt.tail));rfl;rfl)|(apply J.Pz;exact Tryz.Pr;decide +kernel)|(apply J.P4;exact Tryz.Pr;decide +kernel)|apply J.PA)
 by_cases hg00:g=0
 ·subst hg00
  all_goals (refine go ?_;and_intros<;>first|exact trivial|repeat first|intro(Bk:Nat)|intro h)
  exact J.fin (ih (j,(j:Int)-1,rho,Q) (hnext rfl) (by dsimp only;omega))
 have hjq:j < ql:=by
  rcases Nat.lt_or_ge j ql with h|h
  ·exact h
  ·exfalso
   obtain ⟨z1,z2⟩:=htop0 om;rw [show L-1=j+nV by omega,hr0] at z1
   rw [show L-2=j+nV-1 by omega,hr1] at z2
   have:T=0:=by omega
   have h3:1*vt<=g*vt:=Nat.mul_le_mul_right _ om;omega
 have hPl:((rho.drop j).take (nV+1)).length=nV+1:=by rw [List.length_take,List.length_drop];omega
 have hPv:=kn.part;have hPd:∀ d∈(rho.drop j).take (nV+1),d < B32:=fun d hd=>hdi.a4 d (List.mem_of_mem_drop (List.mem_of_mem_take hd))
 have hPs:∀ {M:List Row}{w':World},Sat w M w'->Row.blk rg 206 (flat lmV rho) (rc*1)∈M->aE w' (some ⟨rg,j,none⟩) 1 (((rho.drop j).take (nV+1)).map lmV):=fun hw hm=>aE.part eY hw hm om
 have hRlt:=kn.lt;generalize hP:(rho.drop j).take (nV+1)=P at *;obtain ⟨R,hR⟩:∃ R,R=vL B32 (rho.drop j):=⟨_,rfl⟩;rw [<- hR] at hPv hRlt hq;have hPt:dI P=dgs B32 R:=by rw [iX dc P hPd,hPv]
 have hcl:∀ w':World,aE w' (some ⟨rg,j,none⟩) 1 (P.map lmV)->Calls Tryz.prog 156 #[.slice (some ⟨rg,j,none⟩) (nV+1) (rc-j)] w' (Ft Tryz.prog w' 206 1 (nV+1) (flat lmV P) id):=by
  intro w' h;have:=xN ⟨rg,j,none⟩ P (rc-j) w' om h
  rwa [hPl] at this
 have hgl:∀ g',g'<=g->(dgs B32 (V*g')).length<=nV+1:=fun g' h=>gF dc _ _ (by rw [Nat.pow_succ];exact Nat.mul_lt_mul'' hVB (by show g' < 4294967296;omega))
 have hRl:(dgs B32 R).length<=nV+1:=gF dc _ _ (by rw [Nat.pow_succ,Nat.mul_comm (B32 ^ nV)];exact Nat.lt_of_lt_of_le hRlt (Nat.mul_le_mul_left _ (Nat.le_of_lt hVB)))
 repeat' first|(refine gp ?_;and_intros<;>first|exact trivial|repeat first|intro(Bk:Nat)|intro h)|(apply G.Q8 (l:=j) (h:=j+nV+1) (off:=j) (len:=nV+1);rfl;rfl;rfl;rfl;omega;omega;omega;omega;omega;omega;rfl)|(apply G.Pu;rfl;rfl;rfl;rfl;rfl;rfl;rfl;rfl;intro Bs)|(apply G.cN (g:=157) (fun a' c'=>.slice a' (dgs B32 (V*g)).length c') ((dgs B32 (V*g)).map lmV);rfl;rfl;exact fun w' hw=>tmV w' (some ⟨b3,o3,none⟩) c3 _ g (hw.sl (by exact mm)) (aE.P5 (l:=[g]) eY hw (by exact mm)) om (by show g < 4294967296;omega);intro a5 c5 hp5 hq5)
 refine J.loop (c:=_) ((g,a5,c5):Nat×Option Addr×Nat) (fun s=>s.1) (fun s=>[(8,.int .i64 k),(9,.slice (some ⟨b3,o3,none⟩) nV c3),(10,.slice (some ⟨rg,0,none⟩) L rc),(11,.int .i64 nV),(12,.slice (some ⟨Qk,0,none⟩) ql ql),(13,.int .i64 j),(15,.int .u64 s.1),(17,.slice (some ⟨rg,j,none⟩) (nV+1) (rc-j)),(18,.slice s.2.1 (dgs B32 (V*s.1)).length s.2.2)]) (fun s=>[aL w.heap.size s.2.1 1 ((dgs B32 (V*s.1)).map lmV),.blk Qk 206 (flat lmV Q) (ql*1),.blk rg 206 (flat lmV rho) (rc*1),aL w.heap.size (some ⟨b3,o3,none⟩) 1 (v.map lmV)]) (fun s=>q<=s.1/\s.1<=g) ?_ sbT sbL ?_
 ·exact ⟨k1,Nat.le_refl _⟩
 intro ⟨gg,a6,c6⟩ ⟨p1,p2⟩ ih3;dsimp only at p1 p2 ⊢;have hggl:=hgl gg p2;clear hgl;have hVp:=kn.vpos;rcases Nat.lt_or_ge R (V*gg) with hlt|hge2
 ·have hqg:q < gg:=by rw [<- hq];exact (Nat.div_lt_iff_lt_mul hVp).2 (by rw [Nat.mul_comm];exact hlt)
  have hs3:=F4 (a:=gg) (b:=1) om om;have hcv:hZ R ((V*gg:Nat):Int)=-1:=jT om;have hcmp:=fun (w':World) (a7:Option Addr) (c7:Nat) (h1:aE w' a7 1 ((dgs B32 R).map lmV)) (h2:aE w' a6 1 ((dgs B32 (V*gg)).map lmV))=>eW a7 R c7 a6 (V*gg) c6 w' om om h1 h2
  rw [hcv] at hcmp;repeat' (first|(apply G.Ru (g:=156);rfl;rfl;exact fun w' hw=>hcl w' (hPs hw (by exact mm));omega;intro cb cc3 hcc3)|(apply G.cV (g:=154);rfl;rfl;exact fun w' hw=>iP (l:=P) hw (by exact mm) hPl hPt om om)|(apply G.cV (g:=152);rfl;rfl;exact fun w' hw=>hcmp w' _ _ (tC hw (by exact mm) hPt) (hw.sl (by exact mm)))|(apply G.PW;rfl;rfl;exact hs3;rfl;rfl;rfl)|(apply G.cN (g:=158) (fun a' c'=>.slice a' (dgs B32 (V*(gg-1))).length c') ((dgs B32 (V*(gg-1))).map lmV);rfl;rfl;exact fun w' hw=>mnV w' a6 c6 (some ⟨b3,o3,none⟩) c3 gg (hw.sl (by exact mm)) (hw.sl (by exact mm)) om om;intro a8 c8 hp8 hq8)|(apply G.pu;rfl;rfl;first|exact trivial|omega)|(apply J.ct;rfl)|(apply G.nil;rfl)|(apply G.cm;rfl;rfl;all_goals intro h;all_goals try (exfalso;omega))|(apply G.fa;rfl;rfl)|(apply G.ld;rfl;(first|(apply LdV.one;(first|exact aC.P0 (by assumption) rfl|exact aC.rowS (by assumption) rfl|exact aC.Px (by assumption) rfl|(apply aC.blk;exact mm;rfl)))|(apply LdV.Pw;exact mm;rfl)|(apply LdV.part;exact mm;rfl;rfl)|(apply LdV.Pv;assumption;rfl)|(apply LdV.Ps;assumption;rfl;rfl));rfl)|(apply G.sk;rfl)|(apply G.ls;rfl;rfl)|(apply G.ix;rfl;rfl;rfl;omega;rfl)|(apply G.ix;rfl;rfl;(first|exact bU _|exact bJ _);omega;rfl)|(apply G.lt;rfl;rfl)|(apply G.bu;rfl;rfl;rfl)|(apply G.fd;rfl;rfl;rfl)|(apply G.cv;rfl;rfl;rfl;omega)|(apply G.beq;rfl;rfl;rfl)|(apply G.P9;rfl;rfl;rfl)|(apply G.mm;rfl;rfl)|(apply G.mf;rfl;rfl)|(apply G.mx;rfl;rfl;rfl)|(apply G.mn;rfl;rfl;rfl)|(apply G.bx;rfl;rfl;rfl;intro Bk)|(apply G.al;rfl;intro Bk)|(apply G.so;rfl;rfl;(repeat (first|exact RAt.head|apply RAt.tail));rfl;rfl)|(apply G.ss;rfl;rfl;(repeat (first|exact RAt.head|apply RAt.tail));rfl;rfl)|(apply J.Pz;exact Tryz.Pr;decide +kernel)|(apply J.P4;exact Tryz.Pr;decide +kernel)|apply J.PA)
  exact J.fin (ih3 (gg-1,a8,c8) ⟨by dsimp only;omega,by dsimp only;omega⟩ (by dsimp only;omega))
 clear ih3;have hgq:gg=q:=by
  have:gg<=R / V:=(Nat.le_div_iff_mul_le hVp).2 (by rw [Nat.mul_comm];exact hge2)
  omega
 have hcv:0<=hZ R ((V*gg:Nat):Int):=by
  rcases Nat.lt_or_ge (V*gg) R with h|h
  ·rw [gJ om];decide
  ·rw [show R=V*gg by omega,iE];decide
 have hcmp:=fun (w':World) (a7:Option Addr) (c7:Nat) (h1:aE w' a7 1 ((dgs B32 R).map lmV)) (h2:aE w' a6 1 ((dgs B32 (V*gg)).map lmV))=>eW a7 R c7 a6 (V*gg) c6 w' om om h1 h2
 generalize hZ R ((V*gg:Nat):Int)=cc2 at *;have hmin2:∀ (w':World) (a7:Option Addr) (c7:Nat),aE w' a7 1 ((dgs B32 R).map lmV)->aE w' a6 1 ((dgs B32 (V*gg)).map lmV)->Calls Tryz.prog 158 #[.slice a7 (dgs B32 R).length c7,.slice a6 (dgs B32 (V*gg)).length c6] w' (fun e w2=>∃ a' c',e=.returned (.slice a' (dgs B32 (R-V*gg)).length c')/\aE w2 a' 1 ((dgs B32 (R-V*gg)).map lmV)/\(∀ p,a'=some p->w'.heap.size<=p.block)/\Below w'.heap.size w' w2):=fun w' a7 c7 h1 h2=>pQ a7 R c7 a6 (V*gg) c6 w' om om h1 h2 hge2
 have hdl:(dgs B32 (R-V*gg)).length<=nV+1:=Nat.le_trans (dA dc (Nat.sub_le _ _)) hRl;have hdd:=eG (b:=B32) dc (R-V*gg);have hdv:=eF (b:=B32) dc (R-V*gg);generalize hdL:dgs B32 (R-V*gg)=dl at *;have l9:(flat lmV rho).length=rho.length:=by rw [aO eY,Nat.mul_one]
 have l10:(dU (flat lmV rho) j (List.replicate (nV+1) (.int .u32 0))).length=rho.length:=by rw [pH,l9]
 have l11:(flat lmV Q).length=Q.length:=by rw [aO eY,Nat.mul_one]
 have hput:=Nu (rho:=rho) (i:=j) (n:=nV) (d:=dl) hdl om;have q2:=F3 (p:=Q) (j:=j) (d:=gg) om;have hnx:=Lz (d:=dl) (g:=gg) hdi kn (by rw [<- hR,hq];exact hgq) hjq hdd hdl (by rw [hdv,<- hR,Nat.mul_comm])
 repeat' first|(refine gp ?_;and_intros<;>first|exact trivial|repeat first|intro(Bk:Nat)|intro h)|(apply G.Ru (g:=156);rfl;rfl;exact fun w' hw=>hcl w' (hPs hw (by exact mm));omega;intro cb cc3 hcc3)|(apply G.cV (g:=154);rfl;rfl;exact fun w' hw=>iP (l:=P) hw (by exact mm) hPl hPt om om)|(apply G.cV (g:=152);rfl;rfl;exact fun w' hw=>hcmp w' _ _ (tC hw (by exact mm) hPt) (hw.sl (by exact mm)))|(apply G.cN (g:=158) (fun a' c'=>.slice a' dl.length c') (dl.map lmV);rfl;rfl;exact fun w' hw=>hmin2 w' _ _ (tC hw (by exact mm) hPt) (hw.sl (by exact mm));intro a8 c8 hp8 hq8)|(apply G.RA;rfl;rfl;(repeat (first|exact RAt.head|apply RAt.tail));exact ⟨rfl,rfl⟩;exact fun w=>Tryz.zeroValue206 w;omega)|(apply G.R9;rfl;rfl;rfl;(repeat (first|exact RAt.head|apply RAt.tail));exact cB.sl eY GQ hp8 (by exact mm);omega;omega;rw [hput])|(apply G.s1;rfl;rfl;rfl;(repeat (first|exact RAt.head|apply RAt.tail));exact ⟨rfl,rfl⟩;omega;exact q2)
 exact J.fin (ih (j,(j:Int)-1,gI rho j nV dl,Q.set j gg) hnx (by dsimp only;omega))
theorem yN {a b:List UInt8} (h:a=b):Ending.returned (.string (bs a))=.returned (.string (bs b)):=by rw [h]
theorem zS (l:List UInt8) (w:World) (hl:l.length<=9223372036854775807) :
  CR 177 #[.string (bs l),.int .u8 0] w (.string (bs (nB (vB l)))):=by
 rw [<- mX];refine aB [(0,.string (bs l)),(1,.int .u8 0)] Tryz.func177 Tryz.ntmps177 ?_;all_goals (refine go ?_;and_intros<;>first|exact trivial|repeat first|intro(Bk:Nat)|intro h)
 refine J.loop (c:=_) l (fun s=>s.length) (fun s=>[(0,.string (bs s)),(1,.int .u8 0)]) (fun s=>[]) (fun s=>s.length<=l.length/\s.dropWhile (· == 0)=l.dropWhile (· == 0)) ?_ sbT sbL ?_
 ·exact ⟨Nat.le_refl _,rfl⟩
 intro s ⟨hs,hd⟩ ih;cases s with
 | nil =>
  have h0:([]:List UInt8).length=0:=rfl;rw [<- hd];all_goals (refine go ?_;and_intros<;>first|exact trivial|repeat first|intro(Bk:Nat)|intro h)
  all_goals exact aA Tryz.func177 Tryz.results177 rfl
 | cons x r =>
  have h0:(x::r).length=r.length+1:=rfl;have hx0:(x::r)[0]=x:=rfl;by_cases hx:x=0
  ·subst hx
   have hz:(((0:UInt8)).toNat:Int)=0:=rfl;repeat' first|(refine gp ?_;and_intros<;>first|exact trivial|repeat first|intro(Bk:Nat)|intro h)|(apply G.sx (i:=0);rfl;rfl;rfl;rfl;rfl)|(apply G.PI (i:=1);rfl;rfl;rfl;omega;rfl;rfl;rfl)
   exact J.fin (ih r ⟨by omega,by rw [<- hd];simp⟩ om)
  ·have hz:((x.toNat:Nat):Int)≠0:=by
    intro e;exact hx (UInt8.toNat_inj.1 (by simpa using e))
   have hdx:(x::r).dropWhile (· == 0)=x::r:=by simp [hx]
   rw [hdx] at hd;rw [<- hd];repeat' first|(refine gp ?_;and_intros<;>first|exact trivial|repeat first|intro(Bk:Nat)|intro h)|(apply G.sx (i:=0);rfl;rfl;rfl;rfl;rfl)
   all_goals exact aA Tryz.func177 Tryz.results177 rfl
theorem zT (l:List UInt8) (w:World) (hl:l.length<=9223372036854775807) :
  CR 172 #[.string (bs l),.string (bs [0])] w (.string (bs (nB (vB l)))):=by
 refine aB [(0,.string (bs l)),(1,.string (bs [0]))] Tryz.func172 Tryz.ntmps172 ?_;have h1:([0]:List UInt8).length=1:=rfl;have h2:((0:UInt8).toNat:Int)=0:=rfl;cases l with
 | nil =>
  repeat' first|(refine gp ?_;and_intros<;>first|exact trivial|repeat first|intro(Bk:Nat)|intro h)|(apply G.eqlStr;rfl;rfl;rfl;rfl;rfl;all_goals intro h;all_goals try (exact absurd rfl h))
  all_goals refine aA Tryz.func172 Tryz.results172 ?_
  all_goals exact yN (by simp [vB,fJ])
 | cons x r =>
  have h0:(x::r).length=r.length+1:=rfl;repeat' first|(refine gp ?_;and_intros<;>first|exact trivial|repeat first|intro(Bk:Nat)|intro h)|(apply G.eqlStr;rfl;rfl;rfl;rfl;rfl;all_goals intro h;all_goals try (cases h;done))|(apply G.sx (i:=0);rfl;rfl;rfl;rfl;rfl)|(apply G.cV (g:=177);rfl;rfl;exact fun w _=>zS (x::r) w hl)
  all_goals exact aA Tryz.func172 Tryz.results172 rfl
theorem xO (l:List UInt8) (w:World) (hl:l.length<=9223372036854775807) :
  CR 160 #[.string (bs l)] w (.string (bs (nB (vB l)))):=by
 refine aB [(0,.string (bs l))] Tryz.func160 Tryz.ntmps160 ?_;repeat' first|(refine gp ?_;and_intros<;>first|exact trivial|repeat first|intro(Bk:Nat)|intro h)|(apply G.cV (g:=172) (vs:=[.string (bs l),.string (bs [0])]);rfl;rfl;exact fun w _=>zT l w hl)
 all_goals exact aA Tryz.func160 Tryz.results160 rfl
theorem or8 {a b:Nat} (hb:b < 256) (ha:a < 16777216):IntKind.u32.wrap ((BitVec.ofInt 32 ((a*256:Nat):Int) ||| BitVec.ofInt 32 (b:Int)).toNat:Int)=((a*256+b:Nat):Int):=by
 have h1:(BitVec.ofInt 32 ((a*256:Nat):Int) ||| BitVec.ofInt 32 (b:Int)).toNat=a*256+b:=by
  rw [BitVec.toNat_or,BitVec.ofInt_natCast,BitVec.ofInt_natCast,BitVec.toNat_ofNat,BitVec.toNat_ofNat,Nat.mod_eq_of_lt om,Nat.mod_eq_of_lt om];have:=Nat.two_pow_add_eq_or_of_lt (i:=8) (b:=b) (by simpa using hb) a
  rw [Nat.mul_comm a];simpa using this.symm
 rw [h1,lI];omega
theorem uH {p:List UInt8}{i:Nat} (h:i < p.length):vB (p.take (i+1))=vB (p.take i)*256+(p[i]).toNat:=by
 rw [List.take_add_one,gE h,lC];simp [vB]
theorem dC (l:List UInt8) (w:World) (hl:l.length<=1073741824):Calls Tryz.prog 115 #[.string (bs l)] w (BH (vB l) w):=by
 refine aB [(0,.string (bs l))] Tryz.func115 Tryz.ntmps115 ?_;all_goals (refine go ?_;and_intros<;>first|exact trivial|repeat first|intro(Bk:Nat)|intro h)
 apply J.nilOwn (E:=206) (size:=1);refine J.loop (c:=_) ((0,(l.length:Int),.slice none 0 0,[]):Nat×Int×Value×List Nat) (fun s=>l.length+4-4*s.1) (fun s=>[(0,.string (bs l)),(3,s.2.2.1),(4,.int .i64 s.2.1)]) (fun s=>[.own 0 s.2.2.1 206 1 s.1 (flat lmV s.2.2.2)]) (fun s=>s.2.2.2.length=s.1/\(∀ d∈s.2.2.2,d < B32)/\s.2.1=(l.length:Int)-4*s.1/\vL B32 s.2.2.2+B32 ^ s.1*vB (l.take (l.length-4*s.1))=vB l/\4*s.1<=l.length+3) ?_ sbT sbL ?_
 ·exact ⟨rfl,by simp,by simp,by simp [vL],by simp⟩
 intro ⟨k,z,u,o⟩ ⟨h1,h2,h3,h4,h5⟩ ih;dsimp only at h1 h2 h3 h4 h5 ⊢;by_cases hk:4*k < l.length
 ·obtain ⟨s1,s2⟩:=HV Fy l h1 hk h4
  have hmax:max (0:Int) (z-4)=((l.length-4*k-4:Nat):Int):=by omega
  repeat' (first|(apply G.Rl;rfl;rfl;exact hmax;rfl)|(apply G.Qq (i:=l.length-4*k-4) (j:=l.length-4*k);rfl;rfl;rfl;rfl;omega;omega;omega;rfl;rfl;rfl)|(apply G.Qz (E:=5);rfl;rfl;rfl;rfl;intro Bb cb)|(apply G.pu;rfl;rfl;first|exact trivial|omega)|(apply J.ct;rfl)|(apply G.nil;rfl)|(apply G.cm;rfl;rfl;all_goals intro h;all_goals try (exfalso;omega))|(apply G.fa;rfl;rfl)|(apply G.ld;rfl;(first|(apply LdV.one;(first|exact aC.P0 (by assumption) rfl|exact aC.rowS (by assumption) rfl|exact aC.Px (by assumption) rfl|(apply aC.blk;exact mm;rfl)))|(apply LdV.Pw;exact mm;rfl)|(apply LdV.part;exact mm;rfl;rfl)|(apply LdV.Pv;assumption;rfl)|(apply LdV.Ps;assumption;rfl;rfl));rfl)|(apply G.sk;rfl)|(apply G.ls;rfl;rfl)|(apply G.ix;rfl;rfl;rfl;omega;rfl)|(apply G.ix;rfl;rfl;(first|exact bU _|exact bJ _);omega;rfl)|(apply G.lt;rfl;rfl)|(apply G.bu;rfl;rfl;rfl)|(apply G.fd;rfl;rfl;rfl)|(apply G.cv;rfl;rfl;rfl;omega)|(apply G.beq;rfl;rfl;rfl)|(apply G.P9;rfl;rfl;rfl)|(apply G.mm;rfl;rfl)|(apply G.mf;rfl;rfl)|(apply G.mx;rfl;rfl;rfl)|(apply G.mn;rfl;rfl;rfl)|(apply G.bx;rfl;rfl;rfl;intro Bk)|(apply G.al;rfl;intro Bk)|(apply G.so;rfl;rfl;(repeat (first|exact RAt.head|apply RAt.tail));rfl;rfl)|(apply G.ss;rfl;rfl;(repeat (first|exact RAt.head|apply RAt.tail));rfl;rfl)|(apply J.Pz;exact Tryz.Pr;decide +kernel)|(apply J.P4;exact Tryz.Pr;decide +kernel)|apply J.PA)
  have hpl:((l.drop (l.length-4*k-4)).take (l.length-4*k-(l.length-4*k-4))).length<=4:=by rw [List.length_take];omega
  generalize (l.drop (l.length-4*k-4)).take (l.length-4*k-(l.length-4*k-4))=p at *;refine J.loop (c:=_) (0:Nat) (fun s=>p.length-s) (fun s=>[(0,.string (bs l)),(3,u),(4,.int .i64 z),(5,.int .u32 (vB (p.take s):Nat)),(20,.slice (some ⟨Bb,0,none⟩) p.length cb),(21,.int .i64 p.length),(22,.int .i64 s)]) (fun s=>[aL w.heap.size (some ⟨Bb,0,none⟩) 1 (p.map u8V),.own 0 u 206 1 k (flat lmV o)]) (fun s=>s<=p.length) ?_ sbT sbL ?_
  ·exact Nat.zero_le _
  intro i hi ih2;by_cases hip:i < p.length
  ·have hts:=uH hip
   have hlt:vB (p.take i) < 16777216:=by
    have:=uD (p.take i);rw [List.length_take,Nat.min_eq_left om] at this;have h6:256 ^ i<=256 ^ 3:=Nat.pow_le_pow_right dc om;omega
   have hb8:(p[i]).toNat < 256:=(p[i]).toNat_lt;have hcell:(u8V p[i])[0]?=some (.int .u8 ((p[i]).toNat:Int)):=rfl;generalize hdg:vB (p.take i)=dg at *;generalize hbt:(p[i]).toNat=bt at *;have hsh:IntKind.u32.wrap ((dg:Int)*2 ^ (min 8 IntKind.u32.bits))=((dg*256:Nat):Int):=by
    have e0:(2:Int) ^ (min 8 IntKind.u32.bits)=256:=rfl;rw [e0,lI];omega
   have hor:=or8 hb8 hlt;rw [<- hts] at hor;repeat' (first|(apply G.ld;rfl;(apply LdV.one;exact aC.QJ (by exact mm) hip hcell);rfl)|(apply G.PO (n:=8);rfl;rfl;rfl;exact hsh;rfl;rfl;rfl)|(apply G.Q1;rfl;rfl;exact hor;rfl;rfl;rfl)|(apply G.pu;rfl;rfl;first|exact trivial|omega)|(apply J.ct;rfl)|(apply G.nil;rfl)|(apply G.cm;rfl;rfl;all_goals intro h;all_goals try (exfalso;omega))|(apply G.fa;rfl;rfl)|(apply G.ld;rfl;(first|(apply LdV.one;(first|exact aC.P0 (by assumption) rfl|exact aC.rowS (by assumption) rfl|exact aC.Px (by assumption) rfl|(apply aC.blk;exact mm;rfl)))|(apply LdV.Pw;exact mm;rfl)|(apply LdV.part;exact mm;rfl;rfl)|(apply LdV.Pv;assumption;rfl)|(apply LdV.Ps;assumption;rfl;rfl));rfl)|(apply G.sk;rfl)|(apply G.ls;rfl;rfl)|(apply G.ix;rfl;rfl;rfl;omega;rfl)|(apply G.ix;rfl;rfl;(first|exact bU _|exact bJ _);omega;rfl)|(apply G.lt;rfl;rfl)|(apply G.bu;rfl;rfl;rfl)|(apply G.fd;rfl;rfl;rfl)|(apply G.cv;rfl;rfl;rfl;omega)|(apply G.beq;rfl;rfl;rfl)|(apply G.P9;rfl;rfl;rfl)|(apply G.mm;rfl;rfl)|(apply G.mf;rfl;rfl)|(apply G.mx;rfl;rfl;rfl)|(apply G.mn;rfl;rfl;rfl)|(apply G.bx;rfl;rfl;rfl;intro Bk)|(apply G.al;rfl;intro Bk)|(apply G.so;rfl;rfl;(repeat (first|exact RAt.head|apply RAt.tail));rfl;rfl)|(apply G.ss;rfl;rfl;(repeat (first|exact RAt.head|apply RAt.tail));rfl;rfl)|(apply J.Pz;exact Tryz.Pr;decide +kernel)|(apply J.P4;exact Tryz.Pr;decide +kernel)|apply J.PA)
   exact J.fin (ih2 (i+1) om om)
  ·have hpe:vB (p.take i)=vB p:=by rw [List.take_of_length_le om]
   rw [hpe];repeat' first|(refine gp ?_;and_intros<;>first|exact trivial|repeat first|intro(Bk:Nat)|intro h)|(apply G.Pu;rfl;rfl;rfl;rfl;rfl;rfl;rfl;rfl;intro Bs)|(apply G.ap;rfl;rfl;rfl;(repeat (first|exact RAt.head|apply RAt.tail));exact cB.blk (by exact mm) rfl rfl;exact jV lmV o (vB p);omega;omega;intro v2)
   exact J.fin (ih (k+1,z-4,v2,o++[vB p]) ⟨by simp [h1],uC h2 s2,by dsimp only;omega,s1,by dsimp only;omega⟩ (by dsimp only;omega))
 ·have he:=Jj (B:=B32) l om h4
  subst h1;apply J.ownForm (i:=0) rfl;intro a2 c2 hu;subst hu;repeat' first|(refine gp ?_;and_intros<;>first|exact trivial|repeat first|intro(Bk:Nat)|intro h)|(apply G.cV (g:=154);rfl;rfl;exact fun w hw=>pP hw (by exact mm) om)
  (refine kE Tryz.func115 Tryz.results115 ?_;intro w' hw)
  exact zR hw (by exact mm) h2 he
def bV (d:Nat):List Value:=[.int .u8 (d:Int)]
theorem wC (d:Nat):(bV d).length=1:=rfl
theorem Jo {p:List Nat}{j:Nat} (h:j < p.length):(flat bV p)[0+j*1]?=some (.int .u8 ((p.getD j 0:Nat):Int)):=by
 refine rF wC h ?_;rw [gD,gE h];rfl
theorem Jp {p:List Nat}{j d:Nat} (h:j < p.length):dU (flat bV p) (0+j*1) [.int .u8 (d:Int)]=flat bV (p.set j d):=lB wC h rfl
theorem L3 {l c:List Nat} (hc:c.length=l.length) (h:∀ t,t < l.length->c.getD t 0=l.getD (l.length-1-t) 0):c=l.reverse:=by
 apply List.ext_getElem (by simp [hc])
 intro t h1 h2;have:=h t om;rw [List.getElem_reverse];simpa [gD,gE,h1,show l.length-1-t < l.length by omega] using this
theorem HZ (w0:World) (M1:List Row) (g E tot c:Nat) (l:List Nat) (w:World) (hl:l.length<=4294967296) (hw:Sat w0 (.blk g E (flat bV l) tot::M1) w) :
  Calls Tryz.prog 159 #[.slice (some ⟨g,0,none⟩) l.length c] w fun e w'=>∃ _:Unit,e=.returned (.tuple #[])/\Sat w0 (.blk g E (flat bV l.reverse) tot::M1) w':=by
 refine Jb [(0,.slice (some ⟨g,0,none⟩) l.length c)] hw Tryz.func159 rfl Tryz.ntmps159 (by simp) (by (repeat' (first|exact trivial|refine ⟨rfl,?_⟩))) ?_
 all_goals (refine go ?_;and_intros<;>first|exact trivial|repeat first|intro(Bk:Nat)|intro h)
 refine J.loop (c:=_) ((0,(l.length:Int)-1,l):Nat×Int×List Nat) (fun s=>l.length-s.1) (fun s=>[(0,.slice (some ⟨g,0,none⟩) l.length c),(2,.int .i64 s.1),(3,.int .i64 s.2.1)]) (fun s=>.blk g E (flat bV s.2.2) tot::M1) (fun s=>s.2.2.length=l.length/\s.2.1=(l.length:Int)-1-s.1/\s.1<=l.length/\∀ t,t < l.length->s.2.2.getD t 0=if t < s.1∨l.length<=t+s.1 then l.getD (l.length-1-t) 0 else l.getD t 0) ?_ sbT sbL ?_
 ·exact ⟨rfl,by simp,Nat.zero_le _,fun t ht=>by rw [if_neg];dsimp only;omega⟩
 intro ⟨i,z,cu⟩ ⟨h1,h2,h3,h4⟩ ih;dsimp only at h1 h2 h3 h4 ⊢;by_cases hij:(i:Int) < z
 ·obtain ⟨j,rfl⟩:∃ j:Nat,z=(j:Int):=⟨z.toNat,by omega⟩
  have gi:=Jo (p:=cu) (j:=i) om;have gj:=Jo (p:=cu) (j:=j) om;have ci:=h4 i om;have cj:=h4 j om;rw [if_neg om] at ci cj;generalize hx:cu.getD i 0=x at *;generalize hy:cu.getD j 0=y at *;have si:=Jp (p:=cu) (j:=i) (d:=y) om;have sj:=Jp (p:=cu.set i y) (j:=j) (d:=x) (by rw [List.length_set];omega)
  have li:(flat bV cu).length=l.length:=by rw [aO wC,Nat.mul_one,h1]
  have lj:(flat bV (cu.set i y)).length=l.length:=by rw [aO wC,Nat.mul_one,List.length_set,h1]
  all_goals (refine goR ?_;and_intros<;>(try exact trivial)<;>repeat (first|refine fun (Bk:Nat)=>?_|intro h))
  repeat' ((first|(apply J.Py (.q 0 <| .q 1 <| .q 2 <| .q 3 <| .q 4 <| .q 5 <| .q 6 <| .q 7 <| .q 8 <| .q 9 <| .q 10 <| .q 11 <| .q 12 <| .r 13 <| .q 14 <| .r 15 <| .nil);exact Tryz.Pr;decide +kernel)|(apply G.ld;rfl;(apply LdV.one;(first|exact aC.blk (by exact mm) gi|exact aC.blk (by exact mm) gj));rfl)|(apply G.s1;rfl;rfl;rfl;(repeat (first|exact RAt.head|apply RAt.tail));exact ⟨rfl,rfl⟩;omega;exact si)|(apply G.s1;rfl;rfl;rfl;(repeat (first|exact RAt.head|apply RAt.tail));exact ⟨rfl,rfl⟩;omega;exact sj)|(apply J.Pz;exact Tryz.Pr;decide +kernel)|(apply J.P3;exact Tryz.Pr;decide +kernel))<;>(refine goR ?_;and_intros<;>(try exact trivial)<;>repeat (first|refine fun (Bk:Nat)=>?_|intro h)))
  refine J.fin (ih (i+1,(j:Int)-1,(cu.set i y).set j x) ⟨by simp [h1],by dsimp only;omega,by dsimp only;omega,fun t ht=>?_⟩ (by dsimp only;omega))
  have h5:=h4 t ht;dsimp only;simp only [gD] at h5 ⊢;by_cases hjt:j=t
  ·subst hjt
   rw [List.getElem?_set_self (by rw [List.length_set];omega),if_pos om,Option.getD_some,ci,gD]
   congr 2;omega
  ·rw [List.getElem?_set_ne hjt]
   by_cases hit:i=t
   ·subst hit
    rw [List.getElem?_set_self om,if_pos om,Option.getD_some,cj,gD];congr 2;omega
   ·rw [List.getElem?_set_ne hit,h5]
    by_cases hc:t < i∨l.length<=t+i
    ·rw [if_pos hc,if_pos om]
    ·rw [if_neg hc,if_neg om]
 ·have hce:cu=l.reverse:=L3 h1 fun t ht=>by
   have:=h4 t ht;by_cases hc:t < i∨l.length<=t+i
   ·rw [if_pos hc] at this;exact this
   ·rw [if_neg hc] at this
    rw [this];congr 1;omega
  all_goals (refine go ?_;and_intros<;>first|exact trivial|repeat first|intro(Bk:Nat)|intro h)
  apply zD Tryz.func159 (fI.zero Tryz.results159);intro w' hw';exact ⟨(),rfl,by rw [<- hce];exact hw'⟩
theorem L4 (w:World):CR 159 #[.slice none 0 0] w (.tuple #[]):=by
 refine aB [(0,.slice none 0 0)] Tryz.func159 Tryz.ntmps159 ?_;all_goals (refine go ?_;and_intros<;>first|exact trivial|repeat first|intro(Bk:Nat)|intro h)
 refine J.loop (c:=_) () (fun s=>0) (fun s=>[(2,.int .i64 0),(3,.int .i64 (-1))]) (fun s=>[]) (fun s=>True) ?_ sbT sbL ?_
 ·trivial
 intro _ _ ih;all_goals (refine go ?_;and_intros<;>first|exact trivial|repeat first|intro(Bk:Nat)|intro h)
 exact zD Tryz.func159 (fI.zero Tryz.results159) fun w' hw=>⟨rfl,hw.below⟩
theorem GT {a n k:Nat}{K:IntKind} (hk:min n K.bits=n) (h:2 ^ n=k):(a:Int).fdiv (2 ^ (min n K.bits))=((a / k:Nat):Int):=by
 subst h;have e:(2:Int) ^ n=((2 ^ n:Nat):Int):=by simp
 rw [hk,e,Int.fdiv_eq_ediv_of_nonneg _ (Int.natCast_nonneg _),Int.natCast_ediv]
theorem O7 (s:Nat):IntKind.u8.wrap (s:Int)=((s % 256:Nat):Int):=by rw [Lp];omega
theorem Jq:∀ l:List Nat,(∀ d∈l,d < 256)->(l.map UInt8.ofNat).map u8V=l.map bV/\(l.map UInt8.ofNat).map UInt8.toNat=l
 | [],_=>⟨rfl,rfl⟩
 | d::r,h=>by
  obtain ⟨h1,h2⟩:=Jq r fun x hx=>h x (.tail _ hx)
  have h3:(UInt8.ofNat d).toNat=d:=by
   have:=h d (.head _);simp [UInt8.toNat_ofNat',Nat.mod_eq_of_lt this]
  simp only [List.map_cons,h1,h2,h3,u8V,bV,and_self]
theorem GU:∀ x:List Nat,(x.flatMap by4).length=4*x.length
 | []=>rfl
 | d::r=>by
  have e:(by4 d).length=4:=rfl;rw [List.flatMap_cons,List.length_append,GU r,e,List.length_cons];omega
theorem fK (a:Option Addr) (n c:Nat) (w:World) (hl:(dgs B32 n).length<=1073741824) (hA:aE w a 1 ((dgs B32 n).map lmV)) :
  CR 116 #[.slice a (dgs B32 n).length c] w (.string (bs (nB n))):=by
 have hx:=eG (b:=B32) dc n;have hv:=eF (b:=B32) dc n;generalize dgs B32 n=x at *;refine aB [(0,.slice a x.length c)] Tryz.func116 Tryz.ntmps116 ?_;all_goals (refine go ?_;and_intros<;>first|exact trivial|repeat first|intro(Bk:Nat)|intro h)
 rcases Nat.eq_zero_or_pos x.length with h0|h0
 ·have hx0:x=[]:=List.length_eq_zero_iff.1 h0
  subst hx0;have hn0:n=0:=hv.symm;subst hn0;refine J.loop (c:=_) () (fun s=>0) (fun s=>[(3,.slice none 0 0),(7,.int .i64 0),(8,.int .i64 0)]) (fun s=>[]) (fun s=>True) ?_ sbT sbL ?_
  ·trivial
  intro _ _ ih;repeat' first|(refine gp ?_;and_intros<;>first|exact trivial|repeat first|intro(Bk:Nat)|intro h)|(apply G.cV (g:=159);rfl;rfl;exact fun w' _=>L4 w')|(apply G.PJ (E:=5) (l:=[]);rfl;rfl;exact fun w' hw=>aE.nil;rfl;rfl;rfl)|(apply G.cV (g:=160) (vs:=[.string (bs [])]);rfl;rfl;exact fun w' _=>xO [] w' dc)
  all_goals refine aA Tryz.func116 Tryz.results116 ?_
  all_goals exact yN (congrArg nB (rfl:vB []=0))
 apply J.nilOwn (E:=5) (size:=1);refine J.loop (c:=_) ((0,.slice none 0 0):Nat×Value) (fun s=>x.length-s.1) (fun s=>[(3,s.2),(6,.slice a x.length c),(7,.int .i64 x.length),(8,.int .i64 s.1)]) (fun s=>[.own 0 s.2 5 1 (4*s.1) (flat bV ((x.take s.1).flatMap by4))]) (fun s=>s.1<=x.length) ?_ sbT sbL ?_
 ·exact Nat.zero_le _
 intro ⟨k,u⟩ hk ih;dsimp only at hk ⊢;by_cases hlt:k < x.length
 ·obtain ⟨ba,oa,rfl,hrow⟩:=BW hA hlt
  have ht:=bZ (b:=4294967296) dc hx k;have hts:(x.take (k+1)).flatMap by4=(x.take k).flatMap by4++by4 (x.getD k 0):=by
   rw [List.take_add_one,gE hlt,List.flatMap_append,gD,gE hlt];simp
  generalize x.getD k 0=t at *;have hcs:flat bV ((x.take k).flatMap by4)++[.int .u8 ((t % 256:Nat):Int),.int .u8 ((t / 256 % 256:Nat):Int),.int .u8 ((t / 65536 % 256:Nat):Int),.int .u8 ((t / 16777216 % 256:Nat):Int)]=flat bV ((x.take (k+1)).flatMap by4):=by
   rw [hts,jU];rfl
  repeat' (first|(apply G.PN (n:=8) (k1:=.u32);rfl;rfl;rfl;exact GT rfl rfl;rfl;rfl;rfl)|(apply G.PN (n:=16) (k1:=.u32);rfl;rfl;rfl;exact GT rfl rfl;rfl;rfl;rfl)|(apply G.PN (n:=24) (k1:=.u32);rfl;rfl;rfl;exact GT rfl rfl;rfl;rfl;rfl)|(apply G.PL;rfl;exact O7 _;rfl;rfl;rfl)|(apply G.Pu;rfl;rfl;rfl;rfl;rfl;rfl;rfl;rfl;intro Bs)|(apply G.ap;rfl;rfl;rfl;(repeat (first|exact RAt.head|apply RAt.tail));exact cB.blk (by exact mm) rfl rfl;exact hcs;omega;omega;intro v2)|(apply G.pu;rfl;rfl;first|exact trivial|omega)|(apply J.ct;rfl)|(apply G.nil;rfl)|(apply G.cm;rfl;rfl;all_goals intro h;all_goals try (exfalso;omega))|(apply G.fa;rfl;rfl)|(apply G.ld;rfl;(first|(apply LdV.one;(first|exact aC.P0 (by assumption) rfl|exact aC.rowS (by assumption) rfl|exact aC.Px (by assumption) rfl|(apply aC.blk;exact mm;rfl)))|(apply LdV.Pw;exact mm;rfl)|(apply LdV.part;exact mm;rfl;rfl)|(apply LdV.Pv;assumption;rfl)|(apply LdV.Ps;assumption;rfl;rfl));rfl)|(apply G.sk;rfl)|(apply G.ls;rfl;rfl)|(apply G.ix;rfl;rfl;rfl;omega;rfl)|(apply G.ix;rfl;rfl;(first|exact bU _|exact bJ _);omega;rfl)|(apply G.lt;rfl;rfl)|(apply G.bu;rfl;rfl;rfl)|(apply G.fd;rfl;rfl;rfl)|(apply G.cv;rfl;rfl;rfl;omega)|(apply G.beq;rfl;rfl;rfl)|(apply G.P9;rfl;rfl;rfl)|(apply G.mm;rfl;rfl)|(apply G.mf;rfl;rfl)|(apply G.mx;rfl;rfl;rfl)|(apply G.mn;rfl;rfl;rfl)|(apply G.bx;rfl;rfl;rfl;intro Bk)|(apply G.al;rfl;intro Bk)|(apply G.so;rfl;rfl;(repeat (first|exact RAt.head|apply RAt.tail));rfl;rfl)|(apply G.ss;rfl;rfl;(repeat (first|exact RAt.head|apply RAt.tail));rfl;rfl)|(apply J.Pz;exact Tryz.Pr;decide +kernel)|(apply J.P4;exact Tryz.Pr;decide +kernel)|apply J.PA)
  exact J.fin (ih (k+1,v2) (by dsimp only;omega) (by dsimp only;omega))
 ·have hke:k=x.length:=by omega
  subst hke;rw [List.take_length];have hlen4:=GU x;have hlt4:∀ d∈(x.flatMap by4).reverse,d < 256:=fun d hd=>by
   obtain ⟨y,_,hy⟩:=List.mem_flatMap.1 (List.mem_reverse.1 hd);exact Ns hy
  obtain ⟨e1,e2⟩:=Jq _ hlt4;have htx:=Lw hx e2;rw [hv,mX] at htx;have hl8:((x.flatMap by4).reverse.map UInt8.ofNat).length=4*x.length:=by rw [List.length_map,List.length_reverse,hlen4]
  generalize (x.flatMap by4).reverse.map UInt8.ofNat=l8 at *;apply J.open (i:=0) rfl om;intro g cap hcap hu;subst hu;have hrv:=fun (w':World) (M1:List Row) (tot:Nat) (hw:Sat w (.blk g 5 (flat bV (x.flatMap by4)) tot::M1) w')=>HZ w M1 g 5 tot cap (x.flatMap by4) w' om hw
  rw [hlen4] at hrv;simp only [List.set_cons_zero];repeat' first|(refine gp ?_;and_intros<;>first|exact trivial|repeat first|intro(Bk:Nat)|intro h)|(apply G.cM (g:=159) (X:=Unit) (fun _=>.tuple #[]) (fun _=>[.blk g 5 (flat bV (x.flatMap by4).reverse) (cap*1)]);rfl;rfl;exact fun w' hw=>hrv w' [] _ hw;intro _)|(apply G.PJ (E:=5) (l:=l8);rfl;exact hl8;exact fun w' hw=>(e1 ▸ aE.P5 wC hw (.head _));rfl;rfl;rfl)|(apply G.cV (g:=160) (vs:=[.string (bs l8)]);rfl;rfl;exact fun w' _=>xO l8 w' om)
  all_goals refine aA Tryz.func116 Tryz.results116 ?_
  all_goals exact yN htx
theorem kG {l:List UInt8} (h:l.length<=536870912):(dgs B32 (vB l)).length<=134217728:=by
 refine Nat.le_trans (gF dc ((l.length+3) / 4) _ ?_) om;refine Nat.lt_of_lt_of_le (uD l) ?_;rw [<- Fy,<- Nat.pow_mul];exact Nat.pow_le_pow_right dc om
theorem L5 {m n k:Nat} (h1:(dgs B32 m).length<=k) (h2:(dgs B32 n).length<=k):(dgs B32 (m+n)).length<=k+1:=by
 refine gF dc _ _ ?_;have a1:=fT (b:=B32) dc _ (eG (b:=B32) dc m);have a2:=fT (b:=B32) dc _ (eG (b:=B32) dc n);rw [eF dc] at a1 a2;have b1:B32 ^ (dgs B32 m).length<=B32 ^ k:=Nat.pow_le_pow_right dc h1;have b2:B32 ^ (dgs B32 n).length<=B32 ^ k:=Nat.pow_le_pow_right dc h2;rw [Nat.pow_succ]
 have:B32 ^ k*2<=B32 ^ k*B32:=Nat.mul_le_mul_left _ dc;omega
theorem L6 {m n k l:Nat} (h1:(dgs B32 m).length<=k) (h2:(dgs B32 n).length<=l):(dgs B32 (m*n)).length<=k+l:=by
 refine gF dc _ _ ?_;have a1:=fT (b:=B32) dc _ (eG (b:=B32) dc m);have a2:=fT (b:=B32) dc _ (eG (b:=B32) dc n);rw [eF dc] at a1 a2;rw [Nat.pow_add];exact Nat.mul_lt_mul'' (Nat.lt_of_lt_of_le a1 (Nat.pow_le_pow_right dc h1)) (Nat.lt_of_lt_of_le a2 (Nat.pow_le_pow_right dc h2))
theorem Db (a b:List UInt8) (w:World) (ha:a.length<=536870912) (hb:b.length<=536870912) :
  CR 118 #[.string (bs a),.string (bs b)] w (.string (bs (nB (vB a+vB b)))):=by
 have hla:=kG ha;have hlb:=kG hb;have hlc:=L5 hla hlb;refine aB [(0,.string (bs a)),(1,.string (bs b))] Tryz.func118 Tryz.ntmps118 ?_;repeat' first|(refine gp ?_;and_intros<;>first|exact trivial|repeat first|intro(Bk:Nat)|intro h)|(apply G.cN (g:=115) (vs:=[.string (bs a)]) (fun a' c'=>.slice a' (dgs B32 (vB a)).length c') ((dgs B32 (vB a)).map lmV);rfl;rfl;exact fun w' _=>dC a w' om;intro a1 c1 hp1 hq1)|(apply G.cN (g:=115) (vs:=[.string (bs b)]) (fun a' c'=>.slice a' (dgs B32 (vB b)).length c') ((dgs B32 (vB b)).map lmV);rfl;rfl;exact fun w' _=>dC b w' om;intro a2 c2 hp2 hq2)|(apply G.cN (g:=161) (fun a' c'=>.slice a' (dgs B32 (vB a+vB b)).length c') ((dgs B32 (vB a+vB b)).map lmV);rfl;rfl;exact fun w' hw=>F1 _ _ _ _ _ _ w' om om (hw.sl (by exact mm)) (hw.sl (by exact mm));intro a3 c3 hp3 hq3)|(apply G.cV (g:=116);rfl;rfl;exact fun w' hw=>fK _ _ _ w' om (hw.sl (by exact mm)))
 all_goals exact aA Tryz.func118 Tryz.results118 rfl
theorem iZ (a b:List UInt8) (w:World) (ha:a.length<=536870912) (hb:b.length<=536870912) :
  CR 117 #[.string (bs a),.string (bs b)] w (.string (bs (nB (vB a*vB b)))):=by
 have hla:=kG ha;have hlb:=kG hb;have hlc:=L6 hla hlb;refine aB [(0,.string (bs a)),(1,.string (bs b))] Tryz.func117 Tryz.ntmps117 ?_;repeat' first|(refine gp ?_;and_intros<;>first|exact trivial|repeat first|intro(Bk:Nat)|intro h)|(apply G.cN (g:=115) (vs:=[.string (bs a)]) (fun a' c'=>.slice a' (dgs B32 (vB a)).length c') ((dgs B32 (vB a)).map lmV);rfl;rfl;exact fun w' _=>dC a w' om;intro a1 c1 hp1 hq1)|(apply G.cN (g:=115) (vs:=[.string (bs b)]) (fun a' c'=>.slice a' (dgs B32 (vB b)).length c') ((dgs B32 (vB b)).map lmV);rfl;rfl;exact fun w' _=>dC b w' om;intro a2 c2 hp2 hq2)|(apply G.cN (g:=157) (fun a' c'=>.slice a' (dgs B32 (vB a*vB b)).length c') ((dgs B32 (vB a*vB b)).map lmV);rfl;rfl;exact fun w' hw=>pS _ _ _ _ _ _ w' om om (hw.sl (by exact mm)) (hw.sl (by exact mm));intro a3 c3 hp3 hq3)|(apply G.cV (g:=116);rfl;rfl;exact fun w' hw=>fK _ _ _ w' om (hw.sl (by exact mm)))
 all_goals exact aA Tryz.func117 Tryz.results117 rfl
theorem Dc (a b:List UInt8) (w:World) (ha:a.length<=536870912) (hb:b.length<=536870912) :
  CR 119 #[.string (bs a),.string (bs b)] w (.int .i64 (hZ (vB a) (vB b))):=by
 have hla:=kG ha;have hlb:=kG hb;refine aB [(0,.string (bs a)),(1,.string (bs b))] Tryz.func119 Tryz.ntmps119 ?_;repeat' first|(refine gp ?_;and_intros<;>first|exact trivial|repeat first|intro(Bk:Nat)|intro h)|(apply G.cN (g:=115) (vs:=[.string (bs a)]) (fun a' c'=>.slice a' (dgs B32 (vB a)).length c') ((dgs B32 (vB a)).map lmV);rfl;rfl;exact fun w' _=>dC a w' om;intro a1 c1 hp1 hq1)|(apply G.cN (g:=115) (vs:=[.string (bs b)]) (fun a' c'=>.slice a' (dgs B32 (vB b)).length c') ((dgs B32 (vB b)).map lmV);rfl;rfl;exact fun w' _=>dC b w' om;intro a2 c2 hp2 hq2)|(apply G.cV (g:=152);rfl;rfl;exact fun w' hw=>eW _ _ _ _ _ _ w' om om (hw.sl (by exact mm)) (hw.sl (by exact mm)))
 all_goals exact aA Tryz.func119 Tryz.results119 rfl
theorem uI (a b:List UInt8) (w:World) (ha:a.length<=536870912) (hb:b.length<=536870912) (hle:vB b<=vB a) :
  CR 120 #[.string (bs a),.string (bs b)] w (.tuple #[.string (bs (nB (vB a-vB b))),.int .i64 0]):=by
 have hla:=kG ha;have hlb:=kG hb;have hlc:=dA (b:=B32) dc (Nat.sub_le (vB a) (vB b));have hcm:=fun (w':World) (x:Option Addr) (c:Nat) (y:Option Addr) (d:Nat) (h1:aE w' x 1 ((dgs B32 (vB a)).map lmV)) (h2:aE w' y 1 ((dgs B32 (vB b)).map lmV))=>eW x (vB a) c y (vB b) d w' om om h1 h2
 have hc0:0<=hZ (vB a) (vB b):=by
  rcases Nat.lt_or_ge (vB b) (vB a) with h|h
  ·rw [gJ om];decide
  ·rw [show vB a=vB b by omega,iE];decide
 generalize hZ (vB a) (vB b)=cc at *;refine aB [(0,.string (bs a)),(1,.string (bs b))] Tryz.func120 Tryz.ntmps120 ?_;repeat' first|(refine gp ?_;and_intros<;>first|exact trivial|repeat first|intro(Bk:Nat)|intro h)|(apply G.cN (g:=115) (vs:=[.string (bs a)]) (fun a' c'=>.slice a' (dgs B32 (vB a)).length c') ((dgs B32 (vB a)).map lmV);rfl;rfl;exact fun w' _=>dC a w' om;intro a1 c1 hp1 hq1)|(apply G.cN (g:=115) (vs:=[.string (bs b)]) (fun a' c'=>.slice a' (dgs B32 (vB b)).length c') ((dgs B32 (vB b)).map lmV);rfl;rfl;exact fun w' _=>dC b w' om;intro a2 c2 hp2 hq2)|(apply G.cV (g:=152);rfl;rfl;exact fun w' hw=>hcm w' _ _ _ _ (hw.sl (by exact mm)) (hw.sl (by exact mm)))|(apply G.cN (g:=158) (fun a' c'=>.slice a' (dgs B32 (vB a-vB b)).length c') ((dgs B32 (vB a-vB b)).map lmV);rfl;rfl;exact fun w' hw=>pQ _ _ _ _ _ _ w' om om (hw.sl (by exact mm)) (hw.sl (by exact mm)) hle;intro a3 c3 hp3 hq3)|(apply G.cV (g:=116);rfl;rfl;exact fun w' hw=>fK _ _ _ w' om (hw.sl (by exact mm)))
 all_goals exact hU Tryz.func120 Tryz.results120 rfl
theorem Jr (a:Option Addr) (m c:Nat) (b:Option Addr) (n d:Nat) (w:World) (hl:(dgs B32 m).length<=268435456) (hA:aE w a 1 ((dgs B32 m).map lmV)) (hB:aE w b 1 ((dgs B32 n).map lmV)) (hge:n<=m) (hn:n≠0) :
  Calls Tryz.prog 114 #[.slice a (dgs B32 m).length c,.slice b (dgs B32 n).length d] w (Jk (m / n) (m % n) w):=by
 have h0:(dgs B32 n).length≠0:=by rw [iW dc hn];simp
 rcases Nat.lt_or_ge (dgs B32 n).length 2 with h|h
 ·exact Nt a m c b n d w om hA hB hge om
 ·exact O6 a m c b n d w hl hA hB hge h
theorem oV (a b:List UInt8) (w:World) (ha:a.length<=536870912) (hb:b.length<=536870912) (hn:vB b≠0) :
  CR 123 #[.string (bs a),.string (bs b)] w (.tuple #[.string (bs (nB (vB a / vB b))),.string (bs (nB (vB a % vB b))),.int .i64 0]):=by
 have hla:=kG ha;have hlb:=kG hb;have hlc:=dA (b:=B32) dc (Nat.div_le_self (vB a) (vB b));have hld:=dA (b:=B32) dc (Nat.mod_le (vB a) (vB b));have hn1:(dgs B32 (vB b)).length≠0:=by rw [iW dc hn];simp
 rcases Nat.lt_or_ge (vB a) (vB b) with hlt|hge
 ·rw [Nat.mod_eq_of_lt hlt,Nat.div_eq_of_lt hlt] at *
  have hz:(dgs B32 0).length=0:=by rw [cS];rfl
  refine aB [(0,.string (bs a)),(1,.string (bs b))] Tryz.func123 Tryz.ntmps123 ?_;repeat' first|(refine gp ?_;and_intros<;>first|exact trivial|repeat first|intro(Bk:Nat)|intro h)|(apply G.cN (g:=115) (vs:=[.string (bs a)]) (fun a' c'=>.slice a' (dgs B32 (vB a)).length c') ((dgs B32 (vB a)).map lmV);rfl;rfl;exact fun w' _=>dC a w' om;intro a1 c1 hp1 hq1)|(apply G.cN (g:=115) (vs:=[.string (bs b)]) (fun a' c'=>.slice a' (dgs B32 (vB b)).length c') ((dgs B32 (vB b)).map lmV);rfl;rfl;exact fun w' _=>dC b w' om;intro a2 c2 hp2 hq2)|(apply G.cV (g:=114);rfl;rfl;exact fun w' hw=>MG _ _ _ _ _ _ w' om om (hw.sl (by exact mm)) (hw.sl (by exact mm)) hlt)|(apply G.cV (g:=116) (vs:=[.slice none 0 0]) (v:=.string (bs (nB 0)));rfl;rfl;exact fun w' hw=>(by have h:=fK none 0 0 w' om (by rw [cS];exact aE.nil);rw [hz] at h;exact h))|(apply G.cV (g:=116);rfl;rfl;exact fun w' hw=>fK _ _ _ w' om (hw.sl (by exact mm)))
  all_goals exact ME Tryz.func123 Tryz.results123 rfl
 ·skip
  refine aB [(0,.string (bs a)),(1,.string (bs b))] Tryz.func123 Tryz.ntmps123 ?_;repeat' first|(refine gp ?_;and_intros<;>first|exact trivial|repeat first|intro(Bk:Nat)|intro h)|(apply G.cN (g:=115) (vs:=[.string (bs a)]) (fun a' c'=>.slice a' (dgs B32 (vB a)).length c') ((dgs B32 (vB a)).map lmV);rfl;rfl;exact fun w' _=>dC a w' om;intro a1 c1 hp1 hq1)|(apply G.cN (g:=115) (vs:=[.string (bs b)]) (fun a' c'=>.slice a' (dgs B32 (vB b)).length c') ((dgs B32 (vB b)).map lmV);rfl;rfl;exact fun w' _=>dC b w' om;intro a2 c2 hp2 hq2)|(apply G.Rv (g:=114) (fun x1 c1 x2 c2=>.tuple #[.slice x1 (dgs B32 (vB a / vB b)).length c1,.slice x2 (dgs B32 (vB a % vB b)).length c2]) ((dgs B32 (vB a / vB b)).map lmV) ((dgs B32 (vB a % vB b)).map lmV);rfl;rfl;exact fun w' hw=>Jr _ _ _ _ _ _ w' om (hw.sl (by exact mm)) (hw.sl (by exact mm)) hge hn;intro a3 c3 a4 c4 hp3 hp4 hq3 hq4)|(apply G.cV (g:=116);rfl;rfl;exact fun w' hw=>fK _ _ _ w' om (hw.sl (by exact mm)))
  all_goals exact ME Tryz.func123 Tryz.results123 rfl
theorem pT (a:List UInt8) (w:World):CR 67 #[.string (bs a)] w (.bool (decide (nB (vB a)=a))):=by
 refine aB [(0,.string (bs a))] Tryz.func67 Tryz.ntmps67 ?_;cases a with
 | nil =>
  repeat' first|(refine gp ?_;and_intros<;>first|exact trivial|repeat first|intro(Bk:Nat)|intro h)|(apply G.eqlStr;rfl;rfl;rfl;rfl;rfl;all_goals intro h;all_goals try (exact absurd rfl h))
  all_goals refine aA Tryz.func67 Tryz.results67 ?_
  all_goals exact bL (by simp [vB,fJ])
 | cons x r =>
  by_cases hx:x=0
  ·subst hx
   have hz:(((0:UInt8)).toNat:Int)=0:=rfl;have hr:decide (nB (vB (0::r))=0::r)=false:=by
    refine dF fun e=>Lt (vB (0::r)) ?_
    rw [e];rfl
   rw [hr];repeat' first|(refine gp ?_;and_intros<;>first|exact trivial|repeat first|intro(Bk:Nat)|intro h)|(apply G.eqlStr;rfl;rfl;rfl;rfl;rfl;all_goals intro h;all_goals try (cases h;done))|(apply G.sx (i:=0);rfl;rfl;rfl;rfl;rfl)
   all_goals exact aA Tryz.func67 Tryz.results67 rfl
  ·have hz:((x.toNat:Nat):Int)≠0:=by
    intro e;exact hx (UInt8.toNat_inj.1 (by simpa using e))
   rw [dT (zI hx)];repeat' first|(refine gp ?_;and_intros<;>first|exact trivial|repeat first|intro(Bk:Nat)|intro h)|(apply G.eqlStr;rfl;rfl;rfl;rfl;rfl;all_goals intro h;all_goals try (cases h;done))|(apply G.sx (i:=0);rfl;rfl;rfl;rfl;rfl)
   all_goals exact aA Tryz.func67 Tryz.results67 rfl
end Go.Proofs.YtjcecdmbfmccoaaGreatDoor
