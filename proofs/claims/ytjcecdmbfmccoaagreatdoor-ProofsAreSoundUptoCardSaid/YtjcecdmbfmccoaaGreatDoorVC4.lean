/-
  Contracts of the comparisons of numbers.
-/
import Derived.Test.YtjcecdmbfmccoaaGreatDoorVC3
set_option linter.unusedVariables false
set_option linter.unusedSimpArgs false
set_option linter.unusedSectionVars false
namespace Go.Proofs.YtjcecdmbfmccoaaGreatDoor
open Go.RowKit Go.Sl Go.Num
def cmpI (x y:Int):Int:=if x < y then -1 else if y < x then 1 else 0
theorem isNaNi_holds (x:Int) (w:World):Calls Tryz.prog 175 #[.int .i64 x] w fun e w'=>e=.returned (.bool false)/\Below w.heap.size w w':=by
 refine enter [(0,.int .i64 x)] Tryz.func175 rfl Tryz.ntmps175 (by simp) ⟨rfl,trivial⟩ ?_
 all_goals (refine go ?_;and_intros<;>first|exact trivial|repeat first|intro(Bk:Nat)|intro h)
 all_goals refine ret1b Tryz.func175 Tryz.results175 ?_
 all_goals rfl
theorem isNaNu_holds (x:Int) (w:World):Calls Tryz.prog 176 #[.int .u32 x] w fun e w'=>e=.returned (.bool false)/\Below w.heap.size w w':=by
 refine enter [(0,.int .u32 x)] Tryz.func176 rfl Tryz.ntmps176 (by simp) ⟨rfl,trivial⟩ ?_
 all_goals (refine go ?_;and_intros<;>first|exact trivial|repeat first|intro(Bk:Nat)|intro h)
 all_goals refine ret1b Tryz.func176 Tryz.results176 ?_
 all_goals rfl
theorem cmpi_holds (x y:Int) (w:World):Calls Tryz.prog 169 #[.int .i64 x,.int .i64 y] w fun e w'=>e=.returned (.int .i64 (cmpI x y))/\Below w.heap.size w w':=by
 refine enter [(0,.int .i64 x),(1,.int .i64 y)] Tryz.func169 rfl Tryz.ntmps169 (by simp) ⟨rfl,rfl,trivial⟩ ?_
 repeat' first|(refine gp ?_;and_intros<;>first|exact trivial|repeat first|intro(Bk:Nat)|intro h)|(apply G.callV (g:=175);rfl;rfl;rfl;rfl;exact fun w _=>isNaNi_holds _ w)
 all_goals refine ret1b Tryz.func169 Tryz.results169 ?_
 all_goals exact ret_int (by rw [cmpI];first|(rw [if_pos (by omega)])|(rw [if_neg (by omega),if_pos (by omega)])|(rw [if_neg (by omega),if_neg (by omega)]))
theorem cmpu_holds (x y:Int) (w:World):Calls Tryz.prog 170 #[.int .u32 x,.int .u32 y] w fun e w'=>e=.returned (.int .i64 (cmpI x y))/\Below w.heap.size w w':=by
 refine enter [(0,.int .u32 x),(1,.int .u32 y)] Tryz.func170 rfl Tryz.ntmps170 (by simp) ⟨rfl,rfl,trivial⟩ ?_
 repeat' first|(refine gp ?_;and_intros<;>first|exact trivial|repeat first|intro(Bk:Nat)|intro h)|(apply G.callV (g:=176);rfl;rfl;rfl;rfl;exact fun w _=>isNaNu_holds _ w)
 all_goals refine ret1b Tryz.func170 Tryz.results170 ?_
 all_goals exact ret_int (by rw [cmpI];first|(rw [if_pos (by omega)])|(rw [if_neg (by omega),if_pos (by omega)])|(rw [if_neg (by omega),if_neg (by omega)]))
theorem cmpI_lt {x y:Int} (h:x < y):cmpI x y=-1:=by rw [cmpI,if_pos h]
theorem cmpI_gt {x y:Int} (h:y < x):cmpI x y=1:=by rw [cmpI,if_neg (by omega),if_pos h]
theorem cmpI_eq (x:Int):cmpI x x=0:=by rw [cmpI,if_neg (by omega),if_neg (by omega)]
theorem compare_holds (a:Option Addr) (m c:Nat) (b:Option Addr) (n d:Nat) (w:World) (hl:(dgs B32 m).length<=9223372036854775807) (hm:(dgs B32 n).length<=9223372036854775807) (hA:SlAt w a 1 ((dgs B32 m).map lmV)) (hB:SlAt w b 1 ((dgs B32 n).map lmV)) :
  Calls Tryz.prog 152 #[.slice a (dgs B32 m).length c,.slice b (dgs B32 n).length d] w fun e w'=>e=.returned (.int .i64 (cmpI m n))/\Below w.heap.size w w':=by
 obtain ⟨B,hBB,h2⟩:∃ B,B32=B/\2<=B:=⟨_,rfl,by decide⟩
 rw [hBB] at hl hm hA hB ⊢
 clear hBB
 have hx:=dgs_lt h2 m
 have hy:=dgs_lt h2 n
 have vx:=vL_dgs h2 m
 have vy:=vL_dgs h2 n
 have l1:(dgs B m).length < (dgs B n).length->m < n:=dgs_len_lt h2
 have l2:(dgs B n).length < (dgs B m).length->n < m:=dgs_len_lt h2
 generalize dgs B m=X at *
 generalize dgs B n=Z at *
 refine enter [(0,.slice a X.length c),(1,.slice b Z.length d)] Tryz.func152 rfl Tryz.ntmps152 (by simp) ⟨rfl,rfl,trivial⟩ ?_
 have k1:=fun w=>cmpi_holds X.length Z.length w
 rcases Nat.lt_trichotomy X.length Z.length with hlt|heq|hgt
 ·rw [cmpI_lt (by omega)] at k1
  rw [cmpI_lt (by have:=l1 hlt;omega)]
  repeat' first|(refine gp ?_;and_intros<;>first|exact trivial|repeat first|intro(Bk:Nat)|intro h)|(apply G.callV (g:=169);rfl;rfl;rfl;rfl;exact fun w _=>k1 w)
  all_goals refine ret1b Tryz.func152 Tryz.results152 ?_
  all_goals rfl
 ·have hce:cmpI X.length Z.length=0:=by rw [heq,cmpI_eq]
  rw [hce] at k1
  clear l1 l2 hce
  repeat' first|(refine gp ?_;and_intros<;>first|exact trivial|repeat first|intro(Bk:Nat)|intro h)|(apply G.callV (g:=169);rfl;rfl;rfl;rfl;exact fun w _=>k1 w)
  refine J.loop (c:=_) (X.length,(X.length:Int)-1) (fun x=>x.1) (fun x=>[(0,.slice a X.length c),(1,.slice b Z.length d),(6,.int .i64 x.2)]) (fun x=>[]) (fun x=>x.1<=X.length/\x.2=(x.1:Int)-1/\vL B (X.drop x.1)=vL B (Z.drop x.1)) ?_ sbT sbL ?_
  ·exact ⟨Nat.le_refl _,rfl,by rw [List.drop_length,heq,List.drop_length]⟩
  intro ⟨k,z⟩ ⟨hk,hz,hd⟩ ih
  dsimp only at hk hz hd ⊢
  rcases Nat.eq_zero_or_pos k with rfl|h0
  ·have e2:m=n:=by rw [<- vx,<- vy];exact hd
   rw [e2,cmpI_eq]
   all_goals (refine go ?_;and_intros<;>first|exact trivial|repeat first|intro(Bk:Nat)|intro h)
   all_goals refine ret1b Tryz.func152 Tryz.results152 ?_
   all_goals rfl
  ·obtain ⟨i,rfl⟩:∃ i,k=i+1:=⟨k-1,by omega⟩
   have hzi:z=(i:Int):=by omega
   subst hzi
   obtain ⟨ba,oa,rfl,hra⟩:=hA.at i (by omega)
   obtain ⟨bb,ob,rfl,hrb⟩:=hB.at i (by omega)
   have g1:X.getD i 0=X[i]:=by rw [List.getD_eq_getElem?_getD,List.getElem?_eq_getElem (by omega)];rfl
   have g2:Z.getD i 0=Z[i]:=by rw [List.getD_eq_getElem?_getD,List.getElem?_eq_getElem (by omega)];rfl
   have k2:=fun w=>cmpu_holds X[i] Z[i] w
   rcases Nat.lt_trichotomy X[i] Z[i] with hlt|he|hgt
   ·have hlt2:=cmp_top h2 hx heq (by omega) hd (by omega)
    rw [vx,vy] at hlt2
    rw [cmpI_lt (by omega)] at k2
    rw [cmpI_lt (by omega)]
    generalize X[i]=u at *
    generalize Z[i]=v at *
    repeat' first|(refine gp ?_;and_intros<;>first|exact trivial|repeat first|intro(Bk:Nat)|intro h)|(apply G.callV (g:=170);rfl;rfl;rfl;rfl;exact fun w _=>k2 w)
    all_goals refine ret1b Tryz.func152 Tryz.results152 ?_
    all_goals rfl
   ·have hd2:vL B (X.drop i)=vL B (Z.drop i):=by rw [vL_drop_succ (x:=X) (k:=i) (by omega),vL_drop_succ (x:=Z) (k:=i) (by omega),hd,g1,g2,he]
    rw [he,cmpI_eq] at k2
    rw [he] at hra g1
    generalize X[i]=u at *
    generalize Z[i]=v at *
    repeat' first|(refine gp ?_;and_intros<;>first|exact trivial|repeat first|intro(Bk:Nat)|intro h)|(apply G.callV (g:=170);rfl;rfl;rfl;rfl;exact fun w _=>k2 w)
    exact J.fin (ih (i,(i:Int)-1) ⟨by omega,rfl,hd2⟩ (by omega))
   ·have hlt2:=cmp_top h2 hy heq.symm (by omega) hd.symm (by omega)
    rw [vx,vy] at hlt2
    rw [cmpI_gt (by omega)] at k2
    rw [cmpI_gt (by omega)]
    generalize X[i]=u at *
    generalize Z[i]=v at *
    repeat' first|(refine gp ?_;and_intros<;>first|exact trivial|repeat first|intro(Bk:Nat)|intro h)|(apply G.callV (g:=170);rfl;rfl;rfl;rfl;exact fun w _=>k2 w)
    all_goals refine ret1b Tryz.func152 Tryz.results152 ?_
    all_goals rfl
 ·rw [cmpI_gt (by omega)] at k1
  rw [cmpI_gt (by have:=l2 hgt;omega)]
  repeat' first|(refine gp ?_;and_intros<;>first|exact trivial|repeat first|intro(Bk:Nat)|intro h)|(apply G.callV (g:=169);rfl;rfl;rfl;rfl;exact fun w _=>k1 w)
  all_goals refine ret1b Tryz.func152 Tryz.results152 ?_
  all_goals rfl
def RetL (n:Nat) (w:World) (e:Ending) (w':World):Prop :=
 ∃ a' c',e=.returned (.slice a' (dgs B32 n).length c')/\SlAt w' a' 1 ((dgs B32 n).map lmV)/\(∀ p,a'=some p->w.heap.size<=p.block)/\Below w.heap.size w w'
theorem u32_of (s:Nat):IntKind.u32.wrap (s:Int)=((s % B32:Nat):Int):=by rw [wrap_u32];show _=((s % 4294967296:Nat):Int);omega
theorem u64_shr (s:Nat):(s:Int).fdiv (2 ^ (min 32 IntKind.u64.bits))=((s / B32:Nat):Int):=by
 have e:(2:Int) ^ (min 32 IntKind.u64.bits)=4294967296:=rfl
 rw [e,Int.fdiv_eq_ediv_of_nonneg _ (by decide)]
 show _=((s / 4294967296:Nat):Int)
 omega
theorem own_cap {w:World}{base E sz n c:Nat}{a:Option Addr}{xs:List Value} (h:w.ownsRow base E sz (.slice a n c) n xs):n<=c:=by
 obtain ⟨h1,h2⟩:=h
 rcases h2 with ⟨h4,h3⟩|⟨g,cap,cur,hv,hg,hh,h3,r⟩
 ·omega
 ·cases hv;exact h3
theorem retL_own {w0 w:World}{M:List Row}{base E c n:Nat}{a:Option Addr}{l:List Nat} (hw:Sat w0 M w) (hm:Row.own base (.slice a l.length c) E 1 l.length (flat lmV l)∈M) (hl:∀ d∈l,d < B32) (hv:vL B32 l=n):RetL n w0 (.returned (.slice a (trimL l).length c)) w:=by
 have ho:w.ownsRow base E 1 (.slice a l.length c) l.length (flat lmV l):=hw.hold _ hm
 have hs:=SlAt.ofOwn (f:=lmV) (sz:=1) lmV_len ho rfl
 have ht:trimL l=dgs B32 n:=by rw [trimL_eq (by decide) l hl,hv]
 rw [ht]
 have hpre:∀ i,i < (dgs B32 n).length->(dgs B32 n)[i]?=l[i]?:=by
  have:trimL l <+: l:=trimL_pre l
  rw [ht] at this
  obtain ⟨r,hr⟩:=this
  intro i hi
  rw [<- hr,List.getElem?_append_left hi]
 refine ⟨a,c,rfl,fun h0=>?_,fun p hp=>?_,hw.below⟩
 ·have hlen:(dgs B32 n).length<=l.length:=by rw [<- ht];exact trimL_le l
  simp only [List.length_map] at h0
  obtain ⟨b,off,h1,h2⟩:=hs (by simp only [List.length_map];omega)
  refine ⟨b,off,h1,fun i cs hi=>h2 i cs ?_⟩
  rw [List.getElem?_map] at hi ⊢
  obtain ⟨y,hy,rfl⟩:=Option.map_eq_some_iff.1 hi
  rw [<- hpre i (List.getElem?_eq_some_iff.1 hy).1,hy];rfl
 ·subst hp
  exact ((hw.old _ hm).2 p.block rfl).1
theorem trimO_holds {w0 w:World}{M:List Row}{base E c:Nat}{a:Option Addr}{l:List Nat} (hw:Sat w0 M w) (hm:Row.own base (.slice a l.length c) E 1 l.length (flat lmV l)∈M) (hl:l.length<=9223372036854775807) :
  Calls Tryz.prog 154 #[.slice a l.length c] w fun e w'=>e=.returned (.slice a (trimL l).length c)/\Below w.heap.size w w' :=
 have ho:w.ownsRow base E 1 (.slice a l.length c) l.length (flat lmV l):=hw.hold _ hm
 trim_holds a l c w (own_cap ho) hl (SlAt.ofOwn lmV_len ho rfl)
theorem plus_holds (a:Option Addr) (m c:Nat) (b:Option Addr) (n d:Nat) (w:World) (hl:(dgs B32 m).length<=1073741824) (hm:(dgs B32 n).length<=1073741824) (hA:SlAt w a 1 ((dgs B32 m).map lmV)) (hB:SlAt w b 1 ((dgs B32 n).map lmV)) :
  Calls Tryz.prog 161 #[.slice a (dgs B32 m).length c,.slice b (dgs B32 n).length d] w (RetL (m+n) w):=by
 have hx:=dgs_lt (b:=B32) (by decide) m
 have hy:=dgs_lt (b:=B32) (by decide) n
 rw [show m+n=vL B32 (dgs B32 m)+vL B32 (dgs B32 n) by rw [vL_dgs (by decide),vL_dgs (by decide)]]
 generalize dgs B32 m=x at *
 generalize dgs B32 n=y at *
 refine enterA [(0,.slice a x.length c),(1,.slice b y.length d)] Tryz.func161 Tryz.ntmps161 ?_
 all_goals (refine go ?_;and_intros<;>first|exact trivial|repeat first|intro(Bk:Nat)|intro h)
 apply J.nilOwn (E:=206) (size:=1)
 have hend:∀ (o:List Nat) (v:Nat),o.length=max x.length y.length+1->vL B32 o+B32 ^ (max x.length y.length+1)*v=vL B32 (x.take (max x.length y.length+1))+vL B32 (y.take (max x.length y.length+1))->vL B32 o=vL B32 x+vL B32 y:=fun o v _ h=>plus_end (by decide) hx hy h
 have hstep:∀ (o:List Nat) (k v:Nat),o.length=k->v<=1->(∀ d∈o,d < B32)->vL B32 o+B32 ^ k*v=vL B32 (x.take k)+vL B32 (y.take k)->∃ s v',x.getD k 0+y.getD k 0+v=s/\s < 18446744073709551615/\v'=s / B32/\v'<=1/\(∀ d∈o++[s % B32],d < B32)/\vL B32 (o++[s % B32])+B32 ^ (k+1)*v'=vL B32 (x.take (k+1))+vL B32 (y.take (k+1)):=by
  intro o k v h1 h2 h3 h4
  have g1:=getD_lt (by decide) hx k
  have g2:=getD_lt (by decide) hy k
  have g3:B32=4294967296:=rfl
  exact ⟨_,_,rfl,by omega,rfl,plus_carry (by decide) hx hy h2,lt_snoc h3 (Nat.mod_lt _ (by decide)),plus_step (by decide) h1 h4⟩
 refine J.loop (c:=_) ((0,0,.slice none 0 0,[]):Nat×Nat×Value×List Nat) (fun s=>max x.length y.length+1-s.1) (fun s=>[(0,.slice a x.length c),(1,.slice b y.length d),(5,s.2.2.1),(6,.int .u64 (s.2.1:Int)),(14,.int .i64 (max (x.length:Int) y.length+1)),(15,.int .i64 s.1)]) (fun s=>[.own 0 s.2.2.1 206 1 s.1 (flat lmV s.2.2.2)]) (fun s=>s.1<=max x.length y.length+1/\s.2.1<=1/\s.2.2.2.length=s.1/\(∀ d∈s.2.2.2,d < B32)/\vL B32 s.2.2.2+B32 ^ s.1*s.2.1=vL B32 (x.take s.1)+vL B32 (y.take s.1)) ?_ sbT sbL ?_
 ·exact ⟨Nat.zero_le _,Nat.zero_le _,rfl,by simp,by simp [vL]⟩
 intro ⟨k,v,u,o⟩ ⟨h1,h2,h3,h4,h5⟩ ih
 dsimp only at h1 h2 h3 h4 h5 ⊢
 by_cases hk:k < max x.length y.length+1
 ·obtain ⟨t,v',e1,e2,e3,e4,e5,e6⟩:=hstep o k v h3 h2 h4 h5
  have c1:IntKind.u32.wrap (((x.getD k 0:Nat):Int)+(y.getD k 0:Nat)+(v:Nat))=((t % B32:Nat):Int):=by rw [<- u32_of,<- e1];congr 1
  have c2:(((x.getD k 0:Nat):Int)+(y.getD k 0:Nat)+(v:Nat)).fdiv (2 ^ (min 32 IntKind.u64.bits))=(v':Int):=by rw [e3,<- u64_shr,<- e1];congr 1
  repeat' (first|(apply G.cV (g:=171) (vs:=[.slice a x.length c,.int .i64 k]);rfl;rfl;exact fun w hw=>at_holds a x c k w (by omega) hx (hA.below hw.below))|(apply G.cV (g:=171) (vs:=[.slice b y.length d,.int .i64 k]);rfl;rfl;exact fun w hw=>at_holds b y d k w (by omega) hy (hB.below hw.below))|(apply G.convK;rfl;exact c1;rfl;rfl;rfl)|(apply G.shrK (n:=32);rfl;rfl;rfl;exact c2;rfl;rfl;rfl)|(apply G.sliceL;rfl;rfl;rfl;rfl;rfl;rfl;rfl;rfl;intro Bs)|(apply G.ap;rfl;rfl;rfl;(repeat (first|exact RAt.head|apply RAt.tail));exact SrcV.blk (by exact mm) rfl rfl;exact flat1 lmV o (t % B32);omega;omega;intro v2)|(apply G.pu;rfl;rfl;first|exact trivial|omega)|(apply J.ct;rfl)|(apply G.nil;rfl)|(apply G.cm;rfl;rfl;all_goals intro h;all_goals try (exfalso;omega))|(apply G.fa;rfl;rfl)|(apply G.ld;rfl;(first|(apply LdV.one;(first|exact CellV.row0 (by assumption) rfl|exact CellV.rowS (by assumption) rfl|exact CellV.rowSS (by assumption) rfl|(apply CellV.blk;exact mm;rfl)))|(apply LdV.aggBlk;exact mm;rfl)|(apply LdV.part;exact mm;rfl;rfl)|(apply LdV.aggRow;assumption;rfl)|(apply LdV.partRow;assumption;rfl;rfl));rfl)|(apply G.sk;rfl)|(apply G.ls;rfl;rfl)|(apply G.ix;rfl;rfl;rfl;omega;rfl)|(apply G.ix;rfl;rfl;(first|exact sub_one _|exact add_one' _);omega;rfl)|(apply G.lt;rfl;rfl)|(apply G.bu;rfl;rfl;rfl)|(apply G.fd;rfl;rfl;rfl)|(apply G.cv;rfl;rfl;rfl;omega)|(apply G.beq;rfl;rfl;rfl)|(apply G.bne;rfl;rfl;rfl)|(apply G.mm;rfl;rfl)|(apply G.mf;rfl;rfl)|(apply G.mx;rfl;rfl;rfl)|(apply G.mn;rfl;rfl;rfl)|(apply G.bx;rfl;rfl;rfl;intro Bk)|(apply G.al;rfl;intro Bk)|(apply G.so;rfl;rfl;(repeat (first|exact RAt.head|apply RAt.tail));rfl;rfl)|(apply G.ss;rfl;rfl;(repeat (first|exact RAt.head|apply RAt.tail));rfl;rfl)|(apply J.regQ;exact Tryz.mixed;decide +kernel)|(apply J.regL;exact Tryz.mixed;decide +kernel)|apply J.reg)
  exact J.fin (ih (k+1,v',v2,o++[t % B32]) ⟨by dsimp only;omega,e4,by simp [h3],e5,e6⟩ (by dsimp only;omega))
 ·have h6:o.length=max x.length y.length+1:=by omega
  subst h3
  rw [h6] at h5
  apply J.ownForm (i:=0) rfl
  intro a2 c2 hu
  subst hu
  repeat' first|(refine gp ?_;and_intros<;>first|exact trivial|repeat first|intro(Bk:Nat)|intro h)|(apply G.cV (g:=154);rfl;rfl;exact fun w hw=>trimO_holds hw (by exact mm) (by omega))
  (refine ret1 Tryz.func161 Tryz.results161 ?_;intro w' hw)
  exact retL_own hw (by exact mm) h4 (hend o v h6 h5)
theorem lm_at {w:World}{a:Option Addr}{x:List Nat}{k:Nat} (hA:SlAt w a 1 (x.map lmV)) (hk:k < x.length):∃ b off,a=some ⟨b,off,none⟩/\RowAt w b (off+k*1) [.int .u32 ((x.getD k 0:Nat):Int)]:=by
 obtain ⟨b,off,h1,h2⟩:=hA.at k hk
 refine ⟨b,off,h1,?_⟩
 rw [List.getD_eq_getElem?_getD,List.getElem?_eq_getElem hk]
 exact h2
theorem minus_num {x y c d c':Nat} (hx:x < B32) (hy:y < B32) (hc:c<=1) (he:(x:Int)-y-c=(d:Int)-(B32*c':Nat)) (hd:d < B32) (hc':c'<=1) :
  ∃ u1 u2:Nat,IntKind.u64.wrap ((x:Int)-y)=u1/\IntKind.u64.wrap ((u1:Int)-c)=u2/\IntKind.u32.wrap (u2:Int)=d/\(u2:Int).fdiv (2 ^ (min 63 IntKind.u64.bits))=c':=by
 have e0:(2:Int) ^ (min 63 IntKind.u64.bits)=9223372036854775808:=rfl
 have e1:B32=4294967296:=rfl
 rw [e0]
 simp only [wrap_u64,wrap_u32]
 refine ⟨(((x:Int)-y) % 18446744073709551616).toNat,(((x:Int)-y-c) % 18446744073709551616).toNat,by omega,by omega,?_,?_⟩
 ·have:c'=0∨c'=1:=by omega
  rcases this with rfl|rfl<;>omega
 ·rw [Int.fdiv_eq_ediv_of_nonneg _ (by decide)]
  have:c'=0∨c'=1:=by omega
  rcases this with rfl|rfl<;>omega
theorem minus_holds (a:Option Addr) (m c:Nat) (b:Option Addr) (n d:Nat) (w:World) (hl:(dgs B32 m).length<=1073741824) (hm:(dgs B32 n).length<=1073741824) (hA:SlAt w a 1 ((dgs B32 m).map lmV)) (hB:SlAt w b 1 ((dgs B32 n).map lmV)) (hle:n<=m) :
  Calls Tryz.prog 158 #[.slice a (dgs B32 m).length c,.slice b (dgs B32 n).length d] w (RetL (m-n) w):=by
 have hx:=dgs_lt (b:=B32) (by decide) m
 have hy:=dgs_lt (b:=B32) (by decide) n
 rw [show m-n=vL B32 (dgs B32 m)-vL B32 (dgs B32 n) by rw [vL_dgs (by decide),vL_dgs (by decide)]]
 have hle2:vL B32 (dgs B32 n)<=vL B32 (dgs B32 m):=by rw [vL_dgs (by decide),vL_dgs (by decide)];exact hle
 clear hle
 generalize dgs B32 m=x at *
 generalize dgs B32 n=y at *
 refine enterA [(0,.slice a x.length c),(1,.slice b y.length d)] Tryz.func158 Tryz.ntmps158 ?_
 all_goals (refine go ?_;and_intros<;>first|exact trivial|repeat first|intro(Bk:Nat)|intro h)
 apply J.nilOwn (E:=206) (size:=1)
 have hstep:∀ (o:List Nat) (k v:Nat),o.length=k->v<=1->(∀ d∈o,d < B32)->vL B32 o+vL B32 (y.take k)=vL B32 (x.take k)+B32 ^ k*v->∃ dg v' u1 u2:Nat,IntKind.u64.wrap (((x.getD k 0:Nat):Int)-(y.getD k 0:Nat))=u1/\IntKind.u64.wrap ((u1:Int)-v)=u2/\IntKind.u32.wrap (u2:Int)=dg/\(u2:Int).fdiv (2 ^ (min 63 IntKind.u64.bits))=v'/\v'<=1/\(∀ d∈o++[dg],d < B32)/\vL B32 (o++[dg])+vL B32 (y.take (k+1))=vL B32 (x.take (k+1))+B32 ^ (k+1)*v':=by
  intro o k v h1 h2 h3 h4
  have g1:=getD_lt (by decide) hx k
  have g2:=getD_lt (by decide) hy k
  obtain ⟨dg,v',f1,f2,f3,f4⟩:=minus_step (b:=B32) (by decide) h1 hy h2 (by rw [h4,Nat.add_assoc,<- Nat.mul_add];congr 2;omega) g1
  obtain ⟨u1,u2,p1,p2,p3,p4⟩:=minus_num g1 g2 h2 f1 f2 f3
  exact ⟨dg,v',u1,u2,p1,p2,p3,p4,f3,lt_snoc h3 f2,f4⟩
 refine J.loop (c:=_) ((0,0,.slice none 0 0,[]):Nat×Nat×Value×List Nat) (fun s=>x.length-s.1) (fun s=>[(0,.slice a x.length c),(1,.slice b y.length d),(5,s.2.2.1),(6,.int .u64 (s.2.1:Int)),(10,.int .i64 x.length),(11,.int .i64 s.1)]) (fun s=>[.own 0 s.2.2.1 206 1 s.1 (flat lmV s.2.2.2)]) (fun s=>s.1<=x.length/\s.2.1<=1/\s.2.2.2.length=s.1/\(∀ d∈s.2.2.2,d < B32)/\vL B32 s.2.2.2+vL B32 (y.take s.1)=vL B32 (x.take s.1)+B32 ^ s.1*s.2.1) ?_ sbT sbL ?_
 ·exact ⟨Nat.zero_le _,Nat.zero_le _,rfl,by simp,by simp [vL]⟩
 intro ⟨k,v,u,o⟩ ⟨h1,h2,h3,h4,h5⟩ ih
 dsimp only at h1 h2 h3 h4 h5 ⊢
 by_cases hk:k < x.length
 ·obtain ⟨t,v',u1,u2,e1,e2,e3,e4,e5,e6,e7⟩:=hstep o k v h3 h2 h4 h5
  obtain ⟨ba,oa,rfl,hrow⟩:=lm_at hA hk
  have g1:x.getD k 0 < 4294967296:=getD_lt (by decide) hx k
  have g2:y.getD k 0 < 4294967296:=getD_lt (by decide) hy k
  repeat' (first|(apply G.cV (g:=171) (vs:=[.slice b y.length d,.int .i64 k]);rfl;rfl;exact fun w hw=>at_holds b y d k w (by omega) hy (hB.below hw.below))|(apply G.subK;rfl;rfl;exact e1;rfl;rfl;rfl)|(apply G.subK;rfl;rfl;exact e2;rfl;rfl;rfl)|(apply G.convK;rfl;exact e3;rfl;rfl;rfl)|(apply G.shrK (n:=63);rfl;rfl;rfl;exact e4;rfl;rfl;rfl)|(apply G.sliceL;rfl;rfl;rfl;rfl;rfl;rfl;rfl;rfl;intro Bs)|(apply G.ap;rfl;rfl;rfl;(repeat (first|exact RAt.head|apply RAt.tail));exact SrcV.blk (by exact mm) rfl rfl;exact flat1 lmV o t;omega;omega;intro v2)|(apply G.pu;rfl;rfl;first|exact trivial|omega)|(apply J.ct;rfl)|(apply G.nil;rfl)|(apply G.cm;rfl;rfl;all_goals intro h;all_goals try (exfalso;omega))|(apply G.fa;rfl;rfl)|(apply G.ld;rfl;(first|(apply LdV.one;(first|exact CellV.row0 (by assumption) rfl|exact CellV.rowS (by assumption) rfl|exact CellV.rowSS (by assumption) rfl|(apply CellV.blk;exact mm;rfl)))|(apply LdV.aggBlk;exact mm;rfl)|(apply LdV.part;exact mm;rfl;rfl)|(apply LdV.aggRow;assumption;rfl)|(apply LdV.partRow;assumption;rfl;rfl));rfl)|(apply G.sk;rfl)|(apply G.ls;rfl;rfl)|(apply G.ix;rfl;rfl;rfl;omega;rfl)|(apply G.ix;rfl;rfl;(first|exact sub_one _|exact add_one' _);omega;rfl)|(apply G.lt;rfl;rfl)|(apply G.bu;rfl;rfl;rfl)|(apply G.fd;rfl;rfl;rfl)|(apply G.cv;rfl;rfl;rfl;omega)|(apply G.beq;rfl;rfl;rfl)|(apply G.bne;rfl;rfl;rfl)|(apply G.mm;rfl;rfl)|(apply G.mf;rfl;rfl)|(apply G.mx;rfl;rfl;rfl)|(apply G.mn;rfl;rfl;rfl)|(apply G.bx;rfl;rfl;rfl;intro Bk)|(apply G.al;rfl;intro Bk)|(apply G.so;rfl;rfl;(repeat (first|exact RAt.head|apply RAt.tail));rfl;rfl)|(apply G.ss;rfl;rfl;(repeat (first|exact RAt.head|apply RAt.tail));rfl;rfl)|(apply J.regQ;exact Tryz.mixed;decide +kernel)|(apply J.regL;exact Tryz.mixed;decide +kernel)|apply J.reg)
  exact J.fin (ih (k+1,v',v2,o++[t]) ⟨by dsimp only;omega,e5,by simp [h3],e6,e7⟩ (by dsimp only;omega))
 ·have h6:o.length=x.length:=by omega
  subst h3
  rw [h6,List.take_length] at h5
  apply J.ownForm (i:=0) rfl
  intro a2 c2 hu
  subst hu
  repeat' first|(refine gp ?_;and_intros<;>first|exact trivial|repeat first|intro(Bk:Nat)|intro h)|(apply G.cV (g:=154);rfl;rfl;exact fun w hw=>trimO_holds hw (by exact mm) (by omega))
  (refine ret1 Tryz.func158 Tryz.results158 ?_;intro w' hw)
  exact retL_own hw (by exact mm) h4 (minus_end (by decide) hx h4 h6 hle2 h5)
theorem zero_lm (n:Nat):flat (fun x:List Value=>x) (List.replicate n [.int .u32 0])=flat lmV (List.replicate n 0):=by
 simp only [flat,List.map_replicate];rfl
theorem vL_zero (b:Nat):∀ n,vL b (List.replicate n 0)=0
 | 0=>rfl
 | n+1=>by rw [List.replicate_succ,vL,vL_zero b n];simp
theorem retL_blk {w0 w:World}{M:List Row}{E g tot n:Nat}{l:List Nat} (hw:Sat w0 M w) (hm:Row.blk g E (flat lmV l) tot∈M) (hl:∀ d∈l,d < B32) (hv:vL B32 l=n) :
  trimL l=dgs B32 n/\SlAt w (some ⟨g,0,none⟩) 1 ((dgs B32 n).map lmV)/\(∀ p,some (⟨g,0,none⟩:Addr)=some p->w0.heap.size<=p.block):=by
 have hs:=SlAt.ofBlk (f:=lmV) (sz:=1) lmV_len hw hm
 have ht:trimL l=dgs B32 n:=by rw [trimL_eq (by decide) l hl,hv]
 have hpre:∀ i,i < (dgs B32 n).length->(dgs B32 n)[i]?=l[i]?:=by
  have:trimL l <+: l:=trimL_pre l
  rw [ht] at this
  obtain ⟨r,hr⟩:=this
  intro i hi
  rw [<- hr,List.getElem?_append_left hi]
 refine ⟨ht,fun h0=>?_,fun p hp=>?_⟩
 ·have hlen:(dgs B32 n).length<=l.length:=by rw [<- ht];exact trimL_le l
  simp only [List.length_map] at h0
  obtain ⟨b,off,h1,h2⟩:=hs (by simp only [List.length_map];omega)
  refine ⟨b,off,h1,fun i cs hi=>h2 i cs ?_⟩
  rw [List.getElem?_map] at hi ⊢
  obtain ⟨y,hy,rfl⟩:=Option.map_eq_some_iff.1 hi
  rw [<- hpre i (List.getElem?_eq_some_iff.1 hy).1,hy];rfl
 ·cases hp
  exact ((hw.old _ hm).2 g rfl).1
theorem trimB_holds {w0 w:World}{M:List Row}{E g c tot n:Nat}{l:List Nat} (hw:Sat w0 M w) (hm:Row.blk g E (flat lmV l) tot∈M) (hn:l.length=n) (hc:n<=c) (hl:n<=9223372036854775807) :
  Calls Tryz.prog 154 #[.slice (some ⟨g,0,none⟩) n c] w fun e w'=>e=.returned (.slice (some ⟨g,0,none⟩) (trimL l).length c)/\Below w.heap.size w w':=by
 subst hn
 exact trim_holds _ l c w hc hl (SlAt.ofBlk lmV_len hw hm)
theorem lm_get {p:List Nat}{j:Nat} (h:j < p.length):(flat lmV p)[0+j*1]?=some (.int .u32 ((p.getD j 0:Nat):Int)):=by
 refine flat_get1 lmV_len h ?_
 rw [List.getD_eq_getElem?_getD,List.getElem?_eq_getElem h];rfl
theorem lm_set {p:List Nat}{j d:Nat} (h:j < p.length):setL (flat lmV p) (0+j*1) [.int .u32 (d:Int)]=flat lmV (p.set j d):=flat_set1 lmV_len h rfl
theorem set_lt {b:Nat}{p:List Nat}{j d:Nat} (h:∀ x∈p,x < b) (hd:d < b):∀ x∈p.set j d,x < b:=fun x hx=>by
 rcases List.mem_or_eq_of_mem_set hx with h1|h1
 ·exact h x h1
 ·rw [h1];exact hd
theorem times_val {b:Nat}{o y:List Nat}{a i c z:Nat} (hb:2<=b) (hl:vL b o+b ^ (i+(y.length+1))*c=z+a*b ^ i*vL b y) (hz:z < b ^ (i+y.length)) (ha:a < b) (hy:∀ d∈y,d < b):c=0:=by
 have h1:=vL_lt (b:=b) (by omega) y hy
 have h2:a*b ^ i*vL b y<=(b-1)*(b ^ i*b ^ y.length):=by
  rw [Nat.mul_assoc];exact Nat.mul_le_mul (by omega) (Nat.mul_le_mul_left _ (by omega))
 rw [<- Nat.pow_add] at h2
 have h3:b ^ (i+(y.length+1))=b*b ^ (i+y.length):=by rw [<- Nat.add_assoc,Nat.pow_succ,Nat.mul_comm]
 rw [h3] at hl
 clear h3
 obtain ⟨m,rfl⟩:∃ m,b=m+1:=⟨b-1,by omega⟩
 rw [Nat.add_sub_cancel] at h2
 rcases Nat.eq_zero_or_pos c with h|h
 ·exact h
 ·have h4:(m+1)*(m+1) ^ (i+y.length)*1<=(m+1)*(m+1) ^ (i+y.length)*c:=Nat.mul_le_mul_left _ h
  have h5:(m+1)*(m+1) ^ (i+y.length)=m*(m+1) ^ (i+y.length)+(m+1) ^ (i+y.length):=by rw [Nat.add_mul,Nat.one_mul]
  omega
theorem times_holds (a:Option Addr) (m c:Nat) (b:Option Addr) (n d:Nat) (w:World) (hl:(dgs B32 m).length<=1073741824) (hm:(dgs B32 n).length<=1073741824) (hA:SlAt w a 1 ((dgs B32 m).map lmV)) (hB:SlAt w b 1 ((dgs B32 n).map lmV)) :
  Calls Tryz.prog 157 #[.slice a (dgs B32 m).length c,.slice b (dgs B32 n).length d] w (RetL (m*n) w):=by
 have hx:=dgs_lt (b:=B32) (by decide) m
 have hy:=dgs_lt (b:=B32) (by decide) n
 rw [show m*n=vL B32 (dgs B32 m)*vL B32 (dgs B32 n) by rw [vL_dgs (by decide),vL_dgs (by decide)]]
 generalize dgs B32 m=x at *
 generalize dgs B32 n=y at *
 refine enterA [(0,.slice a x.length c),(1,.slice b y.length d)] Tryz.func157 Tryz.ntmps157 ?_
 repeat' first|(refine gp ?_;and_intros<;>first|exact trivial|repeat first|intro(Bk:Nat)|intro h)|(apply G.make (n:=x.length+y.length+1) [.int .u32 0];rfl;rfl;rfl;rfl;rfl;omega;omega;rfl;omega;omega;intro Bk;rw [zero_lm])
 have hX:SlAt w a 1 (x.map lmV):=hA
 refine J.loop (c:=_) ((0,List.replicate (x.length+y.length+1) 0):Nat×List Nat) (fun s=>x.length-s.1) (fun s=>[(1,.slice b y.length d),(5,.slice (some ⟨Bk,0,none⟩) (x.length+y.length+1) (x.length+y.length+1)),(18,.slice a x.length c),(19,.int .i64 x.length),(20,.int .i64 s.1)]) (fun s=>[.blk Bk 206 (flat lmV s.2) ((x.length+y.length+1)*1)]) (fun s=>s.1<=x.length/\s.2.length=x.length+y.length+1/\(∀ d∈s.2,d < B32)/\vL B32 s.2=vL B32 (x.take s.1)*vL B32 y) ?_ sbT sbL ?_
 ·exact ⟨Nat.zero_le _,by simp,fun d hd=>by rw [List.eq_of_mem_replicate hd];decide,by rw [vL_zero];simp [vL]⟩
 intro ⟨i,o⟩ ⟨h1,h2,h3,h4⟩ ih
 dsimp only at h1 h2 h3 h4 ⊢
 by_cases hi:i < x.length
 ·obtain ⟨ba,oa,rfl,hrow⟩:=lm_at hA hi
  all_goals (refine go ?_;and_intros<;>first|exact trivial|repeat first|intro(Bk:Nat)|intro h)
  generalize hav:x.getD i 0=av
  have hav2:av < B32:=by rw [<- hav];exact getD_lt (by decide) hx i
  have hz:vL B32 o < B32 ^ (i+y.length):=by
   rw [h4,Nat.pow_add]
   have e1:=vL_lt (b:=B32) (by decide) (x.take i) fun d hd=>hx d (List.mem_of_mem_take hd)
   have e2:=vL_lt (b:=B32) (by decide) y hy
   rw [List.length_take,Nat.min_eq_left (by omega)] at e1
   exact Nat.mul_lt_mul'' e1 e2
  have hstep:∀ (p:List Nat) (k v:Nat),p.length=x.length+y.length+1->(∀ d∈p,d < B32)->v < B32->k<=y.length->vL B32 p+B32 ^ (i+k)*v=vL B32 o+av*B32 ^ i*vL B32 (y.take k) ->
    ∃ pr t v':Nat,pr=av*y.getD k 0/\pr+p.getD (i+k) 0+v=t/\t < 18446744073709551616/\v'=t / B32/\v' < B32/\pr < 18446744073709551616/\y.getD k 0 < 4294967296/\p.getD (i+k) 0 < 4294967296/\vL B32 (p.set (i+k) (t % B32))+B32 ^ (i+(k+1))*v'=vL B32 o+av*B32 ^ i*vL B32 (y.take (k+1)):=by
   intro p k v p1 p2 p3 p4 p5
   have g1:=getD_lt (by decide) hy k
   have g2:=getD_lt (by decide) p2 (i+k)
   have g3:=times_small hav2 g1 g2 p3
   have g4:av*y.getD k 0<=(B32-1)*(B32-1):=Nat.mul_le_mul (by omega) (by omega)
   have g5:B32=4294967296:=rfl
   have g6:(B32-1)*(B32-1)=18446744065119617025:=rfl
   exact ⟨_,_,_,rfl,rfl,by omega,rfl,g3,by omega,by omega,by omega,times_step (by omega) p5⟩
  refine J.loop (c:=_) ((0,0,o):Nat×Nat×List Nat) (fun s=>y.length+1-s.1) (fun s=>[(1,.slice b y.length d),(5,.slice (some ⟨Bk,0,none⟩) (x.length+y.length+1) (x.length+y.length+1)),(6,.int .i64 i),(7,.int .u32 av),(8,.int .u64 (s.2.1:Int)),(9,.int .i64 s.1),(18,.slice (some ⟨ba,oa,none⟩) x.length c),(19,.int .i64 x.length),(20,.int .i64 i)]) (fun s=>[.blk Bk 206 (flat lmV s.2.2) ((x.length+y.length+1)*1)]) (fun s=>s.1<=y.length+1/\s.2.1 < B32/\s.2.2.length=x.length+y.length+1/\(∀ d∈s.2.2,d < B32)/\vL B32 s.2.2+B32 ^ (i+s.1)*s.2.1=vL B32 o+av*B32 ^ i*vL B32 (y.take s.1)) ?_ sbT sbL ?_
  ·exact ⟨Nat.zero_le _,(by decide:0 < B32),h2,h3,by simp [vL]⟩
  intro ⟨k,v,p⟩ ⟨j1,j2,j3,j4,j5⟩ ih2
  dsimp only at j1 j2 j3 j4 j5 ⊢
  have hfin:y.length<=k->v=0->vL B32 p=vL B32 (x.take (i+1))*vL B32 y:=by
   intro q1 q2
   rw [q2,List.take_of_length_le q1,h4] at j5
   rw [vL_take_succ,hav,Nat.add_mul,Nat.mul_comm (B32 ^ i) av]
   omega
  have hz2:k=y.length+1->v=0:=by
   intro q1
   subst q1
   rw [List.take_of_length_le (by omega)] at j5
   exact times_val (by decide) j5 hz hav2 hy
  by_cases hgo:k<=y.length/\(k < y.length∨0 < v)
  ·obtain ⟨hk,hgo⟩:=hgo
   obtain ⟨pr,t,v',e1,e2,e3,e4,e5,e6,e7,e8,e9⟩:=hstep p k v j3 j4 j2 hk j5
   have m1:IntKind.u64.wrap ((av:Int)*(y.getD k 0:Nat))=(pr:Int):=by
    rw [wrap_u64,<- Int.natCast_mul,<- e1];omega
   have c1:IntKind.u32.wrap ((pr:Int)+(p.getD (i+k) 0:Nat)+(v:Nat))=((t % B32:Nat):Int):=by rw [<- u32_of,<- e2];congr 1
   have c2:((pr:Int)+(p.getD (i+k) 0:Nat)+(v:Nat)).fdiv (2 ^ (min 32 IntKind.u64.bits))=(v':Int):=by rw [e4,<- u64_shr,<- e2];congr 1
   have q1:=lm_get (p:=p) (j:=i+k) (by omega)
   have q2:=lm_set (p:=p) (j:=i+k) (d:=t % B32) (by omega)
   have hav3:av < 4294967296:=hav2
   have l9:(flat lmV p).length=p.length:=by rw [flat_len lmV_len,Nat.mul_one]
   repeat' (first|(apply G.cV (g:=171) (vs:=[.slice b y.length d,.int .i64 k]);rfl;rfl;exact fun w hw=>at_holds b y d k w (by omega) hy (hB.below hw.below))|(apply G.mulK;rfl;rfl;exact m1;rfl;rfl;rfl)|(apply G.convK;rfl;exact c1;rfl;rfl;rfl)|(apply G.shrK (n:=32);rfl;rfl;rfl;exact c2;rfl;rfl;rfl)|(apply G.ix (i:=i+k);rfl;rfl;omega;omega;rfl)|(apply G.ld;rfl;(apply LdV.one;exact CellV.blk (by exact mm) q1);rfl)|(apply G.s1;rfl;rfl;rfl;(repeat (first|exact RAt.head|apply RAt.tail));exact ⟨rfl,rfl⟩;omega;exact q2)|(apply G.pu;rfl;rfl;first|exact trivial|omega)|(apply J.ct;rfl)|(apply G.nil;rfl)|(apply G.cm;rfl;rfl;all_goals intro h;all_goals try (exfalso;omega))|(apply G.fa;rfl;rfl)|(apply G.ld;rfl;(first|(apply LdV.one;(first|exact CellV.row0 (by assumption) rfl|exact CellV.rowS (by assumption) rfl|exact CellV.rowSS (by assumption) rfl|(apply CellV.blk;exact mm;rfl)))|(apply LdV.aggBlk;exact mm;rfl)|(apply LdV.part;exact mm;rfl;rfl)|(apply LdV.aggRow;assumption;rfl)|(apply LdV.partRow;assumption;rfl;rfl));rfl)|(apply G.sk;rfl)|(apply G.ls;rfl;rfl)|(apply G.ix;rfl;rfl;rfl;omega;rfl)|(apply G.ix;rfl;rfl;(first|exact sub_one _|exact add_one' _);omega;rfl)|(apply G.lt;rfl;rfl)|(apply G.bu;rfl;rfl;rfl)|(apply G.fd;rfl;rfl;rfl)|(apply G.cv;rfl;rfl;rfl;omega)|(apply G.beq;rfl;rfl;rfl)|(apply G.bne;rfl;rfl;rfl)|(apply G.mm;rfl;rfl)|(apply G.mf;rfl;rfl)|(apply G.mx;rfl;rfl;rfl)|(apply G.mn;rfl;rfl;rfl)|(apply G.bx;rfl;rfl;rfl;intro Bk)|(apply G.al;rfl;intro Bk)|(apply G.so;rfl;rfl;(repeat (first|exact RAt.head|apply RAt.tail));rfl;rfl)|(apply G.ss;rfl;rfl;(repeat (first|exact RAt.head|apply RAt.tail));rfl;rfl)|(apply J.regQ;exact Tryz.mixed;decide +kernel)|(apply J.regL;exact Tryz.mixed;decide +kernel)|apply J.reg)
   all_goals (refine J.fin (ih2 (k+1,v',p.set (i+k) (t % B32)) ⟨by dsimp only;omega,e5,by simp [j3],set_lt j4 (Nat.mod_lt _ (by decide)),e9⟩ (by dsimp only;omega)))
  ·have hv:v=0:=by omega
   subst hv
   all_goals (refine go ?_;and_intros<;>first|exact trivial|repeat first|intro(Bk:Nat)|intro h)
   exact J.fin (ih (i+1,p) ⟨by dsimp only;omega,j3,j4,hfin (by omega) rfl⟩ (by dsimp only;omega))
 ·have h6:i=x.length:=by omega
  subst h6
  rw [List.take_length] at h4
  repeat' first|(refine gp ?_;and_intros<;>first|exact trivial|repeat first|intro(Bk:Nat)|intro h)|(apply G.cV (g:=154);rfl;rfl;exact fun w hw=>trimB_holds hw (by exact mm) (by assumption) (by omega) (by omega))
  (refine ret1 Tryz.func157 Tryz.results157 ?_;intro w' hw)
  obtain ⟨q1,q2,q3⟩:=retL_blk hw (by exact mm) h3 h4
  rw [q1]
  exact ⟨_,_,rfl,q2,q3,hw.below⟩
theorem drop_set_succ {A:Type}{l:List A}{i:Nat}{d:A} (h:i < l.length):(l.set i d).drop i=d::l.drop (i+1):=by
 rw [List.drop_eq_getElem_cons (by simpa using h),List.getElem_set_self,List.drop_set_of_lt (by omega)]
theorem small_holds (a:Option Addr) (m c dv:Nat) (w:World) (hl:(dgs B32 m).length<=1073741824) (hA:SlAt w a 1 ((dgs B32 m).map lmV)) (hd0:0 < dv) (hd1:dv < 4294967296) :
  Calls Tryz.prog 153 #[.slice a (dgs B32 m).length c,.int .u32 dv] w fun e w'=>∃ a' c',e=.returned (.tuple #[.slice a' (dgs B32 (m / dv)).length c',.int .u32 ((m % dv:Nat):Int)])/\SlAt w' a' 1 ((dgs B32 (m / dv)).map lmV)/\(∀ p,a'=some p->w.heap.size<=p.block)/\Below w.heap.size w w':=by
 have hx:=dgs_lt (b:=B32) (by decide) m
 have hv:vL B32 (dgs B32 m)=m:=vL_dgs (by decide) m
 generalize dgs B32 m=x at *
 refine enterA [(0,.slice a x.length c),(1,.int .u32 dv)] Tryz.func153 Tryz.ntmps153 ?_
 repeat' first|(refine gp ?_;and_intros<;>first|exact trivial|repeat first|intro(Bk:Nat)|intro h)|(apply G.make (n:=x.length) [.int .u32 0];rfl;rfl;rfl;rfl;rfl;omega;omega;rfl;omega;omega;intro Bk;rw [zero_lm])
 refine J.loop (c:=_) ((x.length,(x.length:Int)-1,0,List.replicate x.length 0):Nat×Int×Nat×List Nat) (fun s=>s.1) (fun s=>[(0,.slice a x.length c),(1,.int .u32 dv),(6,.slice (some ⟨Bk,0,none⟩) x.length x.length),(7,.int .u64 (s.2.2.1:Int)),(8,.int .i64 s.2.1)]) (fun s=>[.blk Bk 206 (flat lmV s.2.2.2) (x.length*1)]) (fun s=>s.1<=x.length/\s.2.1=(s.1:Int)-1/\s.2.2.1 < dv/\s.2.2.2.length=x.length/\(∀ d∈s.2.2.2,d < B32)/\dv*vL B32 (s.2.2.2.drop s.1)+s.2.2.1=vL B32 (x.drop s.1)) ?_ sbT sbL ?_
 ·exact ⟨Nat.le_refl _,rfl,hd0,by simp,fun d hd=>by rw [List.eq_of_mem_replicate hd];decide,by simp [vL]⟩
 intro ⟨n,z,r,o⟩ ⟨h1,h2,h3,h4,h5,h6⟩ ih
 dsimp only at h1 h2 h3 h4 h5 h6 ⊢
 rcases Nat.eq_zero_or_pos n with rfl|h0
 ·rw [List.drop_zero,List.drop_zero,hv] at h6
  have hq:vL B32 o=m / dv:=by
   rw [<- h6,Nat.add_comm,Nat.add_mul_div_left _ _ hd0,Nat.div_eq_of_lt h3,Nat.zero_add]
  have hr:m % dv=r:=by rw [<- h6,Nat.add_comm,Nat.add_mul_mod_self_left,Nat.mod_eq_of_lt h3]
  repeat' first|(refine gp ?_;and_intros<;>first|exact trivial|repeat first|intro(Bk:Nat)|intro h)|(apply G.cV (g:=154);rfl;rfl;exact fun w hw=>trimB_holds hw (by exact mm) (by assumption) (by omega) (by omega))
  (refine ret2 Tryz.func153 Tryz.results153 ?_;intro w' hw)
  obtain ⟨q1,q2,q3⟩:=retL_blk hw (by exact mm) h5 hq
  rw [q1,hr]
  exact ⟨_,_,rfl,q2,q3,hw.below⟩
 ·obtain ⟨i,rfl⟩:∃ i,n=i+1:=⟨n-1,by omega⟩
  have hzi:z=(i:Int):=by omega
  subst hzi
  obtain ⟨ba,oa,rfl,hrow⟩:=lm_at hA (k:=i) (by omega)
  have hxi:x.getD i 0 < 4294967296:=getD_lt (by decide) hx i
  have hst:=small_step (b:=B32) h3 hxi h6 (vL_drop_succ (b:=B32) (x:=x) (k:=i) (by omega))
  have hor:=or32 (a:=r) (b:=x.getD i 0) hxi (by omega)
  have hsh:IntKind.u64.wrap ((r:Int)*2 ^ (min 32 IntKind.u64.bits))=((r*4294967296:Nat):Int):=by
   have e0:(2:Int) ^ (min 32 IntKind.u64.bits)=4294967296:=rfl
   rw [e0,wrap_u64];omega
  obtain ⟨A,hA2⟩:∃ A,A=r*4294967296+x.getD i 0:=⟨_,rfl⟩
  rw [<- hA2] at hor
  rw [show r*B32+x.getD i 0=A from hA2.symm] at hst
  obtain ⟨q,hq⟩:∃ q,q=A / dv:=⟨_,rfl⟩
  obtain ⟨r',hr'⟩:∃ r',r'=A % dv:=⟨_,rfl⟩
  rw [<- hq,<- hr'] at hst
  obtain ⟨f1,f2,f3⟩:=hst
  have f0:q < 4294967296:=f1
  have d1:IntKind.u64.wrap ((A:Int).tdiv dv)=(q:Int):=by
   rw [Int.tdiv_eq_ediv_of_nonneg (by omega),<- Int.natCast_ediv,<- hq,wrap_u64];omega
  have d2:(A:Int).tmod dv=(r':Int):=by
   rw [Int.tmod_eq_emod_of_nonneg (by omega),<- Int.natCast_emod,<- hr']
  have q2:=lm_set (p:=o) (j:=i) (d:=q) (by omega)
  have l9:(flat lmV o).length=o.length:=by rw [flat_len lmV_len,Nat.mul_one]
  have hb0:(dv:Int)≠0:=by omega
  repeat' (first|(apply J.regW 0 (.q 0 <| .q 1 <| .q 2 <| .q 3 <| .q 4 <| .q 5 <| .q 6 <| .q 7 <| .q 8 <| .q 9 <| .q 10 <| .q 11 <| .e 12 <| .q 13 <| .nil);exact Tryz.mixed;decide +kernel)|(apply G.shlK (n:=32);rfl;rfl;rfl;exact hsh;rfl;rfl;rfl)|(apply G.orK;rfl;rfl;exact hor;rfl;rfl;rfl)|(apply G.quoK;rfl;rfl;exact hb0;exact d1;rfl;rfl;rfl)|(apply G.remK;rfl;rfl;exact hb0;exact d2;rfl;rfl;rfl)|(apply G.s1w;rfl;rfl;rfl;exact ⟨rfl,rfl⟩;omega;exact q2)|(apply G.pu;rfl;rfl;first|exact trivial|omega)|(apply J.ct;rfl)|(apply G.nil;rfl)|(apply G.cm;rfl;rfl;all_goals intro h;all_goals try (exfalso;omega))|(apply G.fa;rfl;rfl)|(apply G.ld;rfl;(first|(apply LdV.one;(first|exact CellV.row0 (by assumption) rfl|exact CellV.rowS (by assumption) rfl|exact CellV.rowSS (by assumption) rfl|(apply CellV.blk;exact mm;rfl)))|(apply LdV.aggBlk;exact mm;rfl)|(apply LdV.part;exact mm;rfl;rfl)|(apply LdV.aggRow;assumption;rfl)|(apply LdV.partRow;assumption;rfl;rfl));rfl)|(apply G.sk;rfl)|(apply G.ls;rfl;rfl)|(apply G.ix;rfl;rfl;rfl;omega;rfl)|(apply G.ix;rfl;rfl;(first|exact sub_one _|exact add_one' _);omega;rfl)|(apply G.lt;rfl;rfl)|(apply G.bu;rfl;rfl;rfl)|(apply G.fd;rfl;rfl;rfl)|(apply G.cv;rfl;rfl;rfl;omega)|(apply G.beq;rfl;rfl;rfl)|(apply G.bne;rfl;rfl;rfl)|(apply G.mm;rfl;rfl)|(apply G.mf;rfl;rfl)|(apply G.mx;rfl;rfl;rfl)|(apply G.mn;rfl;rfl;rfl)|(apply G.bx;rfl;rfl;rfl;intro Bk)|(apply G.al;rfl;intro Bk)|(apply G.so;rfl;rfl;(repeat (first|exact RAt.head|apply RAt.tail));rfl;rfl)|(apply G.ss;rfl;rfl;(repeat (first|exact RAt.head|apply RAt.tail));rfl;rfl)|(apply J.regQ;exact Tryz.mixed;decide +kernel)|(apply J.regL;exact Tryz.mixed;decide +kernel)|apply J.reg)
  exact J.fin (ih (i,(i:Int)-1,r',o.set i q) ⟨by dsimp only;omega,rfl,f2,by simp [h4],set_lt h5 f1,by dsimp only;rw [drop_set_succ (by omega),vL];exact f3⟩ (by dsimp only;omega))
theorem dgs_one {d:Nat} (h0:0 < d) (h1:d < B32):dgs B32 d=[d]:=by
 rw [dgs_pos (by decide) (by omega),Nat.mod_eq_of_lt h1,Nat.div_eq_of_lt h1,dgs_zero]
theorem shl_holds (a:Option Addr) (m c k:Nat) (w:World) (hl:(dgs B32 m).length<=1073741824) (hA:SlAt w a 1 ((dgs B32 m).map lmV)) (hk:k<=31) :
  Calls Tryz.prog 155 #[.slice a (dgs B32 m).length c,.int .i64 k] w (RetL (m*2 ^ k) w):=by
 have hp0:0 < 2 ^ k:=Nat.two_pow_pos k
 have hp1:2 ^ k < B32:=Nat.lt_of_le_of_lt (Nat.pow_le_pow_right (by omega) hk) (by decide)
 have hsh:IntKind.u32.wrap ((1:Int)*2 ^ (min k IntKind.u32.bits))=((2 ^ k:Nat):Int):=by
  have e0:min k IntKind.u32.bits=k:=Nat.min_eq_left (show k<=32 by omega)
  have e1:(2:Int) ^ k=((2 ^ k:Nat):Int):=by simp
  have e2:2 ^ k < 4294967296:=hp1
  rw [e0,Int.one_mul,e1,wrap_u32];omega
 have hd:=dgs_one hp0 hp1
 generalize 2 ^ k=p at *
 have hlen:(dgs B32 p).length=1:=by rw [hd];rfl
 have htm:=fun (g:Nat) (w':World) (hw:Below w.heap.size w w') (hB:SlAt w' (some ⟨g,0,none⟩) 1 ((dgs B32 p).map lmV))=>times_holds a m c (some ⟨g,0,none⟩) p 1 w' hl (by omega) (hA.below hw) hB
 rw [hlen,hd] at htm
 generalize dgs B32 m=x at *
 refine enterA [(0,.slice a x.length c),(1,.int .i64 k)] Tryz.func155 Tryz.ntmps155 ?_
 repeat' (first|(apply G.shlK (n:=k);rfl;rfl;rfl;exact hsh;rfl;rfl;rfl)|(apply G.sliceL;rfl;rfl;rfl;rfl;rfl;rfl;rfl;rfl;intro Bs)|(apply G.cN (g:=157) (fun a' c'=>.slice a' (dgs B32 (m*p)).length c') ((dgs B32 (m*p)).map lmV);rfl;rfl;exact fun w' hw=>htm _ w' hw.below (SlAt.ofBlk (l:=[p]) lmV_len hw (by exact mm));intro a2 c2 hp2 hp3)|(apply G.pu;rfl;rfl;first|exact trivial|omega)|(apply J.ct;rfl)|(apply G.nil;rfl)|(apply G.cm;rfl;rfl;all_goals intro h;all_goals try (exfalso;omega))|(apply G.fa;rfl;rfl)|(apply G.ld;rfl;(first|(apply LdV.one;(first|exact CellV.row0 (by assumption) rfl|exact CellV.rowS (by assumption) rfl|exact CellV.rowSS (by assumption) rfl|(apply CellV.blk;exact mm;rfl)))|(apply LdV.aggBlk;exact mm;rfl)|(apply LdV.part;exact mm;rfl;rfl)|(apply LdV.aggRow;assumption;rfl)|(apply LdV.partRow;assumption;rfl;rfl));rfl)|(apply G.sk;rfl)|(apply G.ls;rfl;rfl)|(apply G.ix;rfl;rfl;rfl;omega;rfl)|(apply G.ix;rfl;rfl;(first|exact sub_one _|exact add_one' _);omega;rfl)|(apply G.lt;rfl;rfl)|(apply G.bu;rfl;rfl;rfl)|(apply G.fd;rfl;rfl;rfl)|(apply G.cv;rfl;rfl;rfl;omega)|(apply G.beq;rfl;rfl;rfl)|(apply G.bne;rfl;rfl;rfl)|(apply G.mm;rfl;rfl)|(apply G.mf;rfl;rfl)|(apply G.mx;rfl;rfl;rfl)|(apply G.mn;rfl;rfl;rfl)|(apply G.bx;rfl;rfl;rfl;intro Bk)|(apply G.al;rfl;intro Bk)|(apply G.so;rfl;rfl;(repeat (first|exact RAt.head|apply RAt.tail));rfl;rfl)|(apply G.ss;rfl;rfl;(repeat (first|exact RAt.head|apply RAt.tail));rfl;rfl)|(apply J.regQ;exact Tryz.mixed;decide +kernel)|(apply J.regL;exact Tryz.mixed;decide +kernel)|apply J.reg)
 (refine ret1 Tryz.func155 Tryz.results155 ?_;intro w' hw)
 exact ⟨a2,c2,rfl,hw.sl (by exact mm),hp3,hw.below⟩
theorem shr_holds (a:Option Addr) (m c k:Nat) (w:World) (hl:(dgs B32 m).length<=1073741824) (hA:SlAt w a 1 ((dgs B32 m).map lmV)) (h0:0 < k) (hk:k<=31) :
  Calls Tryz.prog 155 #[.slice a (dgs B32 m).length c,.int .i64 (-(k:Int))] w (RetL (m / 2 ^ k) w):=by
 have hp0:0 < 2 ^ k:=Nat.two_pow_pos k
 have hp1:2 ^ k < 4294967296:=Nat.lt_of_le_of_lt (Nat.pow_le_pow_right (by omega) hk) (by decide)
 have hsh:IntKind.u32.wrap ((1:Int)*2 ^ (min k IntKind.u32.bits))=((2 ^ k:Nat):Int):=by
  have e0:min k IntKind.u32.bits=k:=Nat.min_eq_left (show k<=32 by omega)
  have e1:(2:Int) ^ k=((2 ^ k:Nat):Int):=by simp
  rw [e0,Int.one_mul,e1,wrap_u32];omega
 generalize 2 ^ k=p at *
 have hsm:=fun (w':World) (hw:Below w.heap.size w w')=>small_holds a m c p w' hl (hA.below hw) hp0 hp1
 generalize dgs B32 m=x at *
 refine enterA [(0,.slice a x.length c),(1,.int .i64 (-(k:Int)))] Tryz.func155 Tryz.ntmps155 ?_
 repeat' (first|(apply G.shlK (n:=k);rfl;rfl;omega;exact hsh;rfl;rfl;rfl)|(apply G.cN (g:=153) (fun a' c'=>.tuple #[.slice a' (dgs B32 (m / p)).length c',.int .u32 ((m % p:Nat):Int)]) ((dgs B32 (m / p)).map lmV);rfl;rfl;exact fun w' hw=>hsm w' hw.below;intro a2 c2 hp2 hp3)|(apply G.pu;rfl;rfl;first|exact trivial|omega)|(apply J.ct;rfl)|(apply G.nil;rfl)|(apply G.cm;rfl;rfl;all_goals intro h;all_goals try (exfalso;omega))|(apply G.fa;rfl;rfl)|(apply G.ld;rfl;(first|(apply LdV.one;(first|exact CellV.row0 (by assumption) rfl|exact CellV.rowS (by assumption) rfl|exact CellV.rowSS (by assumption) rfl|(apply CellV.blk;exact mm;rfl)))|(apply LdV.aggBlk;exact mm;rfl)|(apply LdV.part;exact mm;rfl;rfl)|(apply LdV.aggRow;assumption;rfl)|(apply LdV.partRow;assumption;rfl;rfl));rfl)|(apply G.sk;rfl)|(apply G.ls;rfl;rfl)|(apply G.ix;rfl;rfl;rfl;omega;rfl)|(apply G.ix;rfl;rfl;(first|exact sub_one _|exact add_one' _);omega;rfl)|(apply G.lt;rfl;rfl)|(apply G.bu;rfl;rfl;rfl)|(apply G.fd;rfl;rfl;rfl)|(apply G.cv;rfl;rfl;rfl;omega)|(apply G.beq;rfl;rfl;rfl)|(apply G.bne;rfl;rfl;rfl)|(apply G.mm;rfl;rfl)|(apply G.mf;rfl;rfl)|(apply G.mx;rfl;rfl;rfl)|(apply G.mn;rfl;rfl;rfl)|(apply G.bx;rfl;rfl;rfl;intro Bk)|(apply G.al;rfl;intro Bk)|(apply G.so;rfl;rfl;(repeat (first|exact RAt.head|apply RAt.tail));rfl;rfl)|(apply G.ss;rfl;rfl;(repeat (first|exact RAt.head|apply RAt.tail));rfl;rfl)|(apply J.regQ;exact Tryz.mixed;decide +kernel)|(apply J.regL;exact Tryz.mixed;decide +kernel)|apply J.reg)
 (refine ret1 Tryz.func155 Tryz.results155 ?_;intro w' hw)
 exact ⟨a2,c2,rfl,hw.sl (by exact mm),hp3,hw.below⟩
theorem clone_holds (p:Addr) (l:List Nat) (c:Nat) (w:World) (hl:l.length<=4294967296) (hA:SlAt w (some p) 1 (l.map lmV)) :
  Calls Tryz.prog 156 #[.slice (some p) l.length c] w (RetO Tryz.prog w 206 1 l.length (flat lmV l) id):=by
 refine enterA [(0,.slice (some p) l.length c)] Tryz.func156 Tryz.ntmps156 ?_
 repeat' first|(refine gp ?_;and_intros<;>first|exact trivial|repeat first|intro(Bk:Nat)|intro h)|(apply G.isNil;rfl;rfl;rfl;all_goals intro h;all_goals try (cases h;done))|(apply G.slice0;rfl;rfl;rfl;intro Bk)|(apply G.ap;rfl;rfl;rfl;(repeat (first|exact RAt.head|apply RAt.tail));exact SrcV.old lmV_len lmV_one hA;exact List.nil_append _;omega;omega;intro v')
 (refine ret1 Tryz.func156 Tryz.results156 ?_;intro w' hw)
 have:=hw.retO (P:=Tryz.prog) (i:=0) rfl id
 rwa [Nat.zero_add] at this
theorem by_lt (a:Option Addr) (m c:Nat) (b:Option Addr) (n d:Nat) (w:World) (hl:(dgs B32 m).length<=1073741824) (hm:(dgs B32 n).length<=1073741824) (hA:SlAt w a 1 ((dgs B32 m).map lmV)) (hB:SlAt w b 1 ((dgs B32 n).map lmV)) (hlt:m < n) :
  Calls Tryz.prog 114 #[.slice a (dgs B32 m).length c,.slice b (dgs B32 n).length d] w fun e w'=>e=.returned (.tuple #[.slice none 0 0,.slice a (dgs B32 m).length c])/\Below w.heap.size w w':=by
 have hcm:=fun (w':World) (hw:Below w.heap.size w w')=>compare_holds a m c b n d w' (by omega) (by omega) (hA.below hw) (hB.below hw)
 rw [cmpI_lt (by omega)] at hcm
 generalize dgs B32 m=x at *
 generalize dgs B32 n=y at *
 refine enterA [(0,.slice a x.length c),(1,.slice b y.length d)] Tryz.func114 Tryz.ntmps114 ?_
 repeat' first|(refine gp ?_;and_intros<;>first|exact trivial|repeat first|intro(Bk:Nat)|intro h)|(apply G.cV (g:=152);rfl;rfl;exact fun w' hw=>hcm w' hw.below)
 all_goals refine ret2b Tryz.func114 Tryz.results114 ?_
 all_goals rfl
def RetLL (q r:Nat) (w:World) (e:Ending) (w':World):Prop :=
 ∃ a1 c1 a2 c2,e=.returned (.tuple #[.slice a1 (dgs B32 q).length c1,.slice a2 (dgs B32 r).length c2])/\SlAt w' a1 1 ((dgs B32 q).map lmV)/\SlAt w' a2 1 ((dgs B32 r).map lmV)/\(∀ p,a1=some p->w.heap.size<=p.block)/\(∀ p,a2=some p->w.heap.size<=p.block)/\Below w.heap.size w w'
theorem sl_blk {w0 w:World}{M:List Row}{E g tot n:Nat}{l:List Nat} (hw:Sat w0 M w) (hm:Row.blk g E (flat lmV l) tot∈M) (ht:trimL l=dgs B32 n):SlAt w (some ⟨g,0,none⟩) 1 ((dgs B32 n).map lmV):=by
 have hs:=SlAt.ofBlk (f:=lmV) (sz:=1) lmV_len hw hm
 have hpre:∀ i,i < (dgs B32 n).length->(dgs B32 n)[i]?=l[i]?:=by
  have:trimL l <+: l:=trimL_pre l
  rw [ht] at this
  obtain ⟨r,hr⟩:=this
  intro i hi
  rw [<- hr,List.getElem?_append_left hi]
 intro h0
 have hlen:(dgs B32 n).length<=l.length:=by rw [<- ht];exact trimL_le l
 simp only [List.length_map] at h0
 obtain ⟨b,off,h1,h2⟩:=hs (by simp only [List.length_map];omega)
 refine ⟨b,off,h1,fun i cs hi=>h2 i cs ?_⟩
 rw [List.getElem?_map] at hi ⊢
 obtain ⟨y,hy,rfl⟩:=Option.map_eq_some_iff.1 hi
 rw [<- hpre i (List.getElem?_eq_some_iff.1 hy).1,hy];rfl
theorem trimD_holds {w0 w:World}{M:List Row}{E g c tot n k:Nat}{l:List Nat} (hw:Sat w0 M w) (hm:Row.blk g E (flat lmV l) tot∈M) (hn:l.length=n) (ht:trimL l=dgs B32 k) (hc:n<=c) (hl:n<=9223372036854775807) :
  Calls Tryz.prog 154 #[.slice (some ⟨g,0,none⟩) n c] w fun e w'=>e=.returned (.slice (some ⟨g,0,none⟩) (dgs B32 k).length c)/\Below w.heap.size w w':=by
 rw [<- ht];exact trimB_holds hw hm hn hc hl
theorem by_one (a:Option Addr) (m c:Nat) (b:Option Addr) (n d:Nat) (w:World) (hl:(dgs B32 m).length<=1073741824) (hA:SlAt w a 1 ((dgs B32 m).map lmV)) (hB:SlAt w b 1 ((dgs B32 n).map lmV)) (hge:n<=m) (h1:(dgs B32 n).length=1) :
  Calls Tryz.prog 114 #[.slice a (dgs B32 m).length c,.slice b (dgs B32 n).length d] w (RetLL (m / n) (m % n) w):=by
 have hcm:=fun (w':World) (hw:Below w.heap.size w w')=>compare_holds a m c b n d w' (by omega) (by omega) (hA.below hw) (hB.below hw)
 have hc0:0<=cmpI m n:=by
  rcases Nat.lt_or_ge n m with h|h
  ·rw [cmpI_gt (by omega)];decide
  ·rw [show m=n by omega,cmpI_eq];decide
 have hn:dgs B32 n=[n]/\0 < n/\n < B32:=by
  have h2:=vL_dgs (b:=B32) (by decide) n
  have h3:=dgs_lt (b:=B32) (by decide) n
  have h4:n≠0:=fun e=>by rw [e,dgs_zero] at h1;cases h1
  match hh:dgs B32 n,h1 with
  | [x],_ =>
   rw [hh] at h2 h3
   have e:x=n:=by simpa [vL] using h2
   subst e
   exact ⟨rfl,by omega,h3 x (.head _)⟩
 obtain ⟨hn1,hn2,hn3⟩:=hn
 have hsm:=fun (w':World) (hw:Below w.heap.size w w')=>small_holds a m c n w' hl (hA.below hw) hn2 hn3
 obtain ⟨bb,ob,rfl,hrow⟩:=lm_at hB (k:=0) (by omega)
 have hg0:(dgs B32 n).getD 0 0=n:=by rw [hn1];rfl
 rw [hg0] at hrow
 rw [h1] at hcm ⊢
 have hr3:m % n < B32:=Nat.lt_trans (Nat.mod_lt _ hn2) hn3
 have ht:trimL [m % n]=dgs B32 (m % n):=by
  rw [trimL_eq (b:=B32) (by decide) [m % n] (fun d hd=>by rw [List.mem_singleton.1 hd];exact hr3)];simp [vL]
 generalize cmpI m n=cc at *
 generalize dgs B32 m=x at *
 refine enterA [(0,.slice a x.length c),(1,.slice (some ⟨bb,ob,none⟩) 1 d)] Tryz.func114 Tryz.ntmps114 ?_
 repeat' first|(refine gp ?_;and_intros<;>first|exact trivial|repeat first|intro(Bk:Nat)|intro h)|(apply G.cV (g:=152);rfl;rfl;exact fun w' hw=>hcm w' hw.below)|(apply G.cN (g:=153) (fun a' c'=>.tuple #[.slice a' (dgs B32 (m / n)).length c',.int .u32 ((m % n:Nat):Int)]) ((dgs B32 (m / n)).map lmV);rfl;rfl;exact fun w' hw=>hsm w' hw.below;intro a2 c2 hp2 hp3)|(apply G.sliceL;rfl;rfl;rfl;rfl;rfl;rfl;rfl;rfl;intro Bs)|(apply G.cV (g:=154);rfl;rfl;exact fun w' hw=>trimD_holds (l:=[m % n]) hw (by exact mm) rfl ht (by decide) (by decide))|(apply G.ix (i:=0);rfl;rfl;rfl;omega;rfl)
 (refine ret2 Tryz.func114 Tryz.results114 ?_;intro w' hw)
 exact ⟨a2,c2,some ⟨Bs,0,none⟩,1,rfl,hw.sl (by exact mm),sl_blk (l:=[m % n]) hw (.head _) ht,hp3,fun p hp=>by cases hp;exact ((hw.old _ (.head _)).2 Bs rfl).1,hw.below⟩
theorem dgs_top {b:Nat} (hb:2<=b) {n:Nat} (hn:n≠0):(dgs b n).getD ((dgs b n).length-1) 0≠0:=by
 intro h
 have h0:(dgs b n).length≠0:=by rw [dgs_pos hb hn];simp
 have h1:=vL_take_succ b (dgs b n) ((dgs b n).length-1)
 rw [h,Nat.mul_zero,Nat.add_zero,List.take_of_length_le (by omega),vL_dgs hb] at h1
 have h2:=vL_lt (b:=b) (by omega) ((dgs b n).take ((dgs b n).length-1)) fun d hd=>dgs_lt hb n d (List.mem_of_mem_take hd)
 rw [List.length_take,Nat.min_eq_left (by omega)] at h2
 have:=dgs_least hb n hn
 omega
theorem lm_sl {C:Ctx}{M:List Row}{N b off i:Nat}{l:List Nat} (hm:slRow N (some ⟨b,off,none⟩) 1 (l.map lmV)∈M) (hi:i < l.length):CellV C M ⟨b,off+i*1,none⟩ (.int .u32 ((l.getD i 0:Nat):Int)):=by
 refine CellV.sl0 hm hi ?_
 rw [List.getD_eq_getElem?_getD,List.getElem?_eq_getElem hi];rfl
theorem lm_slE {C:Ctx}{M:List Row}{N b off i d:Nat}{l:List Nat} (hm:slRow N (some ⟨b,off,none⟩) 1 (l.map lmV)∈M) (hi:i < l.length) (he:l.getD i 0=d):CellV C M ⟨b,off+i*1,none⟩ (.int .u32 (d:Int)):=by
 subst he;exact lm_sl hm hi
theorem flat_lm (l:List Nat):flat lmV l=l.map fun d:Nat=>Value.int .u32 (d:Int):=by
 induction l with
 | nil=>rfl
 | cons x r ih=>rw [flat_cons,ih];rfl
theorem put_lm {rho:List Nat}{i n:Nat}{d:List Nat} (hd:d.length<=n+1) (hl:i+n+1<=rho.length):setL (setL (flat lmV rho) i (List.replicate (n+1) (.int .u32 0))) i (flat lmV d)=flat lmV (putL rho i n d):=by
 rw [setL_eq (List.replicate (n+1) _) _ _ (by simp [flat_lm];omega),setL_eq _ _ _ (by simp [flat_lm];omega)]
 simp only [flat_lm,putL,List.map_append,List.map_take,List.map_drop,List.map_replicate,List.length_replicate,List.length_map]
 have e1:List.take i (List.take i (rho.map fun d:Nat=>Value.int .u32 (d:Int))++List.replicate (n+1) (Value.int .u32 0)++List.drop (i+(n+1)) (rho.map fun d:Nat=>Value.int .u32 (d:Int)))=List.take i (rho.map fun d:Nat=>Value.int .u32 (d:Int)):=by
  rw [List.append_assoc,List.take_append_of_le_length (by simp;omega),List.take_take,Nat.min_self]
 have e2:List.drop (i+d.length) (List.take i (rho.map fun d:Nat=>Value.int .u32 (d:Int))++List.replicate (n+1) (Value.int .u32 0)++List.drop (i+(n+1)) (rho.map fun d:Nat=>Value.int .u32 (d:Int)))=List.replicate (n+1-d.length) (Value.int .u32 0)++List.drop (i+(n+1)) (rho.map fun d:Nat=>Value.int .u32 (d:Int)):=by
  rw [List.append_assoc,List.drop_append,List.length_take,List.length_map,Nat.min_eq_left (by omega),List.drop_of_length_le (by simp;omega),List.nil_append,show i+d.length-i=d.length by omega,List.drop_append_of_le_length (by simp;omega),List.drop_replicate]
 rw [e1,e2]
 simp only [List.append_assoc]
 rfl
structure DI (V M' nV L ql:Nat) (s:Nat×Int×List Nat×List Nat):Prop where
 a1:s.1+nV<=L
 a2:s.2.1=(s.1:Int)-1
 a3:s.2.2.1.length=L
 a4:∀ d∈s.2.2.1,d < B32
 a5:vL B32 (s.2.2.1.drop s.1) < V
 a6:s.1+nV=L->s.2.2.1.getD (L-1) 0=0/\s.2.2.1.getD (L-2) 0=0
 a7:s.2.2.2.length=ql
 a8:∀ d∈s.2.2.2,d < B32
 a9:∀ t,t < s.1->s.2.2.2.getD t 0=0
 a10:vL B32 s.2.2.1+V*vL B32 s.2.2.2=M'
theorem mulK_n {a b:Nat} (h:a*b < 18446744073709551616):IntKind.u64.wrap ((a:Int)*(b:Int))=((a*b:Nat):Int):=by
 rw [wrap_u64,<- Int.natCast_mul];omega
theorem subK_n {a b:Nat} (h:b<=a) (ha:a < 18446744073709551616):IntKind.u64.wrap ((a:Int)-(b:Int))=((a-b:Nat):Int):=by
 rw [wrap_u64];omega
theorem shl32 {a:Nat} (h:a < 4294967296):IntKind.u64.wrap ((a:Int)*2 ^ (min 32 IntKind.u64.bits))=((a*4294967296:Nat):Int):=by
 have e0:(2:Int) ^ (min 32 IntKind.u64.bits)=4294967296:=rfl
 rw [e0,wrap_u64];omega
theorem quo_n {a b:Nat} (h:a < 18446744073709551616):IntKind.u64.wrap ((a:Int).tdiv (b:Int))=((a / b:Nat):Int):=by
 have h2:=Nat.div_le_self a b
 rw [Int.tdiv_eq_ediv_of_nonneg (by omega),<- Int.natCast_ediv,wrap_u64]
 generalize a / b=q at *
 omega
theorem di_start {V M' lx:Nat} (hV:2<=(dgs B32 V).length) (hle:V<=M') (hlx:(dgs B32 M').length<=lx+1) :
  DI V M' (dgs B32 V).length ((dgs B32 M').length+2) (lx+2-(dgs B32 V).length) ((dgs B32 M').length+2-(dgs B32 V).length,(((dgs B32 M').length+2:Nat):Int)-(dgs B32 V).length-1,dgs B32 M'++[0,0],List.replicate (lx+2-(dgs B32 V).length) 0):=by
 have hb:2<=B32:=by decide
 have hV0:V≠0:=fun e=>by rw [e,dgs_zero] at hV;exact absurd hV (by decide)
 have h1:=dgs_len_mono hb hle
 have h2:=dgs_least hb V hV0
 have h3:=dgs_lt hb M'
 have h4:=vL_dgs hb M'
 generalize dgs B32 M'=x at *
 generalize hn:(dgs B32 V).length=nV at *
 have hd:(x++[0,0]).drop (x.length+2-nV)=x.drop (x.length+2-nV)++[0,0]:=by
  rw [List.drop_append_of_le_length (by omega)]
 refine ⟨by dsimp only;omega,by dsimp only;omega,by simp,?_,?_,?_,by simp,?_,?_,?_⟩
 ·intro d hd
  rcases List.mem_append.1 hd with h|h
  ·exact h3 d h
  ·have:d=0:=by simpa using h
   rw [this];decide
 ·dsimp only
  rw [hd,vL_append]
  have h5:=vL_lt (b:=B32) (by decide) (x.drop (x.length+2-nV)) fun d hd=>h3 d (List.mem_of_mem_drop hd)
  rw [List.length_drop] at h5
  have h6:B32 ^ (x.length-(x.length+2-nV))<=B32 ^ (nV-1):=Nat.pow_le_pow_right (by decide) (by omega)
  have h7:vL B32 [0,0]=0:=rfl
  rw [h7,Nat.mul_zero,Nat.add_zero]
  exact Nat.lt_of_lt_of_le h5 (Nat.le_trans h6 h2)
 ·intro _
  dsimp only
  simp only [List.getD_eq_getElem?_getD]
  rw [List.getElem?_append_right (by omega),List.getElem?_append_right (by omega)]
  simp
 ·intro d hd
  rw [List.eq_of_mem_replicate hd];decide
 ·intro t _
  simp only [List.getD_eq_getElem?_getD,List.getElem?_replicate]
  split<;>rfl
 ·dsimp only
  rw [vL_append,vL_zero,h4]
  have h7:vL B32 [0,0]=0:=rfl
  rw [h7];simp
theorem di_kn {V M' L ql nV j:Nat}{z:Int}{rho Q v:List Nat} (h:DI V M' nV L ql (j+1,z,rho,Q)) (hv:vL B32 v=V) (hvl:v.length=nV) (hvd:∀ d∈v,d < B32) (hn:2<=nV):Kn B32 V v rho j nV :=
 ⟨by decide,hv,hvl,hvd,hn,h.a4,by have:=h.a1;have:=h.a3;dsimp only at *;omega,h.a5⟩
theorem di_skip {V M' L ql nV j:Nat}{z:Int}{rho Q v:List Nat} (h:DI V M' nV L ql (j+1,z,rho,Q)) (kn:Kn B32 V v rho j nV) (hq:vL B32 (rho.drop j) / V=0):DI V M' nV L ql (j,(j:Int)-1,rho,Q):=by
 have h1:=h.a1
 refine ⟨by dsimp only at *;omega,rfl,h.a3,h.a4,?_,fun e=>?_,h.a7,h.a8,fun t ht=>h.a9 t (by dsimp only at *;omega),h.a10⟩
 ·exact Nat.lt_of_div_eq_zero kn.vpos hq
 ·dsimp only at *;omega
theorem di_next {V M' L ql nV j g:Nat}{z:Int}{rho Q v d:List Nat} (h:DI V M' nV L ql (j+1,z,rho,Q)) (kn:Kn B32 V v rho j nV) (hq:g=vL B32 (rho.drop j) / V) (hj:j < ql) (hd:∀ x∈d,x < B32) (hdl:d.length<=nV+1) (hdv:vL B32 d=vL B32 (rho.drop j)-g*V) :
  DI V M' nV L ql (j,(j:Int)-1,putL rho j nV d,Q.set j g):=by
 obtain ⟨p1,p2,p3,p4⟩:=kn.put hq hd hdl hdv
 have h1:=h.a1
 have h7:=h.a7
 have hg:g < B32:=by rw [hq];exact kn.qlt
 have h9:=h.a9 j (by dsimp only;omega)
 dsimp only at h1 h7 h9
 refine ⟨by dsimp only;omega,rfl,p1.trans h.a3,p2,p3,fun e=>by dsimp only at e;omega,by simpa using h7,set_lt h.a8 hg,fun t ht=>?_,?_⟩
 ·dsimp only at ht
  have h10:=h.a9 t (by dsimp only;omega)
  dsimp only at h10 ⊢
  rw [List.getD_eq_getElem?_getD,List.getElem?_set_ne (by omega),<- List.getD_eq_getElem?_getD]
  exact h10
 ·have h10:=h.a10
  have h11:=vL_set B32 Q j g (by omega)
  dsimp only at h10 ⊢
  rw [h9,Nat.mul_zero,Nat.add_zero] at h11
  rw [h11,Nat.mul_add,<- h10,<- p4,Nat.mul_left_comm V,Nat.mul_comm V g]
  omega
set_option maxHeartbeats 4000000 in
theorem by_ge (a:Option Addr) (m c:Nat) (b:Option Addr) (n d:Nat) (w:World) (hl:(dgs B32 m).length<=268435456) (hA:SlAt w a 1 ((dgs B32 m).map lmV)) (hB:SlAt w b 1 ((dgs B32 n).map lmV)) (hge:n<=m) (h2:2<=(dgs B32 n).length) :
  Calls Tryz.prog 114 #[.slice a (dgs B32 m).length c,.slice b (dgs B32 n).length d] w (RetLL (m / n) (m % n) w):=by
 have hlm:=dgs_len_mono (b:=B32) (by decide) hge
 have hn0:n≠0:=fun e=>by rw [e,dgs_zero] at h2;exact absurd h2 (by decide)
 have hcm:=fun (w':World) (hw:Below w.heap.size w w')=>compare_holds a m c b n d w' (by omega) (by omega) (hA.below hw) (hB.below hw)
 have hc0:0<=cmpI m n:=by
  rcases Nat.lt_or_ge n m with h|h
  ·rw [cmpI_gt (by omega)];decide
  ·rw [show m=n by omega,cmpI_eq];decide
 generalize cmpI m n=cc at *
 have htop:=dgs_top (b:=B32) (by decide) hn0
 have hyd:=dgs_lt (b:=B32) (by decide) n
 have hxv:=vL_dgs (b:=B32) (by decide) m
 have hxd:=vL_lt (b:=B32) (by decide) (dgs B32 m) (dgs_lt (by decide) m)
 rw [hxv] at hxd
 have hshX:=fun (k:Nat) (w':World) (hw:Below w.heap.size w w') (hk:k<=31)=>shl_holds a m c k w' (by omega) (hA.below hw) hk
 have hshY:=fun (k:Nat) (w':World) (hw:Below w.heap.size w w') (hk:k<=31)=>shl_holds b n d k w' (by omega) (hB.below hw) hk
 have hlenV:∀ k,(dgs B32 n).length<=(dgs B32 (n*2 ^ k)).length:=fun k=>dgs_len_mono (by decide) (by have:=Nat.mul_le_mul_left n (Nat.two_pow_pos k);omega)
 generalize dgs B32 m=x at *
 generalize dgs B32 n=y at *
 obtain ⟨bb,ob,rfl,hrow⟩:=lm_at hB (k:=y.length-1) (by omega)
 have ht:=getD_lt (b:=B32) (by decide) hyd (y.length-1)
 generalize y.getD (y.length-1) 0=t at *
 refine enterA [(0,.slice a x.length c),(1,.slice (some ⟨bb,ob,none⟩) y.length d)] Tryz.func114 Tryz.ntmps114 ?_
 repeat' first|(refine gp ?_;and_intros<;>first|exact trivial|repeat first|intro(Bk:Nat)|intro h)|(apply G.cV (g:=152);rfl;rfl;exact fun w' hw=>hcm w' hw.below)
 clear hcm hc0
 refine J.loop (c:=_) (0:Nat) (fun s=>32-s) (fun s=>[(0,.slice a x.length c),(1,.slice (some ⟨bb,ob,none⟩) y.length d),(8,.int .i64 s)]) (fun s=>[]) (fun s=>s<=31/\t*2 ^ s < 4294967296) ?_ sbT sbL ?_
 ·exact ⟨Nat.zero_le _,by rw [Nat.pow_zero,Nat.mul_one];exact ht⟩
 intro k ⟨hk,htk⟩ ih
 have hsh:IntKind.u32.wrap ((t:Int)*2 ^ (min k IntKind.u32.bits))=((t*2 ^ k:Nat):Int):=by
  have e0:min k IntKind.u32.bits=k:=Nat.min_eq_left (show k<=32 by omega)
  have e1:(t:Int)*(2:Int) ^ k=((t*2 ^ k:Nat):Int):=by simp
  rw [e0,e1,wrap_u32];omega
 by_cases hgo:t*2 ^ k < 2147483648
 ·have hk1:k+1<=31:=by
   rcases Nat.lt_or_ge k 31 with h|h
   ·omega
   ·have:k=31:=by omega
    subst this
    omega
  repeat' first|(refine gp ?_;and_intros<;>first|exact trivial|repeat first|intro(Bk:Nat)|intro h)|(apply G.ix (i:=y.length-1);rfl;rfl;omega;omega;rfl)|(apply G.shlK (n:=k);rfl;rfl;rfl;exact hsh;rfl;rfl;rfl)
  exact J.fin (ih (k+1) ⟨hk1,by rw [Nat.pow_succ,<- Nat.mul_assoc];omega⟩ (by omega))
 have hV2:=hlenV k
 have hshX:=hshX k
 have hshY:=hshY k
 have hle:n*2 ^ k<=m*2 ^ k:=Nat.mul_le_mul_right _ hge
 have hM1:(dgs B32 (m*2 ^ k)).length<=x.length+1:=by
  refine dgs_bound (by decide) _ _ ?_
  rw [Nat.pow_succ]
  have:2 ^ k < B32:=Nat.lt_of_le_of_lt (Nat.pow_le_pow_right (by omega) hk) (by decide)
  exact Nat.mul_lt_mul'' hxd this
 have hst:=di_start (V:=n*2 ^ k) (M':=m*2 ^ k) (lx:=x.length) (by omega) hle hM1
 have hVM:=dgs_len_mono (b:=B32) (by decide) hle
 have hvv:=vL_dgs (b:=B32) (by decide) (n*2 ^ k)
 have hvd:=dgs_lt (b:=B32) (by decide) (n*2 ^ k)
 have hvt:=dgs_top (b:=B32) (by decide) (n:=n*2 ^ k) (fun e=>by rw [e,dgs_zero,List.length_nil] at hV2;omega)
 have hkq:∀ N,N*2 ^ k / 2 ^ k=N:=fun N=>Nat.mul_div_cancel _ (Nat.two_pow_pos k)
 have hdiv:m*2 ^ k / (n*2 ^ k)=m / n:=Nat.mul_div_mul_right _ _ (Nat.two_pow_pos k)
 have hmod:m*2 ^ k % (n*2 ^ k)=m % n*2 ^ k:=Nat.mul_mod_mul_right _ _ _
 generalize hVV:n*2 ^ k=V at *
 generalize hMM:m*2 ^ k=M' at *
 have tmV:∀ (w':World) (a3:Option Addr) (c3 p gg:Nat),SlAt w' a3 1 ((dgs B32 V).map lmV)->SlAt w' (some ⟨p,0,none⟩) 1 ([gg].map lmV)->0 < gg->gg < B32->Calls Tryz.prog 157 #[.slice a3 (dgs B32 V).length c3,.slice (some ⟨p,0,none⟩) 1 1] w' (RetL (V*gg) w'):=by
  intro w' a3 c3 p gg h3 h4 h5 h6
  have h7:=times_holds a3 V c3 (some ⟨p,0,none⟩) gg 1 w' (by omega) (by rw [dgs_one h5 h6];simp) h3 (by rw [dgs_one h5 h6];exact h4)
  rwa [dgs_one h5 h6] at h7
 have mnV:∀ (w':World) (ap:Option Addr) (cp:Nat) (a3:Option Addr) (c3 gg:Nat),SlAt w' ap 1 ((dgs B32 (V*gg)).map lmV)->SlAt w' a3 1 ((dgs B32 V).map lmV)->0 < gg->(dgs B32 (V*gg)).length<=1073741824->Calls Tryz.prog 158 #[.slice ap (dgs B32 (V*gg)).length cp,.slice a3 (dgs B32 V).length c3] w' (RetL (V*(gg-1)) w'):=by
  intro w' ap cp a3 c3 gg h3 h4 h5 h6
  have e:V*(gg-1)=V*gg-V:=by rw [Nat.mul_sub,Nat.mul_one]
  rw [e]
  exact minus_holds ap (V*gg) cp a3 V c3 w' h6 (by omega) h3 h4 (by have:=Nat.mul_le_mul_left V h5;omega)
 have hVB:V < B32 ^ (dgs B32 V).length:=by
  have:=vL_lt (b:=B32) (by decide) (dgs B32 V) hvd
  rwa [hvv] at this
 have hshX:∀ w':World,Below w.heap.size w w'->Calls Tryz.prog 155 #[.slice a x.length c,.int .i64 k] w' (fun e w2=>∃ a' c',e=.returned (.slice a' (dgs B32 M').length c')/\SlAt w2 a' 1 ((dgs B32 M').map lmV)/\(∀ p,a'=some p->w'.heap.size<=p.block)/\Below w'.heap.size w' w2):=fun w' hw=>hshX w' hw hk
 have hshY:∀ w':World,Below w.heap.size w w'->Calls Tryz.prog 155 #[.slice (some ⟨bb,ob,none⟩) y.length d,.int .i64 k] w' (fun e w2=>∃ a' c',e=.returned (.slice a' (dgs B32 V).length c')/\SlAt w2 a' 1 ((dgs B32 V).map lmV)/\(∀ p,a'=some p->w'.heap.size<=p.block)/\Below w'.heap.size w' w2):=fun w' hw=>hshY w' hw hk
 generalize hv:dgs B32 V=v at *
 generalize hx':dgs B32 M'=x' at *
 have hx'0:0 < x'.length:=by omega
 repeat' first|(refine gp ?_;and_intros<;>first|exact trivial|repeat first|intro(Bk:Nat)|intro h)|(apply G.ix (i:=y.length-1);rfl;rfl;omega;omega;rfl)|(apply G.shlK (n:=k);rfl;rfl;rfl;exact hsh;rfl;rfl;rfl)|(apply G.cN (g:=155) (vs:=[.slice (some ⟨bb,ob,none⟩) y.length d,.int .i64 k]) (fun a' c'=>.slice a' v.length c') (v.map lmV);rfl;rfl;exact fun w' hw=>hshY w' hw.below;intro a3 c3 hp3 hq3)|(apply G.cN (g:=155) (vs:=[.slice a x.length c,.int .i64 k]) (fun a' c'=>.slice a' x'.length c') (x'.map lmV);rfl;rfl;exact fun w' hw=>hshX w' hw.below;intro a4 c4 hp4 hq4)
 obtain ⟨b4,o4,rfl⟩:=hp4 (by rw [List.length_map];exact hx'0)
 obtain ⟨b3,o3,rfl⟩:=hp3 (by rw [List.length_map];omega)
 repeat' first|(refine gp ?_;and_intros<;>first|exact trivial|repeat first|intro(Bk:Nat)|intro h)|(apply G.cO (g:=156) id;rfl;rfl;exact fun w' hw=>clone_holds _ x' c4 w' (by omega) (hw.sl (by exact mm));intro u)|(apply G.sliceL;rfl;rfl;rfl;rfl;rfl;rfl;rfl;rfl;intro Bs)|(apply G.apO;rfl;rfl;rfl;(repeat (first|exact RAt.head|apply RAt.tail));exact SrcV.blk (by exact mm) rfl rfl;exact (flat_append lmV x' [0,0]).symm;omega;omega;omega;intro rg rc hrc)|(apply G.make (n:=x.length+2-v.length) [.int .u32 0];rfl;rfl;rfl;rfl;rfl;omega;omega;rfl;omega;omega;intro Qk;rw [zero_lm])
 clear hshX hshY hlenV hA hrow hp3 hp4 hq4
 generalize hnV:v.length=nV at *
 generalize hL:x'.length+2=L at *
 generalize hql:x.length+2-nV=ql at *
 have hw0:∀ {M:List Row}{w':World},Sat w M w'->Sat w M w':=fun h=>h
 refine J.loop (c:=_) ((L-nV,(L:Int)-nV-1,x'++[0,0],List.replicate ql 0):Nat×Int×List Nat×List Nat) (fun s=>s.1) (fun s=>[(8,.int .i64 k),(9,.slice (some ⟨b3,o3,none⟩) nV c3),(10,.slice (some ⟨rg,0,none⟩) L rc),(11,.int .i64 nV),(12,.slice (some ⟨Qk,0,none⟩) ql ql),(13,.int .i64 s.2.1)]) (fun s=>[.blk Qk 206 (flat lmV s.2.2.2) (ql*1),.blk rg 206 (flat lmV s.2.2.1) (rc*1),slRow w.heap.size (some ⟨b3,o3,none⟩) 1 (v.map lmV)]) (fun s=>DI V M' nV L ql s) ?_ sbT sbL ?_
 ·exact hst
 intro ⟨i,z,rho,Q⟩ hdi ih
 rcases Nat.eq_zero_or_pos i with rfl|hi0
 ·have d5:=hdi.a5
  have d10:=hdi.a10
  have d2:=hdi.a2
  have d3:=hdi.a3
  have d7:=hdi.a7
  dsimp only at d2 d3 d5 d7 d10 ⊢
  rw [List.drop_zero] at d5
  have hqv:vL B32 Q=m / n:=by
   rw [<- hdiv,<- d10,Nat.add_mul_div_left _ _ (by omega),Nat.div_eq_of_lt d5,Nat.zero_add]
  have hrv:vL B32 rho=m % n*2 ^ k:=by
   rw [<- hmod,<- d10,Nat.add_mul_mod_self_left,Nat.mod_eq_of_lt d5]
  have tQ:trimL Q=dgs B32 (m / n):=by rw [trimL_eq (by decide) Q hdi.a8,hqv]
  have tR:trimL rho=dgs B32 (m % n*2 ^ k):=by rw [trimL_eq (by decide) rho hdi.a4,hrv]
  have lR:(dgs B32 (m % n*2 ^ k)).length<=L:=by rw [<- tR,<- d3];exact trimL_le rho
  have hsh:∀ (w':World) (a1:Option Addr) (c1:Nat),SlAt w' a1 1 ((dgs B32 (m % n*2 ^ k)).map lmV)->Calls Tryz.prog 155 #[.slice a1 (dgs B32 (m % n*2 ^ k)).length c1,.int .i64 (-(k:Int))] w' (RetL (m % n) w'):=by
   intro w' a1 c1 h
   rcases Nat.eq_zero_or_pos k with rfl|hk0
   ·have:=shl_holds a1 (m % n*2 ^ 0) c1 0 w' (by omega) h (by decide)
    rwa [show m % n*2 ^ 0*2 ^ 0=m % n by simp] at this
   ·have:=shr_holds a1 (m % n*2 ^ k) c1 k w' (by omega) h hk0 hk
    rwa [hkq] at this
  repeat' first|(refine gp ?_;and_intros<;>first|exact trivial|repeat first|intro(Bk:Nat)|intro h)|(apply G.cV (g:=154) (vs:=[.slice (some ⟨Qk,0,none⟩) ql ql]);rfl;rfl;exact fun w' hw=>trimD_holds (l:=Q) hw (by exact mm) d7 tQ (by omega) (by omega))|(apply G.cV (g:=154) (vs:=[.slice (some ⟨rg,0,none⟩) L rc]);rfl;rfl;exact fun w' hw=>trimD_holds (l:=rho) hw (by exact mm) d3 tR (by omega) (by omega))|(apply G.cN (g:=155) (fun a' c'=>.slice a' (dgs B32 (m % n)).length c') ((dgs B32 (m % n)).map lmV);rfl;rfl;exact fun w' hw=>hsh w' _ _ (sl_blk hw (by exact mm) tR);intro a5 c5 hp5 hq5)
  (refine ret2 Tryz.func114 Tryz.results114 ?_;intro w' hw)
  exact ⟨_,_,a5,c5,rfl,sl_blk hw (by exact mm) tQ,hw.sl (by exact mm),fun p hp=>by cases hp;exact ((hw.old (.blk Qk 206 (flat lmV Q) (ql*1)) (by exact mm)).2 Qk rfl).1,hq5,hw.below⟩
 obtain ⟨j,rfl⟩:∃ j,i=j+1:=⟨i-1,by omega⟩
 have hz:z=(j:Int):=by have:=hdi.a2;dsimp only at this;omega
 subst hz
 have kn:=di_kn hdi hvv hnV hvd (by omega)
 have hj1:=hdi.a1
 have hrl:=hdi.a3
 have hQl:=hdi.a7
 have htop0:=hdi.a6
 dsimp only at hj1 hrl hQl htop0 ⊢
 have hrd:=fun i=>getD_lt (b:=4294967296) (by decide) (x:=rho) hdi.a4 i
 have hvdd:=fun i=>getD_lt (b:=4294967296) (by decide) (x:=v) hvd i
 have g0:=lm_get (p:=rho) (j:=j+nV) (by omega)
 have g1:=lm_get (p:=rho) (j:=j+nV-1) (by omega)
 have g2:=lm_get (p:=rho) (j:=j+nV-2) (by omega)
 have hguess:=kn.guess
 have hqlt:=kn.qlt
 have hsec:=fun l g=>kn.second (l:=l) (g:=g)
 have f0:=hrd (j+nV)
 have f1:=hrd (j+nV-1)
 have f2:=hrd (j+nV-2)
 have f3:=hvdd (nV-1)
 have f4:=hvdd (nV-2)
 have hvt0:v.getD (nV-1) 0≠0:=hvt
 generalize hr0:rho.getD (j+nV) 0=r0 at *
 generalize hr1:rho.getD (j+nV-1) 0=r1 at *
 generalize hr2:rho.getD (j+nV-2) 0=r2 at *
 generalize hvt1:v.getD (nV-1) 0=vt at *
 generalize hvu1:v.getD (nV-2) 0=vu at *
 generalize hq:vL B32 (rho.drop j) / V=q at *
 have or1:=or32 f1 f0
 obtain ⟨T,hT⟩:∃ T,T=r0*4294967296+r1:=⟨_,rfl⟩
 rw [<- hT] at or1
 have hTb:T < 18446744073709551616:=by omega
 have hdq:=quo_n (b:=vt) hTb
 have hguess2:q<=T / vt:=(Nat.le_div_iff_mul_le (by omega)).2 (by rw [hT];exact hguess)
 have hdm:T / vt*vt<=T:=Nat.div_mul_le_self _ _
 generalize T / vt=q0 at *
 have hmin:min (q0:Int) 4294967295=((min q0 4294967295:Nat):Int):=by omega
 have hg0q:q<=min q0 4294967295:=by
  have:q < 4294967296:=hqlt
  omega
 have hg0m:min q0 4294967295*vt<=T:=Nat.le_trans (Nat.mul_le_mul_right _ (Nat.min_le_left _ _)) hdm
 have hg0b:min q0 4294967295<=4294967295:=Nat.min_le_right _ _
 generalize min q0 4294967295=gs at *
 have hm1:=mulK_n (a:=gs) (b:=vt) (by omega)
 have hs1:=subK_n hg0m hTb
 have hvt2:(vt:Int)≠0:=by omega
 repeat' (first|(apply G.ix (i:=j+nV);rfl;rfl;omega;omega;rfl)|(apply G.ix (i:=j+nV-1);rfl;rfl;omega;omega;rfl)|(apply G.ix (i:=nV-1);rfl;rfl;omega;omega;rfl)|(apply G.ld;rfl;(apply LdV.one;(first|exact CellV.blk (by exact mm) g0|exact CellV.blk (by exact mm) g1|exact lm_slE (by exact mm) (by omega) hvt1));rfl)|(apply G.shlK (n:=32);rfl;rfl;rfl;exact shl32 f0;rfl;rfl;rfl)|(apply G.orK;rfl;rfl;exact or1;rfl;rfl;rfl)|(apply G.quoK;rfl;rfl;exact hvt2;exact hdq;rfl;rfl;rfl)|(apply G.mnE;rfl;rfl;exact hmin;rfl)|(apply G.mulK;rfl;rfl;exact hm1;rfl;rfl;rfl)|(apply G.subK;rfl;rfl;exact hs1;rfl;rfl;rfl)|(apply G.pu;rfl;rfl;first|exact trivial|omega)|(apply J.ct;rfl)|(apply G.nil;rfl)|(apply G.cm;rfl;rfl;all_goals intro h;all_goals try (exfalso;omega))|(apply G.fa;rfl;rfl)|(apply G.ld;rfl;(first|(apply LdV.one;(first|exact CellV.row0 (by assumption) rfl|exact CellV.rowS (by assumption) rfl|exact CellV.rowSS (by assumption) rfl|(apply CellV.blk;exact mm;rfl)))|(apply LdV.aggBlk;exact mm;rfl)|(apply LdV.part;exact mm;rfl;rfl)|(apply LdV.aggRow;assumption;rfl)|(apply LdV.partRow;assumption;rfl;rfl));rfl)|(apply G.sk;rfl)|(apply G.ls;rfl;rfl)|(apply G.ix;rfl;rfl;rfl;omega;rfl)|(apply G.ix;rfl;rfl;(first|exact sub_one _|exact add_one' _);omega;rfl)|(apply G.lt;rfl;rfl)|(apply G.bu;rfl;rfl;rfl)|(apply G.fd;rfl;rfl;rfl)|(apply G.cv;rfl;rfl;rfl;omega)|(apply G.beq;rfl;rfl;rfl)|(apply G.bne;rfl;rfl;rfl)|(apply G.mm;rfl;rfl)|(apply G.mf;rfl;rfl)|(apply G.mx;rfl;rfl;rfl)|(apply G.mn;rfl;rfl;rfl)|(apply G.bx;rfl;rfl;rfl;intro Bk)|(apply G.al;rfl;intro Bk)|(apply G.so;rfl;rfl;(repeat (first|exact RAt.head|apply RAt.tail));rfl;rfl)|(apply G.ss;rfl;rfl;(repeat (first|exact RAt.head|apply RAt.tail));rfl;rfl)|(apply J.regQ;exact Tryz.mixed;decide +kernel)|(apply J.regL;exact Tryz.mixed;decide +kernel)|apply J.reg)
 refine J.loop (c:=_) ((gs,T-gs*vt):Nat×Nat) (fun s=>s.1) (fun s=>[(8,.int .i64 k),(9,.slice (some ⟨b3,o3,none⟩) nV c3),(10,.slice (some ⟨rg,0,none⟩) L rc),(11,.int .i64 nV),(12,.slice (some ⟨Qk,0,none⟩) ql ql),(13,.int .i64 j),(15,.int .u64 s.1),(16,.int .u64 s.2)]) (fun s=>[.blk Qk 206 (flat lmV Q) (ql*1),.blk rg 206 (flat lmV rho) (rc*1),slRow w.heap.size (some ⟨b3,o3,none⟩) 1 (v.map lmV)]) (fun s=>q<=s.1/\s.1<=4294967295/\s.2+s.1*vt=T) ?_ sbT sbL ?_
 ·exact ⟨hg0q,hg0b,by dsimp only;omega⟩
 clear hm1 hs1 hg0q hg0m hg0b hdm hguess2 hdq or1
 intro ⟨g,l⟩ ⟨k1,k2,k3⟩ ih2
 dsimp only at k1 k2 k3 ⊢
 have hgu:g*vu < 18446744073709551616:=by
  have:g*vu<=4294967295*4294967295:=Nat.mul_le_mul k2 (by omega)
  omega
 have hm2:=mulK_n hgu
 have hsec2:l*4294967296+r2 < g*vu->q < g:=fun h=>hsec l g (by rw [hT] at k3;exact k3) h
 generalize g*vu=gu at *
 by_cases hgo:l < 4294967296/\l*4294967296+r2 < gu
 ·obtain ⟨hl32,hgt⟩:=hgo
  have hqg:=hsec2 hgt
  have hs2:=subK_n (a:=g) (b:=1) (by omega) (by omega)
  have or2:=or32 f2 hl32
  repeat' (first|(apply G.ix (i:=j+nV-2);rfl;rfl;omega;omega;rfl)|(apply G.ix (i:=nV-1);rfl;rfl;omega;omega;rfl)|(apply G.ix (i:=nV-2);rfl;rfl;omega;omega;rfl)|(apply G.ld;rfl;(apply LdV.one;(first|exact CellV.blk (by exact mm) g2|exact lm_slE (by exact mm) (by omega) hvt1|exact lm_slE (by exact mm) (by omega) hvu1));rfl)|(apply G.shlK (n:=32);rfl;rfl;rfl;exact shl32 hl32;rfl;rfl;rfl)|(apply G.orK;rfl;rfl;exact or2;rfl;rfl;rfl)|(apply G.mulK;rfl;rfl;exact hm2;rfl;rfl;rfl)|(apply G.subK;rfl;rfl;exact hs2;rfl;rfl;rfl)|(apply G.pu;rfl;rfl;first|exact trivial|omega)|(apply J.ct;rfl)|(apply G.nil;rfl)|(apply G.cm;rfl;rfl;all_goals intro h;all_goals try (exfalso;omega))|(apply G.fa;rfl;rfl)|(apply G.ld;rfl;(first|(apply LdV.one;(first|exact CellV.row0 (by assumption) rfl|exact CellV.rowS (by assumption) rfl|exact CellV.rowSS (by assumption) rfl|(apply CellV.blk;exact mm;rfl)))|(apply LdV.aggBlk;exact mm;rfl)|(apply LdV.part;exact mm;rfl;rfl)|(apply LdV.aggRow;assumption;rfl)|(apply LdV.partRow;assumption;rfl;rfl));rfl)|(apply G.sk;rfl)|(apply G.ls;rfl;rfl)|(apply G.ix;rfl;rfl;rfl;omega;rfl)|(apply G.ix;rfl;rfl;(first|exact sub_one _|exact add_one' _);omega;rfl)|(apply G.lt;rfl;rfl)|(apply G.bu;rfl;rfl;rfl)|(apply G.fd;rfl;rfl;rfl)|(apply G.cv;rfl;rfl;rfl;omega)|(apply G.beq;rfl;rfl;rfl)|(apply G.bne;rfl;rfl;rfl)|(apply G.mm;rfl;rfl)|(apply G.mf;rfl;rfl)|(apply G.mx;rfl;rfl;rfl)|(apply G.mn;rfl;rfl;rfl)|(apply G.bx;rfl;rfl;rfl;intro Bk)|(apply G.al;rfl;intro Bk)|(apply G.so;rfl;rfl;(repeat (first|exact RAt.head|apply RAt.tail));rfl;rfl)|(apply G.ss;rfl;rfl;(repeat (first|exact RAt.head|apply RAt.tail));rfl;rfl)|(apply J.regQ;exact Tryz.mixed;decide +kernel)|(apply J.regL;exact Tryz.mixed;decide +kernel)|apply J.reg)
  exact J.forget (by (repeat' (first|exact List.Sublist.refl _|apply List.Sublist.cons_cons|apply List.Sublist.cons))) (J.sub (by (repeat' (first|exact trivial|refine ⟨rfl,?_⟩))) (ih2 (g-1,l+vt) ⟨by dsimp only;omega,by dsimp only;omega,by
   dsimp only
   obtain ⟨g',rfl⟩:∃ g',g=g'+1:=⟨g-1,by omega⟩
   rw [Nat.add_mul,Nat.one_mul] at k3
   rw [Nat.add_sub_cancel];omega⟩ (by dsimp only;omega)))
 clear ih2
 have hnext:g=0->DI V M' nV L ql (j,(j:Int)-1,rho,Q):=fun e=>di_skip hdi kn (by rw [hq];omega)
 apply J.ct
 ·rfl
 apply J.regQ Tryz.mixed (by decide +kernel)
 refine G.cut (X:=Unit) (fun _=>[(136,.bool false),(8,.int .i64 k),(9,.slice (some ⟨b3,o3,none⟩) nV c3),(10,.slice (some ⟨rg,0,none⟩) L rc),(11,.int .i64 nV),(12,.slice (some ⟨Qk,0,none⟩) ql ql),(13,.int .i64 j),(15,.int .u64 g)]) (fun _=>[.blk Qk 206 (flat lmV Q) (ql*1),.blk rg 206 (flat lmV rho) (rc*1),slRow w.heap.size (some ⟨b3,o3,none⟩) 1 (v.map lmV)]) (fun _=>?_) (fun hk2=>?_)
 rotate_left
 ·skip
  repeat' (first|exact J.meet hk2 () (by (repeat' (first|exact trivial|refine ⟨rfl,?_⟩))) (List.Sublist.refl _) (List.Perm.refl _)|(apply G.ix (i:=j+nV-2);rfl;rfl;omega;omega;rfl)|(apply G.ix (i:=nV-2);rfl;rfl;omega;omega;rfl)|(apply G.ld;rfl;(apply LdV.one;(first|exact CellV.blk (by exact mm) g2|exact lm_slE (by exact mm) (by omega) hvu1));rfl)|(apply G.shlK (n:=32);rfl;rfl;rfl;exact shl32 (by omega);rfl;rfl;rfl)|(apply G.orK;rfl;rfl;exact or32 f2 (by omega);rfl;rfl;rfl)|(apply G.mulK;rfl;rfl;exact hm2;rfl;rfl;rfl)|(apply G.pu;rfl;rfl;first|exact trivial|omega)|(apply J.ct;rfl)|(apply G.nil;rfl)|(apply G.cm;rfl;rfl;all_goals intro h;all_goals try (exfalso;omega))|(apply G.fa;rfl;rfl)|(apply G.ld;rfl;(first|(apply LdV.one;(first|exact CellV.row0 (by assumption) rfl|exact CellV.rowS (by assumption) rfl|exact CellV.rowSS (by assumption) rfl|(apply CellV.blk;exact mm;rfl)))|(apply LdV.aggBlk;exact mm;rfl)|(apply LdV.part;exact mm;rfl;rfl)|(apply LdV.aggRow;assumption;rfl)|(apply LdV.partRow;assumption;rfl;rfl));rfl)|(apply G.sk;rfl)|(apply G.ls;rfl;rfl)|(apply G.ix;rfl;rfl;rfl;omega;rfl)|(apply G.ix;rfl;rfl;(first|exact sub_one _|exact add_one' _);omega;rfl)|(apply G.lt;rfl;rfl)|(apply G.bu;rfl;rfl;rfl)|(apply G.fd;rfl;rfl;rfl)|(apply G.cv;rfl;rfl;rfl;omega)|(apply G.beq;rfl;rfl;rfl)|(apply G.bne;rfl;rfl;rfl)|(apply G.mm;rfl;rfl)|(apply G.mf;rfl;rfl)|(apply G.mx;rfl;rfl;rfl)|(apply G.mn;rfl;rfl;rfl)|(apply G.bx;rfl;rfl;rfl;intro Bk)|(apply G.al;rfl;intro Bk)|(apply G.so;rfl;rfl;(repeat (first|exact RAt.head|apply RAt.tail));rfl;rfl)|(apply G.ss;rfl;rfl;(repeat (first|exact RAt.head|apply RAt.tail));rfl;rfl)|(apply J.regQ;exact Tryz.mixed;decide +kernel)|(apply J.regL;exact Tryz.mixed;decide +kernel)|apply J.reg)
 by_cases hg00:g=0
 ·subst hg00
  all_goals (refine go ?_;and_intros<;>first|exact trivial|repeat first|intro(Bk:Nat)|intro h)
  exact J.fin (ih (j,(j:Int)-1,rho,Q) (hnext rfl) (by dsimp only;omega))
 have hjq:j < ql:=by
  rcases Nat.lt_or_ge j ql with h|h
  ·exact h
  ·exfalso
   obtain ⟨z1,z2⟩:=htop0 (by omega)
   rw [show L-1=j+nV by omega,hr0] at z1
   rw [show L-2=j+nV-1 by omega,hr1] at z2
   have:T=0:=by omega
   have h3:1*vt<=g*vt:=Nat.mul_le_mul_right _ (by omega)
   omega
 have hPl:((rho.drop j).take (nV+1)).length=nV+1:=by rw [List.length_take,List.length_drop];omega
 have hPv:=kn.part
 have hPd:∀ d∈(rho.drop j).take (nV+1),d < B32:=fun d hd=>hdi.a4 d (List.mem_of_mem_drop (List.mem_of_mem_take hd))
 have hPs:∀ {M:List Row}{w':World},Sat w M w'->Row.blk rg 206 (flat lmV rho) (rc*1)∈M->SlAt w' (some ⟨rg,j,none⟩) 1 (((rho.drop j).take (nV+1)).map lmV):=fun hw hm=>SlAt.part lmV_len hw hm (by omega)
 have hRlt:=kn.lt
 generalize hP:(rho.drop j).take (nV+1)=P at *
 obtain ⟨R,hR⟩:∃ R,R=vL B32 (rho.drop j):=⟨_,rfl⟩
 rw [<- hR] at hPv hRlt hq
 have hPt:trimL P=dgs B32 R:=by rw [trimL_eq (by decide) P hPd,hPv]
 have hcl:∀ w':World,SlAt w' (some ⟨rg,j,none⟩) 1 (P.map lmV)->Calls Tryz.prog 156 #[.slice (some ⟨rg,j,none⟩) (nV+1) (rc-j)] w' (RetO Tryz.prog w' 206 1 (nV+1) (flat lmV P) id):=by
  intro w' h
  have:=clone_holds ⟨rg,j,none⟩ P (rc-j) w' (by omega) h
  rwa [hPl] at this
 have hgl:∀ g',g'<=g->(dgs B32 (V*g')).length<=nV+1:=fun g' h=>dgs_bound (by decide) _ _ (by rw [Nat.pow_succ];exact Nat.mul_lt_mul'' hVB (by show g' < 4294967296;omega))
 have hRl:(dgs B32 R).length<=nV+1:=dgs_bound (by decide) _ _ (by rw [Nat.pow_succ,Nat.mul_comm (B32 ^ nV)];exact Nat.lt_of_lt_of_le hRlt (Nat.mul_le_mul_left _ (Nat.le_of_lt hVB)))
 repeat' first|(refine gp ?_;and_intros<;>first|exact trivial|repeat first|intro(Bk:Nat)|intro h)|(apply G.slp (l:=j) (h:=j+nV+1) (off:=j) (len:=nV+1);rfl;rfl;rfl;rfl;omega;omega;omega;omega;omega;omega;rfl)|(apply G.sliceL;rfl;rfl;rfl;rfl;rfl;rfl;rfl;rfl;intro Bs)|(apply G.cN (g:=157) (fun a' c'=>.slice a' (dgs B32 (V*g)).length c') ((dgs B32 (V*g)).map lmV);rfl;rfl;exact fun w' hw=>tmV w' (some ⟨b3,o3,none⟩) c3 _ g (hw.sl (by exact mm)) (SlAt.ofBlk (l:=[g]) lmV_len hw (by exact mm)) (by omega) (by show g < 4294967296;omega);intro a5 c5 hp5 hq5)
 refine J.loop (c:=_) ((g,a5,c5):Nat×Option Addr×Nat) (fun s=>s.1) (fun s=>[(8,.int .i64 k),(9,.slice (some ⟨b3,o3,none⟩) nV c3),(10,.slice (some ⟨rg,0,none⟩) L rc),(11,.int .i64 nV),(12,.slice (some ⟨Qk,0,none⟩) ql ql),(13,.int .i64 j),(15,.int .u64 s.1),(17,.slice (some ⟨rg,j,none⟩) (nV+1) (rc-j)),(18,.slice s.2.1 (dgs B32 (V*s.1)).length s.2.2)]) (fun s=>[slRow w.heap.size s.2.1 1 ((dgs B32 (V*s.1)).map lmV),.blk Qk 206 (flat lmV Q) (ql*1),.blk rg 206 (flat lmV rho) (rc*1),slRow w.heap.size (some ⟨b3,o3,none⟩) 1 (v.map lmV)]) (fun s=>q<=s.1/\s.1<=g) ?_ sbT sbL ?_
 ·exact ⟨k1,Nat.le_refl _⟩
 intro ⟨gg,a6,c6⟩ ⟨p1,p2⟩ ih3
 dsimp only at p1 p2 ⊢
 have hggl:=hgl gg p2
 clear hgl
 have hVp:=kn.vpos
 rcases Nat.lt_or_ge R (V*gg) with hlt|hge2
 ·have hqg:q < gg:=by rw [<- hq];exact (Nat.div_lt_iff_lt_mul hVp).2 (by rw [Nat.mul_comm];exact hlt)
  have hs3:=subK_n (a:=gg) (b:=1) (by omega) (by omega)
  have hcv:cmpI R ((V*gg:Nat):Int)=-1:=cmpI_lt (by omega)
  have hcmp:=fun (w':World) (a7:Option Addr) (c7:Nat) (h1:SlAt w' a7 1 ((dgs B32 R).map lmV)) (h2:SlAt w' a6 1 ((dgs B32 (V*gg)).map lmV))=>compare_holds a7 R c7 a6 (V*gg) c6 w' (by omega) (by omega) h1 h2
  rw [hcv] at hcmp
  repeat' (first|(apply G.cOo (g:=156);rfl;rfl;exact fun w' hw=>hcl w' (hPs hw (by exact mm));omega;intro cb cc3 hcc3)|(apply G.cV (g:=154);rfl;rfl;exact fun w' hw=>trimD_holds (l:=P) hw (by exact mm) hPl hPt (by omega) (by omega))|(apply G.cV (g:=152);rfl;rfl;exact fun w' hw=>hcmp w' _ _ (sl_blk hw (by exact mm) hPt) (hw.sl (by exact mm)))|(apply G.subK;rfl;rfl;exact hs3;rfl;rfl;rfl)|(apply G.cN (g:=158) (fun a' c'=>.slice a' (dgs B32 (V*(gg-1))).length c') ((dgs B32 (V*(gg-1))).map lmV);rfl;rfl;exact fun w' hw=>mnV w' a6 c6 (some ⟨b3,o3,none⟩) c3 gg (hw.sl (by exact mm)) (hw.sl (by exact mm)) (by omega) (by omega);intro a8 c8 hp8 hq8)|(apply G.pu;rfl;rfl;first|exact trivial|omega)|(apply J.ct;rfl)|(apply G.nil;rfl)|(apply G.cm;rfl;rfl;all_goals intro h;all_goals try (exfalso;omega))|(apply G.fa;rfl;rfl)|(apply G.ld;rfl;(first|(apply LdV.one;(first|exact CellV.row0 (by assumption) rfl|exact CellV.rowS (by assumption) rfl|exact CellV.rowSS (by assumption) rfl|(apply CellV.blk;exact mm;rfl)))|(apply LdV.aggBlk;exact mm;rfl)|(apply LdV.part;exact mm;rfl;rfl)|(apply LdV.aggRow;assumption;rfl)|(apply LdV.partRow;assumption;rfl;rfl));rfl)|(apply G.sk;rfl)|(apply G.ls;rfl;rfl)|(apply G.ix;rfl;rfl;rfl;omega;rfl)|(apply G.ix;rfl;rfl;(first|exact sub_one _|exact add_one' _);omega;rfl)|(apply G.lt;rfl;rfl)|(apply G.bu;rfl;rfl;rfl)|(apply G.fd;rfl;rfl;rfl)|(apply G.cv;rfl;rfl;rfl;omega)|(apply G.beq;rfl;rfl;rfl)|(apply G.bne;rfl;rfl;rfl)|(apply G.mm;rfl;rfl)|(apply G.mf;rfl;rfl)|(apply G.mx;rfl;rfl;rfl)|(apply G.mn;rfl;rfl;rfl)|(apply G.bx;rfl;rfl;rfl;intro Bk)|(apply G.al;rfl;intro Bk)|(apply G.so;rfl;rfl;(repeat (first|exact RAt.head|apply RAt.tail));rfl;rfl)|(apply G.ss;rfl;rfl;(repeat (first|exact RAt.head|apply RAt.tail));rfl;rfl)|(apply J.regQ;exact Tryz.mixed;decide +kernel)|(apply J.regL;exact Tryz.mixed;decide +kernel)|apply J.reg)
  exact J.fin (ih3 (gg-1,a8,c8) ⟨by dsimp only;omega,by dsimp only;omega⟩ (by dsimp only;omega))
 clear ih3
 have hgq:gg=q:=by
  have:gg<=R / V:=(Nat.le_div_iff_mul_le hVp).2 (by rw [Nat.mul_comm];exact hge2)
  omega
 have hcv:0<=cmpI R ((V*gg:Nat):Int):=by
  rcases Nat.lt_or_ge (V*gg) R with h|h
  ·rw [cmpI_gt (by omega)];decide
  ·rw [show R=V*gg by omega,cmpI_eq];decide
 have hcmp:=fun (w':World) (a7:Option Addr) (c7:Nat) (h1:SlAt w' a7 1 ((dgs B32 R).map lmV)) (h2:SlAt w' a6 1 ((dgs B32 (V*gg)).map lmV))=>compare_holds a7 R c7 a6 (V*gg) c6 w' (by omega) (by omega) h1 h2
 generalize cmpI R ((V*gg:Nat):Int)=cc2 at *
 have hmin2:∀ (w':World) (a7:Option Addr) (c7:Nat),SlAt w' a7 1 ((dgs B32 R).map lmV)->SlAt w' a6 1 ((dgs B32 (V*gg)).map lmV)->Calls Tryz.prog 158 #[.slice a7 (dgs B32 R).length c7,.slice a6 (dgs B32 (V*gg)).length c6] w' (fun e w2=>∃ a' c',e=.returned (.slice a' (dgs B32 (R-V*gg)).length c')/\SlAt w2 a' 1 ((dgs B32 (R-V*gg)).map lmV)/\(∀ p,a'=some p->w'.heap.size<=p.block)/\Below w'.heap.size w' w2):=fun w' a7 c7 h1 h2=>minus_holds a7 R c7 a6 (V*gg) c6 w' (by omega) (by omega) h1 h2 hge2
 have hdl:(dgs B32 (R-V*gg)).length<=nV+1:=Nat.le_trans (dgs_len_mono (by decide) (Nat.sub_le _ _)) hRl
 have hdd:=dgs_lt (b:=B32) (by decide) (R-V*gg)
 have hdv:=vL_dgs (b:=B32) (by decide) (R-V*gg)
 generalize hdL:dgs B32 (R-V*gg)=dl at *
 have l9:(flat lmV rho).length=rho.length:=by rw [flat_len lmV_len,Nat.mul_one]
 have l10:(setL (flat lmV rho) j (List.replicate (nV+1) (.int .u32 0))).length=rho.length:=by rw [setL_length,l9]
 have l11:(flat lmV Q).length=Q.length:=by rw [flat_len lmV_len,Nat.mul_one]
 have hput:=put_lm (rho:=rho) (i:=j) (n:=nV) (d:=dl) hdl (by omega)
 have q2:=lm_set (p:=Q) (j:=j) (d:=gg) (by omega)
 have hnx:=di_next (d:=dl) (g:=gg) hdi kn (by rw [<- hR,hq];exact hgq) hjq hdd hdl (by rw [hdv,<- hR,Nat.mul_comm])
 repeat' first|(refine gp ?_;and_intros<;>first|exact trivial|repeat first|intro(Bk:Nat)|intro h)|(apply G.cOo (g:=156);rfl;rfl;exact fun w' hw=>hcl w' (hPs hw (by exact mm));omega;intro cb cc3 hcc3)|(apply G.cV (g:=154);rfl;rfl;exact fun w' hw=>trimD_holds (l:=P) hw (by exact mm) hPl hPt (by omega) (by omega))|(apply G.cV (g:=152);rfl;rfl;exact fun w' hw=>hcmp w' _ _ (sl_blk hw (by exact mm) hPt) (hw.sl (by exact mm)))|(apply G.cN (g:=158) (fun a' c'=>.slice a' dl.length c') (dl.map lmV);rfl;rfl;exact fun w' hw=>hmin2 w' _ _ (sl_blk hw (by exact mm) hPt) (hw.sl (by exact mm));intro a8 c8 hp8 hq8)|(apply G.clr;rfl;rfl;(repeat (first|exact RAt.head|apply RAt.tail));exact ⟨rfl,rfl⟩;exact fun w=>Tryz.zeroValue206 w;omega)|(apply G.cpy;rfl;rfl;rfl;(repeat (first|exact RAt.head|apply RAt.tail));exact SrcV.sl lmV_len lmV_one hp8 (by exact mm);omega;omega;rw [hput])|(apply G.s1;rfl;rfl;rfl;(repeat (first|exact RAt.head|apply RAt.tail));exact ⟨rfl,rfl⟩;omega;exact q2)
 exact J.fin (ih (j,(j:Int)-1,putL rho j nV dl,Q.set j gg) hnx (by dsimp only;omega))
theorem ret_str {a b:List UInt8} (h:a=b):Ending.returned (.string (bs a))=.returned (.string (bs b)):=by rw [h]
theorem trimByte_holds (l:List UInt8) (w:World) (hl:l.length<=9223372036854775807) :
  Calls Tryz.prog 177 #[.string (bs l),.int .u8 0] w fun e w'=>e=.returned (.string (bs (nB (vB l))))/\Below w.heap.size w w':=by
 rw [<- clean_eq]
 refine enterA [(0,.string (bs l)),(1,.int .u8 0)] Tryz.func177 Tryz.ntmps177 ?_
 all_goals (refine go ?_;and_intros<;>first|exact trivial|repeat first|intro(Bk:Nat)|intro h)
 refine J.loop (c:=_) l (fun s=>s.length) (fun s=>[(0,.string (bs s)),(1,.int .u8 0)]) (fun s=>[]) (fun s=>s.length<=l.length/\s.dropWhile (· == 0)=l.dropWhile (· == 0)) ?_ sbT sbL ?_
 ·exact ⟨Nat.le_refl _,rfl⟩
 intro s ⟨hs,hd⟩ ih
 cases s with
 | nil =>
  have h0:([]:List UInt8).length=0:=rfl
  rw [<- hd]
  all_goals (refine go ?_;and_intros<;>first|exact trivial|repeat first|intro(Bk:Nat)|intro h)
  all_goals refine ret1b Tryz.func177 Tryz.results177 ?_
  all_goals rfl
 | cons x r =>
  have h0:(x::r).length=r.length+1:=rfl
  have hx0:(x::r)[0]=x:=rfl
  by_cases hx:x=0
  ·subst hx
   have hz:(((0:UInt8)).toNat:Int)=0:=rfl
   repeat' first|(refine gp ?_;and_intros<;>first|exact trivial|repeat first|intro(Bk:Nat)|intro h)|(apply G.sx (i:=0);rfl;rfl;rfl;rfl;rfl)|(apply G.subStrFrom (i:=1);rfl;rfl;rfl;omega;rfl;rfl;rfl)
   exact J.fin (ih r ⟨by omega,by rw [<- hd];simp⟩ (by omega))
  ·have hz:((x.toNat:Nat):Int)≠0:=by
    intro e
    exact hx (UInt8.toNat_inj.1 (by simpa using e))
   have hdx:(x::r).dropWhile (· == 0)=x::r:=by simp [hx]
   rw [hdx] at hd
   rw [<- hd]
   repeat' first|(refine gp ?_;and_intros<;>first|exact trivial|repeat first|intro(Bk:Nat)|intro h)|(apply G.sx (i:=0);rfl;rfl;rfl;rfl;rfl)
   all_goals refine ret1b Tryz.func177 Tryz.results177 ?_
   all_goals rfl
theorem trimLeft_holds (l:List UInt8) (w:World) (hl:l.length<=9223372036854775807) :
  Calls Tryz.prog 172 #[.string (bs l),.string (bs [0])] w fun e w'=>e=.returned (.string (bs (nB (vB l))))/\Below w.heap.size w w':=by
 refine enterA [(0,.string (bs l)),(1,.string (bs [0]))] Tryz.func172 Tryz.ntmps172 ?_
 have h1:([0]:List UInt8).length=1:=rfl
 have h2:((0:UInt8).toNat:Int)=0:=rfl
 cases l with
 | nil =>
  repeat' first|(refine gp ?_;and_intros<;>first|exact trivial|repeat first|intro(Bk:Nat)|intro h)|(apply G.eqlStr;rfl;rfl;rfl;rfl;rfl;all_goals intro h;all_goals try (exact absurd rfl h))
  all_goals refine ret1b Tryz.func172 Tryz.results172 ?_
  all_goals exact ret_str (by simp [vB,nB_zero])
 | cons x r =>
  have h0:(x::r).length=r.length+1:=rfl
  repeat' first|(refine gp ?_;and_intros<;>first|exact trivial|repeat first|intro(Bk:Nat)|intro h)|(apply G.eqlStr;rfl;rfl;rfl;rfl;rfl;all_goals intro h;all_goals try (cases h;done))|(apply G.sx (i:=0);rfl;rfl;rfl;rfl;rfl)|(apply G.cV (g:=177);rfl;rfl;exact fun w _=>trimByte_holds (x::r) w hl)
  all_goals refine ret1b Tryz.func172 Tryz.results172 ?_
  all_goals rfl
theorem clean_holds (l:List UInt8) (w:World) (hl:l.length<=9223372036854775807) :
  Calls Tryz.prog 160 #[.string (bs l)] w fun e w'=>e=.returned (.string (bs (nB (vB l))))/\Below w.heap.size w w':=by
 refine enterA [(0,.string (bs l))] Tryz.func160 Tryz.ntmps160 ?_
 repeat' first|(refine gp ?_;and_intros<;>first|exact trivial|repeat first|intro(Bk:Nat)|intro h)|(apply G.cV (g:=172) (vs:=[.string (bs l),.string (bs [0])]);rfl;rfl;exact fun w _=>trimLeft_holds l w hl)
 all_goals refine ret1b Tryz.func160 Tryz.results160 ?_
 all_goals rfl
theorem or8 {a b:Nat} (hb:b < 256) (ha:a < 16777216):IntKind.u32.wrap ((BitVec.ofInt 32 ((a*256:Nat):Int) ||| BitVec.ofInt 32 (b:Int)).toNat:Int)=((a*256+b:Nat):Int):=by
 have h1:(BitVec.ofInt 32 ((a*256:Nat):Int) ||| BitVec.ofInt 32 (b:Int)).toNat=a*256+b:=by
  rw [BitVec.toNat_or,BitVec.ofInt_natCast,BitVec.ofInt_natCast,BitVec.toNat_ofNat,BitVec.toNat_ofNat,Nat.mod_eq_of_lt (by omega),Nat.mod_eq_of_lt (by omega)]
  have:=Nat.two_pow_add_eq_or_of_lt (i:=8) (b:=b) (by simpa using hb) a
  rw [Nat.mul_comm a]
  simpa using this.symm
 rw [h1,wrap_u32]
 omega
theorem vB_take_succ {p:List UInt8}{i:Nat} (h:i < p.length):vB (p.take (i+1))=vB (p.take i)*256+(p[i]).toNat:=by
 rw [List.take_add_one,List.getElem?_eq_getElem h,vB_append]
 simp [vB]
theorem load_holds (l:List UInt8) (w:World) (hl:l.length<=1073741824):Calls Tryz.prog 115 #[.string (bs l)] w (RetL (vB l) w):=by
 refine enterA [(0,.string (bs l))] Tryz.func115 Tryz.ntmps115 ?_
 all_goals (refine go ?_;and_intros<;>first|exact trivial|repeat first|intro(Bk:Nat)|intro h)
 apply J.nilOwn (E:=206) (size:=1)
 refine J.loop (c:=_) ((0,(l.length:Int),.slice none 0 0,[]):Nat×Int×Value×List Nat) (fun s=>l.length+4-4*s.1) (fun s=>[(0,.string (bs l)),(3,s.2.2.1),(4,.int .i64 s.2.1)]) (fun s=>[.own 0 s.2.2.1 206 1 s.1 (flat lmV s.2.2.2)]) (fun s=>s.2.2.2.length=s.1/\(∀ d∈s.2.2.2,d < B32)/\s.2.1=(l.length:Int)-4*s.1/\vL B32 s.2.2.2+B32 ^ s.1*vB (l.take (l.length-4*s.1))=vB l/\4*s.1<=l.length+3) ?_ sbT sbL ?_
 ·exact ⟨rfl,by simp,by simp,by simp [vL],by simp⟩
 intro ⟨k,z,u,o⟩ ⟨h1,h2,h3,h4,h5⟩ ih
 dsimp only at h1 h2 h3 h4 h5 ⊢
 by_cases hk:4*k < l.length
 ·obtain ⟨s1,s2⟩:=load_step b32_eq l h1 hk h4
  have hmax:max (0:Int) (z-4)=((l.length-4*k-4:Nat):Int):=by omega
  repeat' (first|(apply G.mxE;rfl;rfl;exact hmax;rfl)|(apply G.subStr (i:=l.length-4*k-4) (j:=l.length-4*k);rfl;rfl;rfl;rfl;omega;omega;omega;rfl;rfl;rfl)|(apply G.toBytes (E:=5);rfl;rfl;rfl;rfl;intro Bb cb)|(apply G.pu;rfl;rfl;first|exact trivial|omega)|(apply J.ct;rfl)|(apply G.nil;rfl)|(apply G.cm;rfl;rfl;all_goals intro h;all_goals try (exfalso;omega))|(apply G.fa;rfl;rfl)|(apply G.ld;rfl;(first|(apply LdV.one;(first|exact CellV.row0 (by assumption) rfl|exact CellV.rowS (by assumption) rfl|exact CellV.rowSS (by assumption) rfl|(apply CellV.blk;exact mm;rfl)))|(apply LdV.aggBlk;exact mm;rfl)|(apply LdV.part;exact mm;rfl;rfl)|(apply LdV.aggRow;assumption;rfl)|(apply LdV.partRow;assumption;rfl;rfl));rfl)|(apply G.sk;rfl)|(apply G.ls;rfl;rfl)|(apply G.ix;rfl;rfl;rfl;omega;rfl)|(apply G.ix;rfl;rfl;(first|exact sub_one _|exact add_one' _);omega;rfl)|(apply G.lt;rfl;rfl)|(apply G.bu;rfl;rfl;rfl)|(apply G.fd;rfl;rfl;rfl)|(apply G.cv;rfl;rfl;rfl;omega)|(apply G.beq;rfl;rfl;rfl)|(apply G.bne;rfl;rfl;rfl)|(apply G.mm;rfl;rfl)|(apply G.mf;rfl;rfl)|(apply G.mx;rfl;rfl;rfl)|(apply G.mn;rfl;rfl;rfl)|(apply G.bx;rfl;rfl;rfl;intro Bk)|(apply G.al;rfl;intro Bk)|(apply G.so;rfl;rfl;(repeat (first|exact RAt.head|apply RAt.tail));rfl;rfl)|(apply G.ss;rfl;rfl;(repeat (first|exact RAt.head|apply RAt.tail));rfl;rfl)|(apply J.regQ;exact Tryz.mixed;decide +kernel)|(apply J.regL;exact Tryz.mixed;decide +kernel)|apply J.reg)
  have hpl:((l.drop (l.length-4*k-4)).take (l.length-4*k-(l.length-4*k-4))).length<=4:=by rw [List.length_take];omega
  generalize (l.drop (l.length-4*k-4)).take (l.length-4*k-(l.length-4*k-4))=p at *
  refine J.loop (c:=_) (0:Nat) (fun s=>p.length-s) (fun s=>[(0,.string (bs l)),(3,u),(4,.int .i64 z),(5,.int .u32 (vB (p.take s):Nat)),(20,.slice (some ⟨Bb,0,none⟩) p.length cb),(21,.int .i64 p.length),(22,.int .i64 s)]) (fun s=>[slRow w.heap.size (some ⟨Bb,0,none⟩) 1 (p.map u8V),.own 0 u 206 1 k (flat lmV o)]) (fun s=>s<=p.length) ?_ sbT sbL ?_
  ·exact Nat.zero_le _
  intro i hi ih2
  by_cases hip:i < p.length
  ·have hts:=vB_take_succ hip
   have hlt:vB (p.take i) < 16777216:=by
    have:=vB_lt (p.take i)
    rw [List.length_take,Nat.min_eq_left (by omega)] at this
    have h6:256 ^ i<=256 ^ 3:=Nat.pow_le_pow_right (by decide) (by omega)
    omega
   have hb8:(p[i]).toNat < 256:=(p[i]).toNat_lt
   have hcell:(u8V p[i])[0]?=some (.int .u8 ((p[i]).toNat:Int)):=rfl
   generalize hdg:vB (p.take i)=dg at *
   generalize hbt:(p[i]).toNat=bt at *
   have hsh:IntKind.u32.wrap ((dg:Int)*2 ^ (min 8 IntKind.u32.bits))=((dg*256:Nat):Int):=by
    have e0:(2:Int) ^ (min 8 IntKind.u32.bits)=256:=rfl
    rw [e0,wrap_u32];omega
   have hor:=or8 hb8 hlt
   rw [<- hts] at hor
   repeat' (first|(apply G.ld;rfl;(apply LdV.one;exact CellV.sl0 (by exact mm) hip hcell);rfl)|(apply G.shlK (n:=8);rfl;rfl;rfl;exact hsh;rfl;rfl;rfl)|(apply G.orK;rfl;rfl;exact hor;rfl;rfl;rfl)|(apply G.pu;rfl;rfl;first|exact trivial|omega)|(apply J.ct;rfl)|(apply G.nil;rfl)|(apply G.cm;rfl;rfl;all_goals intro h;all_goals try (exfalso;omega))|(apply G.fa;rfl;rfl)|(apply G.ld;rfl;(first|(apply LdV.one;(first|exact CellV.row0 (by assumption) rfl|exact CellV.rowS (by assumption) rfl|exact CellV.rowSS (by assumption) rfl|(apply CellV.blk;exact mm;rfl)))|(apply LdV.aggBlk;exact mm;rfl)|(apply LdV.part;exact mm;rfl;rfl)|(apply LdV.aggRow;assumption;rfl)|(apply LdV.partRow;assumption;rfl;rfl));rfl)|(apply G.sk;rfl)|(apply G.ls;rfl;rfl)|(apply G.ix;rfl;rfl;rfl;omega;rfl)|(apply G.ix;rfl;rfl;(first|exact sub_one _|exact add_one' _);omega;rfl)|(apply G.lt;rfl;rfl)|(apply G.bu;rfl;rfl;rfl)|(apply G.fd;rfl;rfl;rfl)|(apply G.cv;rfl;rfl;rfl;omega)|(apply G.beq;rfl;rfl;rfl)|(apply G.bne;rfl;rfl;rfl)|(apply G.mm;rfl;rfl)|(apply G.mf;rfl;rfl)|(apply G.mx;rfl;rfl;rfl)|(apply G.mn;rfl;rfl;rfl)|(apply G.bx;rfl;rfl;rfl;intro Bk)|(apply G.al;rfl;intro Bk)|(apply G.so;rfl;rfl;(repeat (first|exact RAt.head|apply RAt.tail));rfl;rfl)|(apply G.ss;rfl;rfl;(repeat (first|exact RAt.head|apply RAt.tail));rfl;rfl)|(apply J.regQ;exact Tryz.mixed;decide +kernel)|(apply J.regL;exact Tryz.mixed;decide +kernel)|apply J.reg)
   exact J.fin (ih2 (i+1) (by omega) (by omega))
  ·have hpe:vB (p.take i)=vB p:=by rw [List.take_of_length_le (by omega)]
   rw [hpe]
   repeat' first|(refine gp ?_;and_intros<;>first|exact trivial|repeat first|intro(Bk:Nat)|intro h)|(apply G.sliceL;rfl;rfl;rfl;rfl;rfl;rfl;rfl;rfl;intro Bs)|(apply G.ap;rfl;rfl;rfl;(repeat (first|exact RAt.head|apply RAt.tail));exact SrcV.blk (by exact mm) rfl rfl;exact flat1 lmV o (vB p);omega;omega;intro v2)
   exact J.fin (ih (k+1,z-4,v2,o++[vB p]) ⟨by simp [h1],lt_snoc h2 s2,by dsimp only;omega,s1,by dsimp only;omega⟩ (by dsimp only;omega))
 ·have he:=load_end (B:=B32) l (by omega) h4
  subst h1
  apply J.ownForm (i:=0) rfl
  intro a2 c2 hu
  subst hu
  repeat' first|(refine gp ?_;and_intros<;>first|exact trivial|repeat first|intro(Bk:Nat)|intro h)|(apply G.cV (g:=154);rfl;rfl;exact fun w hw=>trimO_holds hw (by exact mm) (by omega))
  (refine ret1 Tryz.func115 Tryz.results115 ?_;intro w' hw)
  exact retL_own hw (by exact mm) h2 he
def bV (d:Nat):List Value:=[.int .u8 (d:Int)]
theorem bV_len (d:Nat):(bV d).length=1:=rfl
theorem bv_get {p:List Nat}{j:Nat} (h:j < p.length):(flat bV p)[0+j*1]?=some (.int .u8 ((p.getD j 0:Nat):Int)):=by
 refine flat_get1 bV_len h ?_
 rw [List.getD_eq_getElem?_getD,List.getElem?_eq_getElem h];rfl
theorem bv_set {p:List Nat}{j d:Nat} (h:j < p.length):setL (flat bV p) (0+j*1) [.int .u8 (d:Int)]=flat bV (p.set j d):=flat_set1 bV_len h rfl
theorem rev_end {l c:List Nat} (hc:c.length=l.length) (h:∀ t,t < l.length->c.getD t 0=l.getD (l.length-1-t) 0):c=l.reverse:=by
 apply List.ext_getElem (by simp [hc])
 intro t h1 h2
 have:=h t (by omega)
 rw [List.getElem_reverse]
 simpa [List.getD_eq_getElem?_getD,List.getElem?_eq_getElem,h1,show l.length-1-t < l.length by omega] using this
theorem rev_holds (w0:World) (M1:List Row) (g E tot c:Nat) (l:List Nat) (w:World) (hl:l.length<=4294967296) (hw:Sat w0 (.blk g E (flat bV l) tot::M1) w) :
  Calls Tryz.prog 159 #[.slice (some ⟨g,0,none⟩) l.length c] w fun e w'=>∃ _:Unit,e=.returned (.tuple #[])/\Sat w0 (.blk g E (flat bV l.reverse) tot::M1) w':=by
 refine enterM [(0,.slice (some ⟨g,0,none⟩) l.length c)] hw Tryz.func159 rfl Tryz.ntmps159 (by simp) (by (repeat' (first|exact trivial|refine ⟨rfl,?_⟩))) ?_
 all_goals (refine go ?_;and_intros<;>first|exact trivial|repeat first|intro(Bk:Nat)|intro h)
 refine J.loop (c:=_) ((0,(l.length:Int)-1,l):Nat×Int×List Nat) (fun s=>l.length-s.1) (fun s=>[(0,.slice (some ⟨g,0,none⟩) l.length c),(2,.int .i64 s.1),(3,.int .i64 s.2.1)]) (fun s=>.blk g E (flat bV s.2.2) tot::M1) (fun s=>s.2.2.length=l.length/\s.2.1=(l.length:Int)-1-s.1/\s.1<=l.length/\∀ t,t < l.length->s.2.2.getD t 0=if t < s.1∨l.length<=t+s.1 then l.getD (l.length-1-t) 0 else l.getD t 0) ?_ sbT sbL ?_
 ·exact ⟨rfl,by simp,Nat.zero_le _,fun t ht=>by rw [if_neg];dsimp only;omega⟩
 intro ⟨i,z,cu⟩ ⟨h1,h2,h3,h4⟩ ih
 dsimp only at h1 h2 h3 h4 ⊢
 by_cases hij:(i:Int) < z
 ·obtain ⟨j,rfl⟩:∃ j:Nat,z=(j:Int):=⟨z.toNat,by omega⟩
  have gi:=bv_get (p:=cu) (j:=i) (by omega)
  have gj:=bv_get (p:=cu) (j:=j) (by omega)
  have ci:=h4 i (by omega)
  have cj:=h4 j (by omega)
  rw [if_neg (by omega)] at ci cj
  generalize hx:cu.getD i 0=x at *
  generalize hy:cu.getD j 0=y at *
  have si:=bv_set (p:=cu) (j:=i) (d:=y) (by omega)
  have sj:=bv_set (p:=cu.set i y) (j:=j) (d:=x) (by rw [List.length_set];omega)
  have li:(flat bV cu).length=l.length:=by rw [flat_len bV_len,Nat.mul_one,h1]
  have lj:(flat bV (cu.set i y)).length=l.length:=by rw [flat_len bV_len,Nat.mul_one,List.length_set,h1]
  all_goals (refine goR ?_;and_intros<;>(try exact trivial)<;>repeat (first|refine fun (Bk:Nat)=>?_|intro h))
  repeat' ((first|(apply J.regA (.q 0 <| .q 1 <| .q 2 <| .q 3 <| .q 4 <| .q 5 <| .q 6 <| .q 7 <| .q 8 <| .q 9 <| .q 10 <| .q 11 <| .q 12 <| .r 13 <| .q 14 <| .r 15 <| .nil);exact Tryz.mixed;decide +kernel)|(apply G.ld;rfl;(apply LdV.one;(first|exact CellV.blk (by exact mm) gi|exact CellV.blk (by exact mm) gj));rfl)|(apply G.s1;rfl;rfl;rfl;(repeat (first|exact RAt.head|apply RAt.tail));exact ⟨rfl,rfl⟩;omega;exact si)|(apply G.s1;rfl;rfl;rfl;(repeat (first|exact RAt.head|apply RAt.tail));exact ⟨rfl,rfl⟩;omega;exact sj)|(apply J.regQ;exact Tryz.mixed;decide +kernel)|(apply J.regL';exact Tryz.mixed;decide +kernel))<;>(refine goR ?_;and_intros<;>(try exact trivial)<;>repeat (first|refine fun (Bk:Nat)=>?_|intro h)))
  refine J.fin (ih (i+1,(j:Int)-1,(cu.set i y).set j x) ⟨by simp [h1],by dsimp only;omega,by dsimp only;omega,fun t ht=>?_⟩ (by dsimp only;omega))
  have h5:=h4 t ht
  dsimp only
  simp only [List.getD_eq_getElem?_getD] at h5 ⊢
  by_cases hjt:j=t
  ·subst hjt
   rw [List.getElem?_set_self (by rw [List.length_set];omega),if_pos (by omega),Option.getD_some,ci,List.getD_eq_getElem?_getD]
   congr 2;omega
  ·rw [List.getElem?_set_ne hjt]
   by_cases hit:i=t
   ·subst hit
    rw [List.getElem?_set_self (by omega),if_pos (by omega),Option.getD_some,cj,List.getD_eq_getElem?_getD]
    congr 2;omega
   ·rw [List.getElem?_set_ne hit,h5]
    by_cases hc:t < i∨l.length<=t+i
    ·rw [if_pos hc,if_pos (by omega)]
    ·rw [if_neg hc,if_neg (by omega)]
 ·have hce:cu=l.reverse:=rev_end h1 fun t ht=>by
   have:=h4 t ht
   by_cases hc:t < i∨l.length<=t+i
   ·rw [if_pos hc] at this;exact this
   ·rw [if_neg hc] at this
    rw [this];congr 1;omega
  all_goals (refine go ?_;and_intros<;>first|exact trivial|repeat first|intro(Bk:Nat)|intro h)
  apply leaveEnd Tryz.func159 (RunsTo.zero Tryz.results159)
  intro w' hw'
  exact ⟨(),rfl,by rw [<- hce];exact hw'⟩
theorem rev_nil (w:World):Calls Tryz.prog 159 #[.slice none 0 0] w fun e w'=>e=.returned (.tuple #[])/\Below w.heap.size w w':=by
 refine enterA [(0,.slice none 0 0)] Tryz.func159 Tryz.ntmps159 ?_
 all_goals (refine go ?_;and_intros<;>first|exact trivial|repeat first|intro(Bk:Nat)|intro h)
 refine J.loop (c:=_) () (fun s=>0) (fun s=>[(2,.int .i64 0),(3,.int .i64 (-1))]) (fun s=>[]) (fun s=>True) ?_ sbT sbL ?_
 ·trivial
 intro _ _ ih
 all_goals (refine go ?_;and_intros<;>first|exact trivial|repeat first|intro(Bk:Nat)|intro h)
 exact leaveEnd Tryz.func159 (RunsTo.zero Tryz.results159) fun w' hw=>⟨rfl,hw.below⟩
theorem shr_n {a n k:Nat}{K:IntKind} (hk:min n K.bits=n) (h:2 ^ n=k):(a:Int).fdiv (2 ^ (min n K.bits))=((a / k:Nat):Int):=by
 subst h
 have e:(2:Int) ^ n=((2 ^ n:Nat):Int):=by simp
 rw [hk,e,Int.fdiv_eq_ediv_of_nonneg _ (Int.natCast_nonneg _),Int.natCast_ediv]
theorem u8_of (s:Nat):IntKind.u8.wrap (s:Int)=((s % 256:Nat):Int):=by rw [wrap_u8];omega
theorem bv_u8:∀ l:List Nat,(∀ d∈l,d < 256)->(l.map UInt8.ofNat).map u8V=l.map bV/\(l.map UInt8.ofNat).map UInt8.toNat=l
 | [],_=>⟨rfl,rfl⟩
 | d::r,h=>by
  obtain ⟨h1,h2⟩:=bv_u8 r fun x hx=>h x (.tail _ hx)
  have h3:(UInt8.ofNat d).toNat=d:=by
   have:=h d (.head _)
   simp [UInt8.toNat_ofNat',Nat.mod_eq_of_lt this]
  simp only [List.map_cons,h1,h2,h3,u8V,bV,and_self]
theorem by4_len:∀ x:List Nat,(x.flatMap by4).length=4*x.length
 | []=>rfl
 | d::r=>by
  have e:(by4 d).length=4:=rfl
  rw [List.flatMap_cons,List.length_append,by4_len r,e,List.length_cons];omega
theorem text_holds (a:Option Addr) (n c:Nat) (w:World) (hl:(dgs B32 n).length<=1073741824) (hA:SlAt w a 1 ((dgs B32 n).map lmV)) :
  Calls Tryz.prog 116 #[.slice a (dgs B32 n).length c] w fun e w'=>e=.returned (.string (bs (nB n)))/\Below w.heap.size w w':=by
 have hx:=dgs_lt (b:=B32) (by decide) n
 have hv:=vL_dgs (b:=B32) (by decide) n
 generalize dgs B32 n=x at *
 refine enterA [(0,.slice a x.length c)] Tryz.func116 Tryz.ntmps116 ?_
 all_goals (refine go ?_;and_intros<;>first|exact trivial|repeat first|intro(Bk:Nat)|intro h)
 rcases Nat.eq_zero_or_pos x.length with h0|h0
 ·have hx0:x=[]:=List.length_eq_zero_iff.1 h0
  subst hx0
  have hn0:n=0:=hv.symm
  subst hn0
  refine J.loop (c:=_) () (fun s=>0) (fun s=>[(3,.slice none 0 0),(7,.int .i64 0),(8,.int .i64 0)]) (fun s=>[]) (fun s=>True) ?_ sbT sbL ?_
  ·trivial
  intro _ _ ih
  repeat' first|(refine gp ?_;and_intros<;>first|exact trivial|repeat first|intro(Bk:Nat)|intro h)|(apply G.cV (g:=159);rfl;rfl;exact fun w' _=>rev_nil w')|(apply G.ofBytes (E:=5) (l:=[]);rfl;rfl;exact fun w' hw=>SlAt.nil;rfl;rfl;rfl)|(apply G.cV (g:=160) (vs:=[.string (bs [])]);rfl;rfl;exact fun w' _=>clean_holds [] w' (by decide))
  all_goals refine ret1b Tryz.func116 Tryz.results116 ?_
  all_goals exact ret_str (congrArg nB (rfl:vB []=0))
 apply J.nilOwn (E:=5) (size:=1)
 refine J.loop (c:=_) ((0,.slice none 0 0):Nat×Value) (fun s=>x.length-s.1) (fun s=>[(3,s.2),(6,.slice a x.length c),(7,.int .i64 x.length),(8,.int .i64 s.1)]) (fun s=>[.own 0 s.2 5 1 (4*s.1) (flat bV ((x.take s.1).flatMap by4))]) (fun s=>s.1<=x.length) ?_ sbT sbL ?_
 ·exact Nat.zero_le _
 intro ⟨k,u⟩ hk ih
 dsimp only at hk ⊢
 by_cases hlt:k < x.length
 ·obtain ⟨ba,oa,rfl,hrow⟩:=lm_at hA hlt
  have ht:=getD_lt (b:=4294967296) (by decide) hx k
  have hts:(x.take (k+1)).flatMap by4=(x.take k).flatMap by4++by4 (x.getD k 0):=by
   rw [List.take_add_one,List.getElem?_eq_getElem hlt,List.flatMap_append,List.getD_eq_getElem?_getD,List.getElem?_eq_getElem hlt]
   simp
  generalize x.getD k 0=t at *
  have hcs:flat bV ((x.take k).flatMap by4)++[.int .u8 ((t % 256:Nat):Int),.int .u8 ((t / 256 % 256:Nat):Int),.int .u8 ((t / 65536 % 256:Nat):Int),.int .u8 ((t / 16777216 % 256:Nat):Int)]=flat bV ((x.take (k+1)).flatMap by4):=by
   rw [hts,flat_append];rfl
  repeat' (first|(apply G.shrK (n:=8) (k1:=.u32);rfl;rfl;rfl;exact shr_n rfl rfl;rfl;rfl;rfl)|(apply G.shrK (n:=16) (k1:=.u32);rfl;rfl;rfl;exact shr_n rfl rfl;rfl;rfl;rfl)|(apply G.shrK (n:=24) (k1:=.u32);rfl;rfl;rfl;exact shr_n rfl rfl;rfl;rfl;rfl)|(apply G.convK;rfl;exact u8_of _;rfl;rfl;rfl)|(apply G.sliceL;rfl;rfl;rfl;rfl;rfl;rfl;rfl;rfl;intro Bs)|(apply G.ap;rfl;rfl;rfl;(repeat (first|exact RAt.head|apply RAt.tail));exact SrcV.blk (by exact mm) rfl rfl;exact hcs;omega;omega;intro v2)|(apply G.pu;rfl;rfl;first|exact trivial|omega)|(apply J.ct;rfl)|(apply G.nil;rfl)|(apply G.cm;rfl;rfl;all_goals intro h;all_goals try (exfalso;omega))|(apply G.fa;rfl;rfl)|(apply G.ld;rfl;(first|(apply LdV.one;(first|exact CellV.row0 (by assumption) rfl|exact CellV.rowS (by assumption) rfl|exact CellV.rowSS (by assumption) rfl|(apply CellV.blk;exact mm;rfl)))|(apply LdV.aggBlk;exact mm;rfl)|(apply LdV.part;exact mm;rfl;rfl)|(apply LdV.aggRow;assumption;rfl)|(apply LdV.partRow;assumption;rfl;rfl));rfl)|(apply G.sk;rfl)|(apply G.ls;rfl;rfl)|(apply G.ix;rfl;rfl;rfl;omega;rfl)|(apply G.ix;rfl;rfl;(first|exact sub_one _|exact add_one' _);omega;rfl)|(apply G.lt;rfl;rfl)|(apply G.bu;rfl;rfl;rfl)|(apply G.fd;rfl;rfl;rfl)|(apply G.cv;rfl;rfl;rfl;omega)|(apply G.beq;rfl;rfl;rfl)|(apply G.bne;rfl;rfl;rfl)|(apply G.mm;rfl;rfl)|(apply G.mf;rfl;rfl)|(apply G.mx;rfl;rfl;rfl)|(apply G.mn;rfl;rfl;rfl)|(apply G.bx;rfl;rfl;rfl;intro Bk)|(apply G.al;rfl;intro Bk)|(apply G.so;rfl;rfl;(repeat (first|exact RAt.head|apply RAt.tail));rfl;rfl)|(apply G.ss;rfl;rfl;(repeat (first|exact RAt.head|apply RAt.tail));rfl;rfl)|(apply J.regQ;exact Tryz.mixed;decide +kernel)|(apply J.regL;exact Tryz.mixed;decide +kernel)|apply J.reg)
  exact J.fin (ih (k+1,v2) (by dsimp only;omega) (by dsimp only;omega))
 ·have hke:k=x.length:=by omega
  subst hke
  rw [List.take_length]
  have hlen4:=by4_len x
  have hlt4:∀ d∈(x.flatMap by4).reverse,d < 256:=fun d hd=>by
   obtain ⟨y,_,hy⟩:=List.mem_flatMap.1 (List.mem_reverse.1 hd)
   exact by4_lt hy
  obtain ⟨e1,e2⟩:=bv_u8 _ hlt4
  have htx:=text_eq hx e2
  rw [hv,clean_eq] at htx
  have hl8:((x.flatMap by4).reverse.map UInt8.ofNat).length=4*x.length:=by rw [List.length_map,List.length_reverse,hlen4]
  generalize (x.flatMap by4).reverse.map UInt8.ofNat=l8 at *
  apply J.open (i:=0) rfl (by omega)
  intro g cap hcap hu
  subst hu
  have hrv:=fun (w':World) (M1:List Row) (tot:Nat) (hw:Sat w (.blk g 5 (flat bV (x.flatMap by4)) tot::M1) w')=>rev_holds w M1 g 5 tot cap (x.flatMap by4) w' (by omega) hw
  rw [hlen4] at hrv
  simp only [List.set_cons_zero]
  repeat' first|(refine gp ?_;and_intros<;>first|exact trivial|repeat first|intro(Bk:Nat)|intro h)|(apply G.cM (g:=159) (X:=Unit) (fun _=>.tuple #[]) (fun _=>[.blk g 5 (flat bV (x.flatMap by4).reverse) (cap*1)]);rfl;rfl;exact fun w' hw=>hrv w' [] _ hw;intro _)|(apply G.ofBytes (E:=5) (l:=l8);rfl;exact hl8;exact fun w' hw=>(e1 ▸ SlAt.ofBlk bV_len hw (.head _));rfl;rfl;rfl)|(apply G.cV (g:=160) (vs:=[.string (bs l8)]);rfl;rfl;exact fun w' _=>clean_holds l8 w' (by omega))
  all_goals refine ret1b Tryz.func116 Tryz.results116 ?_
  all_goals exact ret_str htx
theorem vB_dgs {l:List UInt8} (h:l.length<=536870912):(dgs B32 (vB l)).length<=134217728:=by
 refine Nat.le_trans (dgs_bound (by decide) ((l.length+3) / 4) _ ?_) (by omega)
 refine Nat.lt_of_lt_of_le (vB_lt l) ?_
 rw [<- b32_eq,<- Nat.pow_mul]
 exact Nat.pow_le_pow_right (by decide) (by omega)
theorem dgs_add {m n k:Nat} (h1:(dgs B32 m).length<=k) (h2:(dgs B32 n).length<=k):(dgs B32 (m+n)).length<=k+1:=by
 refine dgs_bound (by decide) _ _ ?_
 have a1:=vL_lt (b:=B32) (by decide) _ (dgs_lt (b:=B32) (by decide) m)
 have a2:=vL_lt (b:=B32) (by decide) _ (dgs_lt (b:=B32) (by decide) n)
 rw [vL_dgs (by decide)] at a1 a2
 have b1:B32 ^ (dgs B32 m).length<=B32 ^ k:=Nat.pow_le_pow_right (by decide) h1
 have b2:B32 ^ (dgs B32 n).length<=B32 ^ k:=Nat.pow_le_pow_right (by decide) h2
 rw [Nat.pow_succ]
 have:B32 ^ k*2<=B32 ^ k*B32:=Nat.mul_le_mul_left _ (by decide)
 omega
theorem dgs_mul {m n k l:Nat} (h1:(dgs B32 m).length<=k) (h2:(dgs B32 n).length<=l):(dgs B32 (m*n)).length<=k+l:=by
 refine dgs_bound (by decide) _ _ ?_
 have a1:=vL_lt (b:=B32) (by decide) _ (dgs_lt (b:=B32) (by decide) m)
 have a2:=vL_lt (b:=B32) (by decide) _ (dgs_lt (b:=B32) (by decide) n)
 rw [vL_dgs (by decide)] at a1 a2
 rw [Nat.pow_add]
 exact Nat.mul_lt_mul'' (Nat.lt_of_lt_of_le a1 (Nat.pow_le_pow_right (by decide) h1)) (Nat.lt_of_lt_of_le a2 (Nat.pow_le_pow_right (by decide) h2))
theorem natAdd_holds (a b:List UInt8) (w:World) (ha:a.length<=536870912) (hb:b.length<=536870912) :
  Calls Tryz.prog 118 #[.string (bs a),.string (bs b)] w fun e w'=>e=.returned (.string (bs (nB (vB a+vB b))))/\Below w.heap.size w w':=by
 have hla:=vB_dgs ha
 have hlb:=vB_dgs hb
 have hlc:=dgs_add hla hlb
 refine enterA [(0,.string (bs a)),(1,.string (bs b))] Tryz.func118 Tryz.ntmps118 ?_
 repeat' first|(refine gp ?_;and_intros<;>first|exact trivial|repeat first|intro(Bk:Nat)|intro h)|(apply G.cN (g:=115) (vs:=[.string (bs a)]) (fun a' c'=>.slice a' (dgs B32 (vB a)).length c') ((dgs B32 (vB a)).map lmV);rfl;rfl;exact fun w' _=>load_holds a w' (by omega);intro a1 c1 hp1 hq1)|(apply G.cN (g:=115) (vs:=[.string (bs b)]) (fun a' c'=>.slice a' (dgs B32 (vB b)).length c') ((dgs B32 (vB b)).map lmV);rfl;rfl;exact fun w' _=>load_holds b w' (by omega);intro a2 c2 hp2 hq2)|(apply G.cN (g:=161) (fun a' c'=>.slice a' (dgs B32 (vB a+vB b)).length c') ((dgs B32 (vB a+vB b)).map lmV);rfl;rfl;exact fun w' hw=>plus_holds _ _ _ _ _ _ w' (by omega) (by omega) (hw.sl (by exact mm)) (hw.sl (by exact mm));intro a3 c3 hp3 hq3)|(apply G.cV (g:=116);rfl;rfl;exact fun w' hw=>text_holds _ _ _ w' (by omega) (hw.sl (by exact mm)))
 all_goals refine ret1b Tryz.func118 Tryz.results118 ?_
 all_goals rfl
theorem natMul_holds (a b:List UInt8) (w:World) (ha:a.length<=536870912) (hb:b.length<=536870912) :
  Calls Tryz.prog 117 #[.string (bs a),.string (bs b)] w fun e w'=>e=.returned (.string (bs (nB (vB a*vB b))))/\Below w.heap.size w w':=by
 have hla:=vB_dgs ha
 have hlb:=vB_dgs hb
 have hlc:=dgs_mul hla hlb
 refine enterA [(0,.string (bs a)),(1,.string (bs b))] Tryz.func117 Tryz.ntmps117 ?_
 repeat' first|(refine gp ?_;and_intros<;>first|exact trivial|repeat first|intro(Bk:Nat)|intro h)|(apply G.cN (g:=115) (vs:=[.string (bs a)]) (fun a' c'=>.slice a' (dgs B32 (vB a)).length c') ((dgs B32 (vB a)).map lmV);rfl;rfl;exact fun w' _=>load_holds a w' (by omega);intro a1 c1 hp1 hq1)|(apply G.cN (g:=115) (vs:=[.string (bs b)]) (fun a' c'=>.slice a' (dgs B32 (vB b)).length c') ((dgs B32 (vB b)).map lmV);rfl;rfl;exact fun w' _=>load_holds b w' (by omega);intro a2 c2 hp2 hq2)|(apply G.cN (g:=157) (fun a' c'=>.slice a' (dgs B32 (vB a*vB b)).length c') ((dgs B32 (vB a*vB b)).map lmV);rfl;rfl;exact fun w' hw=>times_holds _ _ _ _ _ _ w' (by omega) (by omega) (hw.sl (by exact mm)) (hw.sl (by exact mm));intro a3 c3 hp3 hq3)|(apply G.cV (g:=116);rfl;rfl;exact fun w' hw=>text_holds _ _ _ w' (by omega) (hw.sl (by exact mm)))
 all_goals refine ret1b Tryz.func117 Tryz.results117 ?_
 all_goals rfl
theorem natCmp_holds (a b:List UInt8) (w:World) (ha:a.length<=536870912) (hb:b.length<=536870912) :
  Calls Tryz.prog 119 #[.string (bs a),.string (bs b)] w fun e w'=>e=.returned (.int .i64 (cmpI (vB a) (vB b)))/\Below w.heap.size w w':=by
 have hla:=vB_dgs ha
 have hlb:=vB_dgs hb
 refine enterA [(0,.string (bs a)),(1,.string (bs b))] Tryz.func119 Tryz.ntmps119 ?_
 repeat' first|(refine gp ?_;and_intros<;>first|exact trivial|repeat first|intro(Bk:Nat)|intro h)|(apply G.cN (g:=115) (vs:=[.string (bs a)]) (fun a' c'=>.slice a' (dgs B32 (vB a)).length c') ((dgs B32 (vB a)).map lmV);rfl;rfl;exact fun w' _=>load_holds a w' (by omega);intro a1 c1 hp1 hq1)|(apply G.cN (g:=115) (vs:=[.string (bs b)]) (fun a' c'=>.slice a' (dgs B32 (vB b)).length c') ((dgs B32 (vB b)).map lmV);rfl;rfl;exact fun w' _=>load_holds b w' (by omega);intro a2 c2 hp2 hq2)|(apply G.cV (g:=152);rfl;rfl;exact fun w' hw=>compare_holds _ _ _ _ _ _ w' (by omega) (by omega) (hw.sl (by exact mm)) (hw.sl (by exact mm)))
 all_goals refine ret1b Tryz.func119 Tryz.results119 ?_
 all_goals rfl
theorem natSub_holds (a b:List UInt8) (w:World) (ha:a.length<=536870912) (hb:b.length<=536870912) (hle:vB b<=vB a) :
  Calls Tryz.prog 120 #[.string (bs a),.string (bs b)] w fun e w'=>e=.returned (.tuple #[.string (bs (nB (vB a-vB b))),.int .i64 0])/\Below w.heap.size w w':=by
 have hla:=vB_dgs ha
 have hlb:=vB_dgs hb
 have hlc:=dgs_len_mono (b:=B32) (by decide) (Nat.sub_le (vB a) (vB b))
 have hcm:=fun (w':World) (x:Option Addr) (c:Nat) (y:Option Addr) (d:Nat) (h1:SlAt w' x 1 ((dgs B32 (vB a)).map lmV)) (h2:SlAt w' y 1 ((dgs B32 (vB b)).map lmV))=>compare_holds x (vB a) c y (vB b) d w' (by omega) (by omega) h1 h2
 have hc0:0<=cmpI (vB a) (vB b):=by
  rcases Nat.lt_or_ge (vB b) (vB a) with h|h
  ·rw [cmpI_gt (by omega)];decide
  ·rw [show vB a=vB b by omega,cmpI_eq];decide
 generalize cmpI (vB a) (vB b)=cc at *
 refine enterA [(0,.string (bs a)),(1,.string (bs b))] Tryz.func120 Tryz.ntmps120 ?_
 repeat' first|(refine gp ?_;and_intros<;>first|exact trivial|repeat first|intro(Bk:Nat)|intro h)|(apply G.cN (g:=115) (vs:=[.string (bs a)]) (fun a' c'=>.slice a' (dgs B32 (vB a)).length c') ((dgs B32 (vB a)).map lmV);rfl;rfl;exact fun w' _=>load_holds a w' (by omega);intro a1 c1 hp1 hq1)|(apply G.cN (g:=115) (vs:=[.string (bs b)]) (fun a' c'=>.slice a' (dgs B32 (vB b)).length c') ((dgs B32 (vB b)).map lmV);rfl;rfl;exact fun w' _=>load_holds b w' (by omega);intro a2 c2 hp2 hq2)|(apply G.cV (g:=152);rfl;rfl;exact fun w' hw=>hcm w' _ _ _ _ (hw.sl (by exact mm)) (hw.sl (by exact mm)))|(apply G.cN (g:=158) (fun a' c'=>.slice a' (dgs B32 (vB a-vB b)).length c') ((dgs B32 (vB a-vB b)).map lmV);rfl;rfl;exact fun w' hw=>minus_holds _ _ _ _ _ _ w' (by omega) (by omega) (hw.sl (by exact mm)) (hw.sl (by exact mm)) hle;intro a3 c3 hp3 hq3)|(apply G.cV (g:=116);rfl;rfl;exact fun w' hw=>text_holds _ _ _ w' (by omega) (hw.sl (by exact mm)))
 all_goals refine ret2b Tryz.func120 Tryz.results120 ?_
 all_goals rfl
theorem by_any (a:Option Addr) (m c:Nat) (b:Option Addr) (n d:Nat) (w:World) (hl:(dgs B32 m).length<=268435456) (hA:SlAt w a 1 ((dgs B32 m).map lmV)) (hB:SlAt w b 1 ((dgs B32 n).map lmV)) (hge:n<=m) (hn:n≠0) :
  Calls Tryz.prog 114 #[.slice a (dgs B32 m).length c,.slice b (dgs B32 n).length d] w (RetLL (m / n) (m % n) w):=by
 have h0:(dgs B32 n).length≠0:=by rw [dgs_pos (by decide) hn];simp
 rcases Nat.lt_or_ge (dgs B32 n).length 2 with h|h
 ·exact by_one a m c b n d w (by omega) hA hB hge (by omega)
 ·exact by_ge a m c b n d w hl hA hB hge h
theorem natDivMod_holds (a b:List UInt8) (w:World) (ha:a.length<=536870912) (hb:b.length<=536870912) (hn:vB b≠0) :
  Calls Tryz.prog 123 #[.string (bs a),.string (bs b)] w fun e w'=>e=.returned (.tuple #[.string (bs (nB (vB a / vB b))),.string (bs (nB (vB a % vB b))),.int .i64 0])/\Below w.heap.size w w':=by
 have hla:=vB_dgs ha
 have hlb:=vB_dgs hb
 have hlc:=dgs_len_mono (b:=B32) (by decide) (Nat.div_le_self (vB a) (vB b))
 have hld:=dgs_len_mono (b:=B32) (by decide) (Nat.mod_le (vB a) (vB b))
 have hn1:(dgs B32 (vB b)).length≠0:=by rw [dgs_pos (by decide) hn];simp
 rcases Nat.lt_or_ge (vB a) (vB b) with hlt|hge
 ·rw [Nat.mod_eq_of_lt hlt,Nat.div_eq_of_lt hlt] at *
  have hz:(dgs B32 0).length=0:=by rw [dgs_zero];rfl
  refine enterA [(0,.string (bs a)),(1,.string (bs b))] Tryz.func123 Tryz.ntmps123 ?_
  repeat' first|(refine gp ?_;and_intros<;>first|exact trivial|repeat first|intro(Bk:Nat)|intro h)|(apply G.cN (g:=115) (vs:=[.string (bs a)]) (fun a' c'=>.slice a' (dgs B32 (vB a)).length c') ((dgs B32 (vB a)).map lmV);rfl;rfl;exact fun w' _=>load_holds a w' (by omega);intro a1 c1 hp1 hq1)|(apply G.cN (g:=115) (vs:=[.string (bs b)]) (fun a' c'=>.slice a' (dgs B32 (vB b)).length c') ((dgs B32 (vB b)).map lmV);rfl;rfl;exact fun w' _=>load_holds b w' (by omega);intro a2 c2 hp2 hq2)|(apply G.cV (g:=114);rfl;rfl;exact fun w' hw=>by_lt _ _ _ _ _ _ w' (by omega) (by omega) (hw.sl (by exact mm)) (hw.sl (by exact mm)) hlt)|(apply G.cV (g:=116) (vs:=[.slice none 0 0]) (v:=.string (bs (nB 0)));rfl;rfl;exact fun w' hw=>(by have h:=text_holds none 0 0 w' (by omega) (by rw [dgs_zero];exact SlAt.nil);rw [hz] at h;exact h))|(apply G.cV (g:=116);rfl;rfl;exact fun w' hw=>text_holds _ _ _ w' (by omega) (hw.sl (by exact mm)))
  all_goals refine ret3b Tryz.func123 Tryz.results123 ?_
  all_goals rfl
 ·skip
  refine enterA [(0,.string (bs a)),(1,.string (bs b))] Tryz.func123 Tryz.ntmps123 ?_
  repeat' first|(refine gp ?_;and_intros<;>first|exact trivial|repeat first|intro(Bk:Nat)|intro h)|(apply G.cN (g:=115) (vs:=[.string (bs a)]) (fun a' c'=>.slice a' (dgs B32 (vB a)).length c') ((dgs B32 (vB a)).map lmV);rfl;rfl;exact fun w' _=>load_holds a w' (by omega);intro a1 c1 hp1 hq1)|(apply G.cN (g:=115) (vs:=[.string (bs b)]) (fun a' c'=>.slice a' (dgs B32 (vB b)).length c') ((dgs B32 (vB b)).map lmV);rfl;rfl;exact fun w' _=>load_holds b w' (by omega);intro a2 c2 hp2 hq2)|(apply G.cN2 (g:=114) (fun x1 c1 x2 c2=>.tuple #[.slice x1 (dgs B32 (vB a / vB b)).length c1,.slice x2 (dgs B32 (vB a % vB b)).length c2]) ((dgs B32 (vB a / vB b)).map lmV) ((dgs B32 (vB a % vB b)).map lmV);rfl;rfl;exact fun w' hw=>by_any _ _ _ _ _ _ w' (by omega) (hw.sl (by exact mm)) (hw.sl (by exact mm)) hge hn;intro a3 c3 a4 c4 hp3 hp4 hq3 hq4)|(apply G.cV (g:=116);rfl;rfl;exact fun w' hw=>text_holds _ _ _ w' (by omega) (hw.sl (by exact mm)))
  all_goals refine ret3b Tryz.func123 Tryz.results123 ?_
  all_goals rfl
theorem natValid_holds (a:List UInt8) (w:World):Calls Tryz.prog 67 #[.string (bs a)] w fun e w'=>e=.returned (.bool (decide (nB (vB a)=a)))/\Below w.heap.size w w':=by
 refine enterA [(0,.string (bs a))] Tryz.func67 Tryz.ntmps67 ?_
 cases a with
 | nil =>
  repeat' first|(refine gp ?_;and_intros<;>first|exact trivial|repeat first|intro(Bk:Nat)|intro h)|(apply G.eqlStr;rfl;rfl;rfl;rfl;rfl;all_goals intro h;all_goals try (exact absurd rfl h))
  all_goals refine ret1b Tryz.func67 Tryz.results67 ?_
  all_goals exact ret_bool (by simp [vB,nB_zero])
 | cons x r =>
  by_cases hx:x=0
  ·subst hx
   have hz:(((0:UInt8)).toNat:Int)=0:=rfl
   have hr:decide (nB (vB (0::r))=0::r)=false:=by
    refine decide_eq_false fun e=>nB_head (vB (0::r)) ?_
    rw [e];rfl
   rw [hr]
   repeat' first|(refine gp ?_;and_intros<;>first|exact trivial|repeat first|intro(Bk:Nat)|intro h)|(apply G.eqlStr;rfl;rfl;rfl;rfl;rfl;all_goals intro h;all_goals try (cases h;done))|(apply G.sx (i:=0);rfl;rfl;rfl;rfl;rfl)
   all_goals refine ret1b Tryz.func67 Tryz.results67 ?_
   all_goals rfl
  ·have hz:((x.toNat:Nat):Int)≠0:=by
    intro e
    exact hx (UInt8.toNat_inj.1 (by simpa using e))
   rw [decide_eq_true (nB_vB_of hx)]
   repeat' first|(refine gp ?_;and_intros<;>first|exact trivial|repeat first|intro(Bk:Nat)|intro h)|(apply G.eqlStr;rfl;rfl;rfl;rfl;rfl;all_goals intro h;all_goals try (cases h;done))|(apply G.sx (i:=0);rfl;rfl;rfl;rfl;rfl)
   all_goals refine ret1b Tryz.func67 Tryz.results67 ?_
   all_goals rfl
end Go.Proofs.YtjcecdmbfmccoaaGreatDoor
