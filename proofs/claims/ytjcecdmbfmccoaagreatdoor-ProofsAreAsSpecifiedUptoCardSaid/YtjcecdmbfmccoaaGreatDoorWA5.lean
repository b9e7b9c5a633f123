/-
  Contracts of the natural numbers as bytes: Gcd, Int.
-/
import Derived.Test.YtjcecdmbfmccoaaGreatDoorWA4
import Derived.ProofKit
import Derived.Test.YtjcecdmbfmccoaaGreatDoorRows
set_option linter.unusedVariables false
set_option linter.unusedSimpArgs false
set_option linter.unusedSectionVars false
namespace Go.Proofs.YtjcecdmbfmccoaaGreatDoor
open Go.RowKit Go.Sl Go.Num
def Src (x:Option Addr) (m:Nat) (y:Option Addr) (n:Nat) (w:World) (p:Addr):Prop:=(x=some p/\m≠0)∨(y=some p/\n≠0)∨w.heap.size<=p.block
theorem jW {n:Nat} (h:n≠0):0 < (dgs B32 n).length:=by rw [iW dc h];simp
theorem Js {w:World}{x:Option Addr}{m:Nat}{p:Addr} (h:aE w x 1 ((dgs B32 m).map lmV)) (hm:m≠0) (hp:x=some p):p.block < w.heap.size:=h.lt (by rw [List.length_map];exact jW hm) hp
abbrev O8 (B:Nat):Value:=.func (.func 113) #[] #[.pointer (some ⟨B,0,none⟩)]
theorem F5:∀ (n m:Nat) (x:Option Addr) (c:Nat) (y:Option Addr) (d B:Nat) (w:World),(dgs B32 m).length<=268435456->(dgs B32 n).length<=268435456->aE w x 1 ((dgs B32 m).map lmV)->aE w y 1 ((dgs B32 n).map lmV)->bG w B 0 [O8 B] ->
  Calls Tryz.prog 113 #[.slice x (dgs B32 m).length c,.slice y (dgs B32 n).length d,.pointer (some ⟨B,0,none⟩)] w fun e w'=>∃ a' c',e=.returned (.slice a' (dgs B32 (Nat.gcd m n)).length c')/\aE w' a' 1 ((dgs B32 (Nat.gcd m n)).map lmV)/\(∀ p,a'=some p->Nat.gcd m n≠0->Src x m y n w p)/\Below w.heap.size w w':=by
 intro n
 induction n using Nat.strongRecOn with
 | _ n ih =>
 intro m x c y d B w hlm hln hX hY hB;by_cases hn:n=0
 ·subst hn
  have hz:(dgs B32 0).length=0:=by rw [cS];rfl
  rw [Nat.gcd_zero_right,hz];refine aB [(0,.slice x (dgs B32 m).length c),(1,.slice y 0 d),(2,.pointer (some ⟨B,0,none⟩))] Tryz.func113 Tryz.ntmps113 ?_;all_goals (refine go ?_;and_intros<;>first|exact trivial|repeat first|intro(Bk:Nat)|intro h)
  (refine kE Tryz.func113 Tryz.results113 ?_;intro w' hw)
  exact ⟨x,c,rfl,hX.below hw.below,fun p hp h0=>.inl ⟨hp,h0⟩,hw.below⟩
 have hnl:=jW hn;rcases Nat.lt_or_ge m n with hlt|hge
 ·have hrec:∀ (w':World),Below w.heap.size w w'->Calls Tryz.prog 113 #[.slice y (dgs B32 n).length d,.slice x (dgs B32 m).length c,.pointer (some ⟨B,0,none⟩)] w' fun e w2=>∃ a' c',e=.returned (.slice a' (dgs B32 (Nat.gcd m n)).length c')/\aE w2 a' 1 ((dgs B32 (Nat.gcd m n)).map lmV)/\(∀ p,a'=some p->0 < ((dgs B32 (Nat.gcd m n)).map lmV).length->p.block < w.heap.size∨w'.heap.size<=p.block)/\(∀ p,a'=some p->Nat.gcd m n≠0->Src x m y n w p)/\Below w'.heap.size w' w2:=by
   intro w' hw;have h1:=ih m hlt n y d x c B w' hln hlm (hY.below hw) (hX.below hw) (hB.below hw);rw [Nat.gcd_comm] at h1;refine h1.mono fun e w2 ⟨a',c',he,hs,hp,hb⟩=>⟨a',c',he,hs,fun p hpp hl=>?_,fun p hpp h0=>?_,hb⟩
   ·have h0:Nat.gcd m n≠0:=fun e=>by rw [e,cS] at hl;exact absurd hl dc
    rcases hp p hpp h0 with ⟨h,h2⟩|⟨h,h2⟩|h
    ·exact .inl (Js hY h2 h)
    ·exact .inl (Js hX h2 h)
    ·exact .inr h
   ·rcases hp p hpp h0 with h|h|h
    ·exact .inr (.inl h)
    ·exact .inl h
    ·exact .inr (.inr (Nat.le_trans hw.size h))
  have hby:=fun (w':World) (hw:Below w.heap.size w w')=>MG x m c y n d w' om om (hX.below hw) (hY.below hw) hlt
  clear ih;refine aB [(0,.slice x (dgs B32 m).length c),(1,.slice y (dgs B32 n).length d),(2,.pointer (some ⟨B,0,none⟩))] Tryz.func113 Tryz.ntmps113 ?_;repeat' first|(refine gp ?_;and_intros<;>first|exact trivial|repeat first|intro(Bk:Nat)|intro h)|(apply G.cV (g:=114);rfl;rfl;exact fun w' hw=>hby w' hw.below)|(apply G.QU (g:=113) (fun a'=>∀ p,a'=some p->Nat.gcd m n≠0->Src x m y n w p) (fun a' c'=>.slice a' (dgs B32 (Nat.gcd m n)).length c') ((dgs B32 (Nat.gcd m n)).map lmV);rfl;rfl;rfl;exact fun w' hw=>(hrec w' hw.below).mono fun e w2 ⟨a',c',he,hs,hf,hq,hb⟩=>⟨a',c',he,hs,fun p hp hl=>(hf p hp hl).imp id .inl,hq,hb⟩;intro a3 c3 hp3 hq3)
  (refine kE Tryz.func113 Tryz.results113 ?_;intro w' hw)
  exact ⟨a3,c3,rfl,hw.sl (by exact mm),hq3,hw.below⟩
 ·have hge2:Nat.gcd n (m % n)=Nat.gcd m n:=by rw [Nat.gcd_comm m n,Nat.gcd_rec n m,Nat.gcd_comm]
  have hlr:=dA (b:=B32) dc (Nat.mod_le m n);have hby:=fun (w':World) (hw:Below w.heap.size w w')=>Jr x m c y n d w' hlm (hX.below hw) (hY.below hw) hge hn
  have hrec:=fun (w':World) (a4:Option Addr) (c4:Nat) (hw:Below w.heap.size w w') (h4:aE w' a4 1 ((dgs B32 (m % n)).map lmV))=>ih (m % n) (Nat.mod_lt _ om) n y d a4 c4 B w' hln om (hY.below hw) h4 (hB.below hw)
  rw [hge2] at hrec;clear ih;refine aB [(0,.slice x (dgs B32 m).length c),(1,.slice y (dgs B32 n).length d),(2,.pointer (some ⟨B,0,none⟩))] Tryz.func113 Tryz.ntmps113 ?_;repeat' first|(refine gp ?_;and_intros<;>first|exact trivial|repeat first|intro(Bk:Nat)|intro h)|(apply G.Rv (g:=114) (fun x1 c1 x2 c2=>.tuple #[.slice x1 (dgs B32 (m / n)).length c1,.slice x2 (dgs B32 (m % n)).length c2]) ((dgs B32 (m / n)).map lmV) ((dgs B32 (m % n)).map lmV);rfl;rfl;exact fun w' hw=>hby w' hw.below;intro a3 c3 a4 c4 hp3 hp4 hq3 hq4)
  apply G.QU (g:=113) (fun a'=>∀ p,a'=some p->Nat.gcd m n≠0->Src x m y n w p) (fun a' c'=>.slice a' (dgs B32 (Nat.gcd m n)).length c') ((dgs B32 (Nat.gcd m n)).map lmV)
  ·rfl
  ·rfl
  ·rfl
  ·intro w' hw
   refine (hrec w' a4 c4 hw.below (hw.sl (by exact mm))).mono fun e w2 ⟨a',c',he,hs,hp,hb⟩=>⟨a',c',he,hs,fun p hpp hl=>?_,fun p hpp h0=>?_,hb⟩
   ·have h0:Nat.gcd m n≠0:=fun e=>by rw [e,cS] at hl;exact absurd hl dc
    rcases hp p hpp h0 with ⟨h,h2⟩|⟨h,h2⟩|h
    ·exact .inl (Js hY h2 h)
    ·exact .inr (.inr ⟨aL w.heap.size a4 1 ((dgs B32 (m % n)).map lmV),by exact mm,fun k h=>h,by rw [List.length_map];exact jW h2,p,h,rfl,hq4 p h⟩)
    ·exact .inr (.inl h)
   ·rcases hp p hpp h0 with h|⟨h,h2⟩|h
    ·exact .inr (.inl h)
    ·exact .inr (.inr (hq4 p h))
    ·exact .inr (.inr (Nat.le_trans hw.size h))
  intro a5 c5 hp5 hq5;all_goals (refine go ?_;and_intros<;>first|exact trivial|repeat first|intro(Bk:Nat)|intro h)
  (refine kE Tryz.func113 Tryz.results113 ?_;intro w' hw)
  exact ⟨a5,c5,rfl,hw.sl (by exact mm),hq5,hw.below⟩
theorem uJ (a b:List UInt8) (w:World) (ha:a.length<=536870912) (hb:b.length<=536870912) :
  CR 68 #[.string (bs a),.string (bs b)] w (.string (bs (nB (Nat.gcd (vB a) (vB b))))):=by
 have hla:=kG ha;have hlb:=kG hb;have hlc:(dgs B32 (Nat.gcd (vB a) (vB b))).length<=134217728:=by
  by_cases h:vB a=0
  ·rw [h,Nat.gcd_zero_left];exact hlb
  ·exact Nat.le_trans (dA dc (Nat.gcd_le_left _ om)) hla
 have hrec:=fun (w':World) (a1:Option Addr) (c1:Nat) (a2:Option Addr) (c2 B:Nat) (h1:aE w' a1 1 ((dgs B32 (vB a)).map lmV)) (h2:aE w' a2 1 ((dgs B32 (vB b)).map lmV)) (hB:bG w' B 0 [O8 B])=>F5 (vB b) (vB a) a1 c1 a2 c2 B w' om om h1 h2 hB
 refine aB [(0,.string (bs a)),(1,.string (bs b))] Tryz.func68 Tryz.ntmps68 ?_;all_goals (refine goR ?_;and_intros<;>(try exact trivial)<;>repeat (first|refine fun (Bk:Nat)=>?_|intro h))
 repeat' ((first|(apply G.mf;rfl;rfl)|(apply J.Py (.q 0 <| .q 1 <| .q 3 <| .e 2 <| .e 4 <| .r 5 <| .r 6 <| .q 7 <| .nil);exact Tryz.Pr;decide +kernel)|(apply G.cN (g:=115) (vs:=[.string (bs a)]) (fun a' c'=>.slice a' (dgs B32 (vB a)).length c') ((dgs B32 (vB a)).map lmV);rfl;rfl;exact fun w' _=>dC a w' om;intro a1 c1 hp1 hq1)|(apply G.cN (g:=115) (vs:=[.string (bs b)]) (fun a' c'=>.slice a' (dgs B32 (vB b)).length c') ((dgs B32 (vB b)).map lmV);rfl;rfl;exact fun w' _=>dC b w' om;intro a2 c2 hp2 hq2)|(apply G.cV (g:=116);rfl;rfl;exact fun w' hw=>fK _ _ _ w' om (hw.sl (by exact mm)))|(apply J.Pz;exact Tryz.Pr;decide +kernel)|(apply J.P3;exact Tryz.Pr;decide +kernel))<;>(refine goR ?_;and_intros<;>(try exact trivial)<;>repeat (first|refine fun (Bk:Nat)=>?_|intro h)))
 apply G.QU (g:=113) (fun _=>True) (fun a' c'=>.slice a' (dgs B32 (Nat.gcd (vB a) (vB b))).length c') ((dgs B32 (Nat.gcd (vB a) (vB b))).map lmV)
 ·rfl
 ·rfl
 ·rfl
 ·intro w' hw
  refine (hrec w' a1 c1 a2 c2 Bk (hw.sl (by exact mm)) (hw.sl (by exact mm)) (hw.rowAt (by exact mm))).mono fun e w2 ⟨a',c',he,hs,hp,hbl⟩=>⟨a',c',he,hs,fun p hpp hl=>?_,trivial,hbl⟩
  have h0:Nat.gcd (vB a) (vB b)≠0:=fun e=>by rw [e,cS] at hl;exact absurd hl dc
  rcases hp p hpp h0 with ⟨h,h2⟩|⟨h,h2⟩|h
  ·exact .inr (.inr ⟨aL w.heap.size a1 1 ((dgs B32 (vB a)).map lmV),by exact mm,fun k h=>h,by rw [List.length_map];exact jW h2,p,h,rfl,hq1 p h⟩)
  ·exact .inr (.inr ⟨aL w.heap.size a2 1 ((dgs B32 (vB b)).map lmV),by exact mm,fun k h=>h,by rw [List.length_map];exact jW h2,p,h,rfl,hq2 p h⟩)
  ·exact .inr (.inl h)
 intro a3 c3 hp3 _;repeat' first|(refine gp ?_;and_intros<;>first|exact trivial|repeat first|intro(Bk:Nat)|intro h)|(apply G.cE (g:=116);rfl;rfl;exact fun w' hw=>fK _ _ _ w' om (hw.sl (by exact mm)))
 all_goals exact aA Tryz.func68 Tryz.results68 rfl
theorem GV {n:Nat} (h:n < 9223372036854775808):n / B32 < B32:=by show n / 4294967296 < 4294967296;omega
theorem Dd (n:Nat) (w:World) (h:n < 9223372036854775808):CR 122 #[.int .i64 n] w (.tuple #[.string (bs (nB n)),.int .i64 0]):=by
 have ht:dI [n % B32,n / B32]=dgs B32 n:=by
  rw [iX (b:=B32) dc [n % B32,n / B32] (fun d hd=>?_)]
  ·congr 1;simp only [vL];rw [Nat.mul_zero,Nat.add_zero];exact Nat.mod_add_div n B32
  ·simp only [List.mem_cons,List.not_mem_nil,or_false] at hd
   rcases hd with rfl|rfl
   ·exact Nat.mod_lt _ dc
   ·exact GV h
 have hl:(dgs B32 n).length<=2:=by rw [<- ht];exact nA _
 have hs:(n:Int).fdiv (2 ^ (min 32 IntKind.i64.bits))=((n / B32:Nat):Int):=GT rfl rfl;have c1:IntKind.u32.wrap (n:Int)=((n % B32:Nat):Int):=CV n;have c2:IntKind.u32.wrap ((n / B32:Nat):Int)=((n / B32:Nat):Int):=by rw [CV];congr 1;exact Nat.mod_eq_of_lt (GV h)
 generalize n / B32=nh at *;generalize n % B32=nl at *;refine aB [(0,.int .i64 n)] Tryz.func122 Tryz.ntmps122 ?_;repeat' (first|(apply G.PN (n:=32);rfl;rfl;rfl;exact hs;rfl;rfl;rfl)|(apply G.PL;rfl;exact c1;rfl;rfl;rfl)|(apply G.PL;rfl;exact c2;rfl;rfl;rfl)|(apply G.Pu;rfl;rfl;rfl;rfl;rfl;rfl;rfl;rfl;intro Bs)|(apply G.cV (g:=154);rfl;rfl;exact fun w' hw=>iP (l:=[nl,nh]) hw (by exact mm) rfl ht dc dc)|(apply G.cV (g:=116);rfl;rfl;exact fun w' hw=>fK _ n _ w' om (tC (l:=[nl,nh]) hw (by exact mm) ht))|(apply G.pu;rfl;rfl;first|exact trivial|omega)|(apply J.ct;rfl)|(apply G.nil;rfl)|(apply G.cm;rfl;rfl;all_goals intro h;all_goals try (exfalso;omega))|(apply G.fa;rfl;rfl)|(apply G.ld;rfl;(first|(apply LdV.one;(first|exact aC.P0 (by assumption) rfl|exact aC.rowS (by assumption) rfl|exact aC.Px (by assumption) rfl|(apply aC.blk;exact mm;rfl)))|(apply LdV.Pw;exact mm;rfl)|(apply LdV.part;exact mm;rfl;rfl)|(apply LdV.Pv;assumption;rfl)|(apply LdV.Ps;assumption;rfl;rfl));rfl)|(apply G.sk;rfl)|(apply G.ls;rfl;rfl)|(apply G.ix;rfl;rfl;rfl;omega;rfl)|(apply G.ix;rfl;rfl;(first|exact bU _|exact bJ _);omega;rfl)|(apply G.lt;rfl;rfl)|(apply G.bu;rfl;rfl;rfl)|(apply G.fd;rfl;rfl;rfl)|(apply G.cv;rfl;rfl;rfl;omega)|(apply G.beq;rfl;rfl;rfl)|(apply G.P9;rfl;rfl;rfl)|(apply G.mm;rfl;rfl)|(apply G.mf;rfl;rfl)|(apply G.mx;rfl;rfl;rfl)|(apply G.mn;rfl;rfl;rfl)|(apply G.bx;rfl;rfl;rfl;intro Bk)|(apply G.al;rfl;intro Bk)|(apply G.so;rfl;rfl;(repeat (first|exact RAt.head|apply RAt.tail));rfl;rfl)|(apply G.ss;rfl;rfl;(repeat (first|exact RAt.head|apply RAt.tail));rfl;rfl)|(apply J.Pz;exact Tryz.Pr;decide +kernel)|(apply J.P4;exact Tryz.Pr;decide +kernel)|apply J.PA)
 all_goals exact hU Tryz.func122 Tryz.results122 rfl
theorem dD (l:List UInt8) (w:World) (hl:l.length<=1073741824) :
  CR 135 #[.string (bs l)] w (.string (bs (nB (vB l)))):=by
 rw [<- mX];refine aB [(0,.string (bs l))] Tryz.func135 Tryz.ntmps135 ?_;all_goals (refine go ?_;and_intros<;>first|exact trivial|repeat first|intro(Bk:Nat)|intro h)
 refine J.loop (c:=_) (0:Nat) (fun s=>l.length-s) (fun s=>[(0,.string (bs l)),(3,.int .i64 s)]) (fun s=>[]) (fun s=>s<=l.length/\(l.drop s).dropWhile (· == 0)=l.dropWhile (· == 0)) ?_ sbT sbL ?_
 ·exact ⟨Nat.zero_le _,rfl⟩
 intro k ⟨hk,hd⟩ ih;by_cases hlt:k < l.length
 ·have hdr:l.drop k=l[k]::l.drop (k+1):=List.drop_eq_getElem_cons hlt
  have hg:l[k]?=some l[k]:=gE hlt;rw [hdr] at hd;generalize l[k]=x at *;by_cases hx:x=0
  ·subst hx
   have hz:(((0:UInt8)).toNat:Int)=0:=rfl;repeat' first|(refine gp ?_;and_intros<;>first|exact trivial|repeat first|intro(Bk:Nat)|intro h)|(apply G.sx (i:=k);rfl;rfl;rfl;exact hg;rfl)
   exact J.fin (ih (k+1) ⟨by omega,by rw [<- hd];simp⟩ om)
  ·have hz:((x.toNat:Nat):Int)≠0:=fun e=>hx (UInt8.toNat_inj.1 (by simpa using e))
   have hdx:(x::l.drop (k+1)).dropWhile (· == 0)=x::l.drop (k+1):=by simp [hx]
   rw [hdx] at hd;rw [<- hd,<- hdr];repeat' first|(refine gp ?_;and_intros<;>first|exact trivial|repeat first|intro(Bk:Nat)|intro h)|(apply G.sx (i:=k);rfl;rfl;rfl;exact hg;rfl)|(apply G.PI (i:=k);rfl;rfl;rfl;omega;rfl;rfl;rfl)
   all_goals exact aA Tryz.func135 Tryz.results135 rfl
 ·have hke:k=l.length:=by omega
  subst hke;rw [List.drop_length] at hd;rw [<- hd];have hdl:l.drop l.length=[]:=List.drop_length;repeat' first|(refine gp ?_;and_intros<;>first|exact trivial|repeat first|intro(Bk:Nat)|intro h)|(apply G.PI (i:=l.length);rfl;rfl;rfl;omega;rfl;rfl;rfl)
  all_goals refine aA Tryz.func135 Tryz.results135 ?_
  all_goals exact yN hdl
theorem uK (l:List UInt8) (w:World) (hl:l.length<=1073741824) :
  CR 131 #[.string (bs l)] w (.bool (decide (nB (vB l)=l))):=by
 refine aB [(0,.string (bs l))] Tryz.func131 Tryz.ntmps131 ?_;by_cases hv:nB (vB l)=l
 ·rw [dT hv]
  repeat' first|(refine gp ?_;and_intros<;>first|exact trivial|repeat first|intro(Bk:Nat)|intro h)|(apply G.cV (g:=135);rfl;rfl;exact fun w' _=>dD l w' hl)|(apply G.eqlStr;rfl;rfl;rfl;rfl;rfl;all_goals intro h;all_goals try (exact absurd hv.symm h))
  all_goals exact aA Tryz.func131 Tryz.results131 rfl
 ·rw [dF hv]
  repeat' first|(refine gp ?_;and_intros<;>first|exact trivial|repeat first|intro(Bk:Nat)|intro h)|(apply G.cV (g:=135);rfl;rfl;exact fun w' _=>dD l w' hl)|(apply G.eqlStr;rfl;rfl;rfl;rfl;rfl;all_goals intro h;all_goals try (exact absurd h.symm hv))
  all_goals exact aA Tryz.func131 Tryz.results131 rfl
def dB (l:List UInt8):List Nat:=l.reverse.map UInt8.toNat
theorem wD (l:List UInt8):(dB l).length=l.length:=by simp [dB]
theorem BZ (l:List UInt8):∀ d∈dB l,d < 256:=fun d hd=>by
 obtain ⟨y,_,rfl⟩:=List.mem_map.1 hd;exact y.toNat_lt
theorem xP (l:List UInt8):vL 256 (dB l)=vB l:=(vW l).symm
theorem fH (l:List UInt8) (k:Nat) (w:World) (hl:l.length<=1073741824) :
  CR 133 #[.string (bs l),.int .i64 k] w (.int .i64 (((dB l).getD k 0:Nat):Int)):=by
 refine aB [(0,.string (bs l)),(1,.int .i64 k)] Tryz.func133 Tryz.ntmps133 ?_;by_cases hk:k < l.length
 ·have hg:l[l.length-1-k]?=some l[l.length-1-k]:=gE om
  have hd:(dB l).getD k 0=(l[l.length-1-k]).toNat:=by
   rw [dB,gD,List.getElem?_map,List.getElem?_reverse hk,hg];rfl
  have hb:=(l[l.length-1-k]).toNat_lt;rw [hd];generalize l[l.length-1-k]=x at *;repeat' first|(refine gp ?_;and_intros<;>first|exact trivial|repeat first|intro(Bk:Nat)|intro h)|(apply G.sx (i:=l.length-1-k);rfl;rfl;omega;exact hg;rfl)
  all_goals exact aA Tryz.func133 Tryz.results133 rfl
 ·have hd:(dB l).getD k 0=0:=by
   rw [gD,List.getElem?_eq_none (by rw [wD];omega)];rfl
  rw [hd];all_goals (refine go ?_;and_intros<;>first|exact trivial|repeat first|intro(Bk:Nat)|intro h)
  all_goals exact aA Tryz.func133 Tryz.results133 rfl
def iV (d:Nat):List Value:=[.int .i64 (d:Int)]
theorem zU (d:Nat):(iV d).length=1:=rfl
theorem O9 {w:World}{a:Option Addr}{x:List Nat}{k:Nat} (hA:aE w a 1 (x.map iV)) (hk:k < x.length):∃ b off,a=some ⟨b,off,none⟩/\bG w b (off+k*1) [.int .i64 ((x.getD k 0:Nat):Int)]:=by
 obtain ⟨b,off,h1,h2⟩:=hA.at k hk;refine ⟨b,off,h1,?_⟩;rw [gD,gE hk];exact h2
theorem Nv {p:List Nat}{j:Nat} (h:j < p.length):(flat iV p)[0+j*1]?=some (.int .i64 ((p.getD j 0:Nat):Int)):=by
 refine rF zU h ?_;rw [gD,gE h];rfl
theorem Nw {p:List Nat}{j d:Nat} (h:j < p.length):dU (flat iV p) (0+j*1) [.int .i64 (d:Int)]=flat iV (p.set j d):=lB zU h rfl
theorem Ia {l:List Nat} (h:∀ d∈l,d < 256):(l.reverse.map UInt8.ofNat).map u8V=l.reverse.map bV/\vB (l.reverse.map UInt8.ofNat)=vL 256 l:=by
 obtain ⟨e1,e2⟩:=Jq l.reverse fun d hd=>h d (List.mem_reverse.1 hd)
 refine ⟨e1,?_⟩;rw [vW,List.map_reverse,e2,List.reverse_reverse]
theorem uL (a:Option Addr) (l:List Nat) (c:Nat) (w:World) (hl:l.length<=1073741824) (hd:∀ d∈l,d < 256) (hA:aE w a 1 (l.map iV)) :
  CR 134 #[.slice a l.length c] w (.string (bs (nB (vL 256 l)))):=by
 refine aB [(0,.slice a l.length c)] Tryz.func134 Tryz.ntmps134 ?_;all_goals (refine go ?_;and_intros<;>first|exact trivial|repeat first|intro(Bk:Nat)|intro h)
 apply J.nilOwn (E:=5) (size:=1);refine J.loop (c:=_) ((l.length,0,(l.length:Int)-1,.slice none 0 0,[]):Nat×Nat×Int×Value×List Nat) (fun s=>s.1) (fun s=>[(0,.slice a l.length c),(3,s.2.2.2.1),(4,.int .i64 s.2.2.1)]) (fun s=>[.own 0 s.2.2.2.1 5 1 s.2.1 (flat bV s.2.2.2.2)]) (fun s=>s.1+s.2.1=l.length/\s.2.2.1=(s.1:Int)-1/\s.2.2.2.2=(l.drop s.1).reverse) ?_ sbT sbL ?_
 ·exact ⟨rfl,rfl,by simp⟩
 intro ⟨i,j,z,u,o⟩ ⟨h1,h2,h3⟩ ih;dsimp only at h1 h2 h3 ⊢;subst h3;rcases Nat.eq_zero_or_pos i with rfl|h0
 ·apply J.ownForm (i:=0) rfl
  intro a2 c2 hu;subst hu;obtain ⟨e1,e2⟩:=Ia hd;have e3:(l.reverse.map UInt8.ofNat).length=j:=by simp;omega
  rw [List.drop_zero];have hlr:l.reverse.length=j:=by simp;omega
  rw [<- e2];generalize l.reverse.map UInt8.ofNat=l8 at *;repeat' first|(refine gp ?_;and_intros<;>first|exact trivial|repeat first|intro(Bk:Nat)|intro h)|(apply G.PJ (E:=5) (l:=l8);rfl;exact e3;exact fun w' hw=>(e1 ▸ aE.P8 wC (hw.hold _ (.head _)) hlr);rfl;rfl;rfl)|(apply G.cV (g:=135) (vs:=[.string (bs l8)]);rfl;rfl;exact fun w' _=>dD l8 w' om)
  all_goals exact aA Tryz.func134 Tryz.results134 rfl
 ·obtain ⟨k,rfl⟩:∃ k,i=k+1:=⟨i-1,by omega⟩
  have hz:z=(k:Int):=by omega
  subst hz;obtain ⟨ba,oa,rfl,hrow⟩:=O9 hA (k:=k) om;have hg:=bZ dc hd k;have hdr:(l.drop k).reverse=(l.drop (k+1)).reverse++[l.getD k 0]:=by
   rw [List.drop_eq_getElem_cons (show k < l.length by omega),List.reverse_cons,gD,gE (show k < l.length by omega)];rfl
  generalize l.getD k 0=t at *;repeat' first|(refine gp ?_;and_intros<;>first|exact trivial|repeat first|intro(Bk:Nat)|intro h)|(apply G.Pu;rfl;rfl;rfl;rfl;rfl;rfl;rfl;rfl;intro Bs)|(apply G.ap;rfl;rfl;rfl;(repeat (first|exact RAt.head|apply RAt.tail));exact cB.blk (by exact mm) rfl rfl;exact jV bV _ t;omega;omega;intro v2)
  exact J.fin (ih (k,j+1,(k:Int)-1,v2,(l.drop (k+1)).reverse++[t]) ⟨by dsimp only;omega,rfl,hdr.symm⟩ (by dsimp only;omega))
theorem GW (x:UInt8) (r:List UInt8):vB (x::r)=x.toNat*256 ^ r.length+vB r:=by
 have:=lC [x] r;rw [List.singleton_append] at this;rw [this];simp [vB]
theorem zV:∀ {a b:List UInt8},a.length=b.length->(Op.bytesLess a b=true ↔ vB a < vB b)
 | [],[],_=>by simp [Op.bytesLess]
 | x::r,y::s,h=>by
  have hl:r.length=s.length:=by simpa using h
  have ih:=zV hl;have h1:=uD r;have h2:=uD s;rw [hl] at h1;rw [GW,GW,hl,Op.bytesLess];simp only [Bool.or_eq_true,decide_eq_true_eq,Bool.and_eq_true,beq_iff_eq,ih];rcases Nat.lt_trichotomy x.toNat y.toNat with hlt|heq|hgt
  ·have h3:(x.toNat+1)*256 ^ s.length<=y.toNat*256 ^ s.length:=Nat.mul_le_mul_right _ hlt
   rw [Nat.add_mul,Nat.one_mul] at h3;have h4:x < y:=UInt8.lt_iff_toNat_lt.2 hlt;exact ⟨fun _=>by omega,fun _=>.inl h4⟩
  ·have:x=y:=UInt8.toNat_inj.1 heq
   subst this;constructor
   ·rintro (h3|⟨_,h3⟩)
    ·exact absurd (UInt8.lt_iff_toNat_lt.1 h3) (Nat.lt_irrefl _)
    ·omega
   ·intro h3
    exact .inr ⟨rfl,by omega⟩
  ·have h3:(y.toNat+1)*256 ^ s.length<=x.toNat*256 ^ s.length:=Nat.mul_le_mul_right _ hgt
   rw [Nat.add_mul,Nat.one_mul] at h3;constructor
   ·rintro (h4|⟨h4,_⟩)
    ·have:=UInt8.lt_iff_toNat_lt.1 h4;omega
    ·subst h4;omega
   ·intro h4;omega
theorem eC {m n:Nat} (h:m<=n):(nB m).length<=(nB n).length:=by
 simp only [nB,List.length_reverse,List.length_map];exact dA dc h
theorem rH (a:List UInt8):(nB (vB a)).length<=a.length:=iY (uD a)
theorem F6 {m n:Nat} (h:m=n):hZ m n=0:=by rw [h,iE]
theorem tD (a b:List UInt8) (w:World) (ha:a.length<=1073741824) (hb:b.length<=1073741824) :
  CR 92 #[.string (bs a),.string (bs b)] w (.int .i64 (hZ (vB a) (vB b))):=by
 have hca:=fun (w':World)=>dD a w' ha
 have hcb:=fun (w':World)=>dD b w' hb
 refine aB [(0,.string (bs a)),(1,.string (bs b))] Tryz.func92 Tryz.ntmps92 ?_;rcases Nat.lt_trichotomy (vB a) (vB b) with hlt|heq|hgt
 ·rw [jT om]
  have hne:nB (vB a)≠nB (vB b):=fun e=>by have:=CL e;omega
  have hle:=eC (Nat.le_of_lt hlt);have hls:(nB (vB a)).length=(nB (vB b)).length->Op.bytesLess (nB (vB a)) (nB (vB b))=true:=fun h=>(zV h).2 (by rw [dL,dL];exact hlt)
  generalize nB (vB a)=x at *;generalize nB (vB b)=y at *;repeat' first|(refine gp ?_;and_intros<;>first|exact trivial|repeat first|intro(Bk:Nat)|intro h)|(apply G.cV (g:=135) (vs:=[.string (bs a)]);rfl;rfl;exact fun w' _=>hca w')|(apply G.cV (g:=135) (vs:=[.string (bs b)]);rfl;rfl;exact fun w' _=>hcb w')|(apply G.eqlStr;rfl;rfl;rfl;rfl;rfl;all_goals intro h;all_goals try (exact absurd h hne))|(apply G.Qs;rfl;rfl;rfl;rfl;rfl;all_goals intro h;all_goals try (rw [hls om] at h;cases h;done))
  all_goals exact aA Tryz.func92 Tryz.results92 rfl
 ·rw [F6 heq]
  have he:nB (vB a)=nB (vB b):=by rw [heq]
  repeat' first|(refine gp ?_;and_intros<;>first|exact trivial|repeat first|intro(Bk:Nat)|intro h)|(apply G.cV (g:=135) (vs:=[.string (bs a)]);rfl;rfl;exact fun w' _=>hca w')|(apply G.cV (g:=135) (vs:=[.string (bs b)]);rfl;rfl;exact fun w' _=>hcb w')|(apply G.eqlStr;rfl;rfl;rfl;rfl;rfl;all_goals intro h;all_goals try (exact absurd he h))
  all_goals exact aA Tryz.func92 Tryz.results92 rfl
 ·rw [gJ om]
  have hne:nB (vB a)≠nB (vB b):=fun e=>by have:=CL e;omega
  have hle:=eC (Nat.le_of_lt hgt);have hls:(nB (vB a)).length=(nB (vB b)).length->Op.bytesLess (nB (vB a)) (nB (vB b))=false:=fun h=>by
   cases hh:Op.bytesLess (nB (vB a)) (nB (vB b)) with
   | false=>rfl
   | true=>have:=(zV h).1 hh;rw [dL,dL] at this;omega
  generalize nB (vB a)=x at *;generalize nB (vB b)=y at *;repeat' first|(refine gp ?_;and_intros<;>first|exact trivial|repeat first|intro(Bk:Nat)|intro h)|(apply G.cV (g:=135) (vs:=[.string (bs a)]);rfl;rfl;exact fun w' _=>hca w')|(apply G.cV (g:=135) (vs:=[.string (bs b)]);rfl;rfl;exact fun w' _=>hcb w')|(apply G.eqlStr;rfl;rfl;rfl;rfl;rfl;all_goals intro h;all_goals try (exact absurd h hne))|(apply G.Qs;rfl;rfl;rfl;rfl;rfl;all_goals intro h;all_goals try (rw [hls om] at h;cases h;done))
  all_goals exact aA Tryz.func92 Tryz.results92 rfl
theorem GX {w0 w:World}{M:List Row}{base E c n:Nat}{a:Option Addr}{l:List Nat} (hw:Sat w0 M w) (hm:Row.own base (.slice a l.length c) E 1 l.length (flat iV l)∈M) (hl:l.length<=1073741824) (hd:∀ d∈l,d < 256) (hv:vL 256 l=n) :
  CR 134 #[.slice a l.length c] w (.string (bs (nB n))):=by
 have ho:w.ownsRow base E 1 (.slice a l.length c) l.length (flat iV l):=hw.hold _ hm;rw [<- hv];exact uL a l c w hl hd (aE.P8 zU ho rfl)
theorem Jt {t b:Nat}:((t:Int)).tmod (b:Int)=((t % b:Nat):Int):=by rw [Int.tmod_eq_emod_of_nonneg om,Int.natCast_emod]
theorem De {t b:Nat} (h:t < 9223372036854775808):IntKind.i64.wrap ((t:Int).tdiv (b:Int))=((t / b:Nat):Int):=by
 have h2:=Nat.div_le_self t b;rw [Int.tdiv_eq_ediv_of_nonneg om,<- Int.natCast_ediv];generalize t / b=q at *;exact mG om om
theorem F7 (a b:List UInt8) (w:World) (ha:a.length<=536870912) (hb:b.length<=536870912) :
  CR 91 #[.string (bs a),.string (bs b)] w (.string (bs (nB (vB a+vB b)))):=by
 have hx:=BZ a;have hy:=BZ b;have lx:=wD a;have ly:=wD b;have hend:∀ (o:List Nat) (v:Nat),vL 256 o+256 ^ (max a.length b.length+1)*v=vL 256 ((dB a).take (max a.length b.length+1))+vL 256 ((dB b).take (max a.length b.length+1))->vL 256 o=vB a+vB b:=fun o v h=>by
  rw [<- lx,<- ly] at h
  have:=El dc hx hy h
  rwa [xP,xP] at this
 refine aB [(0,.string (bs a)),(1,.string (bs b))] Tryz.func91 Tryz.ntmps91 ?_;all_goals (refine go ?_;and_intros<;>first|exact trivial|repeat first|intro(Bk:Nat)|intro h)
 apply J.nilOwn (E:=3) (size:=1);refine J.loop (c:=_) ((0,0,.slice none 0 0,[]):Nat×Nat×Value×List Nat) (fun s=>max a.length b.length+1-s.1) (fun s=>[(0,.string (bs a)),(1,.string (bs b)),(5,s.2.2.1),(6,.int .i64 s.2.1),(7,.int .i64 s.1)]) (fun s=>[.own 0 s.2.2.1 3 1 s.1 (flat iV s.2.2.2)]) (fun s=>s.1<=max a.length b.length+1/\s.2.1<=1/\s.2.2.2.length=s.1/\(∀ d∈s.2.2.2,d < 256)/\vL 256 s.2.2.2+256 ^ s.1*s.2.1=vL 256 ((dB a).take s.1)+vL 256 ((dB b).take s.1)) ?_ sbT sbL ?_
 ·exact ⟨Nat.zero_le _,Nat.zero_le _,rfl,by simp,by simp [vL]⟩
 intro ⟨k,v,u,o⟩ ⟨h1,h2,h3,h4,h5⟩ ih;dsimp only at h1 h2 h3 h4 h5 ⊢;by_cases hk:k<=max a.length b.length
 ·have g1:=bZ dc hx k
  have g2:=bZ dc hy k;have e4:=zF (k:=k) dc hx hy h2;have e6:=BU dc h3 h5;obtain ⟨t,ht⟩:∃ t,t=(dB a).getD k 0+(dB b).getD k 0+v:=⟨_,rfl⟩;rw [<- ht] at e4 e6;have c1:(((dB a).getD k 0:Nat)+((dB b).getD k 0:Nat)+(v:Nat):Int).tmod 256=((t % 256:Nat):Int):=by rw [ht];exact Jt (b:=256)
  have c2:IntKind.i64.wrap ((((dB a).getD k 0:Nat)+((dB b).getD k 0:Nat)+(v:Nat):Int).tdiv 256)=((t / 256:Nat):Int):=by rw [ht];exact De (b:=256) om
  repeat' (first|(apply G.cV (g:=133) (vs:=[.string (bs a),.int .i64 k]);rfl;rfl;exact fun w' _=>fH a k w' om)|(apply G.cV (g:=133) (vs:=[.string (bs b),.int .i64 k]);rfl;rfl;exact fun w' _=>fH b k w' om)|(apply G.Qr;rfl;rfl;decide;exact c1;rfl;rfl;rfl)|(apply G.Qg;rfl;rfl;decide;exact c2;rfl;rfl;rfl)|(apply G.Pu;rfl;rfl;rfl;rfl;rfl;rfl;rfl;rfl;intro Bs)|(apply G.ap;rfl;rfl;rfl;(repeat (first|exact RAt.head|apply RAt.tail));exact cB.blk (by exact mm) rfl rfl;exact jV iV o (t % 256);omega;omega;intro v2)|(apply G.pu;rfl;rfl;first|exact trivial|omega)|(apply J.ct;rfl)|(apply G.nil;rfl)|(apply G.cm;rfl;rfl;all_goals intro h;all_goals try (exfalso;omega))|(apply G.fa;rfl;rfl)|(apply G.ld;rfl;(first|(apply LdV.one;(first|exact aC.P0 (by assumption) rfl|exact aC.rowS (by assumption) rfl|exact aC.Px (by assumption) rfl|(apply aC.blk;exact mm;rfl)))|(apply LdV.Pw;exact mm;rfl)|(apply LdV.part;exact mm;rfl;rfl)|(apply LdV.Pv;assumption;rfl)|(apply LdV.Ps;assumption;rfl;rfl));rfl)|(apply G.sk;rfl)|(apply G.ls;rfl;rfl)|(apply G.ix;rfl;rfl;rfl;omega;rfl)|(apply G.ix;rfl;rfl;(first|exact bU _|exact bJ _);omega;rfl)|(apply G.lt;rfl;rfl)|(apply G.bu;rfl;rfl;rfl)|(apply G.fd;rfl;rfl;rfl)|(apply G.cv;rfl;rfl;rfl;omega)|(apply G.beq;rfl;rfl;rfl)|(apply G.P9;rfl;rfl;rfl)|(apply G.mm;rfl;rfl)|(apply G.mf;rfl;rfl)|(apply G.mx;rfl;rfl;rfl)|(apply G.mn;rfl;rfl;rfl)|(apply G.bx;rfl;rfl;rfl;intro Bk)|(apply G.al;rfl;intro Bk)|(apply G.so;rfl;rfl;(repeat (first|exact RAt.head|apply RAt.tail));rfl;rfl)|(apply G.ss;rfl;rfl;(repeat (first|exact RAt.head|apply RAt.tail));rfl;rfl)|(apply J.Pz;exact Tryz.Pr;decide +kernel)|(apply J.P4;exact Tryz.Pr;decide +kernel)|apply J.PA)
  exact J.fin (ih (k+1,t / 256,v2,o++[t % 256]) ⟨by dsimp only;omega,e4,by simp [h3],uC h4 (Nat.mod_lt _ dc),e6⟩ (by dsimp only;omega))
 ·have h6:o.length=max a.length b.length+1:=by omega
  subst h3;rw [h6] at h5;apply J.ownForm (i:=0) rfl;intro a2 c2 hu;subst hu;repeat' first|(refine gp ?_;and_intros<;>first|exact trivial|repeat first|intro(Bk:Nat)|intro h)|(apply G.cV (g:=134);rfl;rfl;exact fun w' hw=>GX hw (by exact mm) om h4 (hend o v h5))
  all_goals exact aA Tryz.func91 Tryz.results91 rfl
theorem tE (a b:List UInt8) (w:World) (ha:a.length<=536870912) (hb:b.length<=536870912) (hle:vB b<=vB a) :
  CR 93 #[.string (bs a),.string (bs b)] w (.agg #[.string (bs (nB (vB a-vB b))),.int .i64 0]):=by
 have hx:=BZ a;have hy:=BZ b;have lx:=wD a;have hcm:=fun (w':World)=>tD a b w' om om
 have hc0:0<=hZ (vB a) (vB b):=by
  rcases Nat.lt_or_ge (vB b) (vB a) with h|h
  ·rw [gJ om];decide
  ·rw [show vB a=vB b by omega,iE];decide
 generalize hZ (vB a) (vB b)=cc at *;have hend:∀ (o:List Nat) (v:Nat),o.length=a.length->(∀ d∈o,d < 256)->vL 256 o+vL 256 ((dB b).take a.length)=vL 256 ((dB a).take a.length)+256 ^ a.length*v->vL 256 o=vB a-vB b:=fun o v h1 h2 h=>by
  rw [<- lx,List.take_length] at h
  have:=BV dc hx h2 (h1.trans lx.symm) (by rw [xP,xP];exact hle) h
  rwa [xP,xP] at this
 refine aB [(0,.string (bs a)),(1,.string (bs b))] Tryz.func93 Tryz.ntmps93 ?_;repeat' first|(refine gp ?_;and_intros<;>first|exact trivial|repeat first|intro(Bk:Nat)|intro h)|(apply G.cV (g:=92);rfl;rfl;exact fun w' _=>hcm w')
 apply J.nilOwn (E:=3) (size:=1);refine J.loop (c:=_) ((0,0,.slice none 0 0,[]):Nat×Nat×Value×List Nat) (fun s=>a.length-s.1) (fun s=>[(0,.string (bs a)),(1,.string (bs b)),(4,.pointer (some ⟨Bk,0,none⟩)),(5,s.2.2.1),(6,.int .i64 s.2.1),(7,.int .i64 s.1)]) (fun s=>[.own 0 s.2.2.1 3 1 s.1 (flat iV s.2.2.2),.blk Bk 151 [.string (bs []),.int .i64 0] 2]) (fun s=>s.1<=a.length/\s.2.1<=1/\s.2.2.2.length=s.1/\(∀ d∈s.2.2.2,d < 256)/\vL 256 s.2.2.2+vL 256 ((dB b).take s.1)=vL 256 ((dB a).take s.1)+256 ^ s.1*s.2.1) ?_ sbT sbL ?_
 ·exact ⟨Nat.zero_le _,Nat.zero_le _,rfl,by simp,by simp [vL]⟩
 intro ⟨k,v,u,o⟩ ⟨h1,h2,h3,h4,h5⟩ ih;dsimp only at h1 h2 h3 h4 h5 ⊢;by_cases hk:k < a.length
 ·have g1:=bZ dc hx k
  have g2:=bZ dc hy k;obtain ⟨dg,v',f1,f2,f3,f4⟩:=zG (b:=256) dc h3 hy h2 (by rw [h5,Nat.add_assoc,<- Nat.mul_add];congr 2;omega) g1
  have f5:=uC h4 f2;have hv':v'=0∨v'=1:=by omega
  rcases hv' with rfl|rfl
  ·have hdg:((dB a).getD k 0:Int)-((dB b).getD k 0:Nat)-(v:Nat)=(dg:Int):=by omega
   repeat' (first|(apply G.cV (g:=133) (vs:=[.string (bs a),.int .i64 k]);rfl;rfl;exact fun w' _=>fH a k w' om)|(apply G.cV (g:=133) (vs:=[.string (bs b),.int .i64 k]);rfl;rfl;exact fun w' _=>fH b k w' om)|(apply G.PW;rfl;rfl;exact (by rw [hdg];exact mG om om:IntKind.i64.wrap (((dB a).getD k 0:Int)-((dB b).getD k 0:Nat)-(v:Nat))=(dg:Int));rfl;rfl;rfl)|(apply G.Pu;rfl;rfl;rfl;rfl;rfl;rfl;rfl;rfl;intro Bs)|(apply G.ap;rfl;rfl;rfl;(repeat (first|exact RAt.head|apply RAt.tail));exact cB.blk (by exact mm) rfl rfl;exact jV iV o dg;omega;omega;intro v2)|(apply G.pu;rfl;rfl;first|exact trivial|omega)|(apply J.ct;rfl)|(apply G.nil;rfl)|(apply G.cm;rfl;rfl;all_goals intro h;all_goals try (exfalso;omega))|(apply G.fa;rfl;rfl)|(apply G.ld;rfl;(first|(apply LdV.one;(first|exact aC.P0 (by assumption) rfl|exact aC.rowS (by assumption) rfl|exact aC.Px (by assumption) rfl|(apply aC.blk;exact mm;rfl)))|(apply LdV.Pw;exact mm;rfl)|(apply LdV.part;exact mm;rfl;rfl)|(apply LdV.Pv;assumption;rfl)|(apply LdV.Ps;assumption;rfl;rfl));rfl)|(apply G.sk;rfl)|(apply G.ls;rfl;rfl)|(apply G.ix;rfl;rfl;rfl;omega;rfl)|(apply G.ix;rfl;rfl;(first|exact bU _|exact bJ _);omega;rfl)|(apply G.lt;rfl;rfl)|(apply G.bu;rfl;rfl;rfl)|(apply G.fd;rfl;rfl;rfl)|(apply G.cv;rfl;rfl;rfl;omega)|(apply G.beq;rfl;rfl;rfl)|(apply G.P9;rfl;rfl;rfl)|(apply G.mm;rfl;rfl)|(apply G.mf;rfl;rfl)|(apply G.mx;rfl;rfl;rfl)|(apply G.mn;rfl;rfl;rfl)|(apply G.bx;rfl;rfl;rfl;intro Bk)|(apply G.al;rfl;intro Bk)|(apply G.so;rfl;rfl;(repeat (first|exact RAt.head|apply RAt.tail));rfl;rfl)|(apply G.ss;rfl;rfl;(repeat (first|exact RAt.head|apply RAt.tail));rfl;rfl)|(apply J.Pz;exact Tryz.Pr;decide +kernel)|(apply J.P4;exact Tryz.Pr;decide +kernel)|apply J.PA)
   exact J.fin (ih (k+1,0,v2,o++[dg]) ⟨by dsimp only;omega,by dsimp only;omega,by simp [h3],f5,f4⟩ (by dsimp only;omega))
  ·have hdg:((dB a).getD k 0:Int)-((dB b).getD k 0:Nat)-(v:Nat)+256=(dg:Int):=by omega
   repeat' (first|(apply G.cV (g:=133) (vs:=[.string (bs a),.int .i64 k]);rfl;rfl;exact fun w' _=>fH a k w' om)|(apply G.cV (g:=133) (vs:=[.string (bs b),.int .i64 k]);rfl;rfl;exact fun w' _=>fH b k w' om)|(apply G.Rz;rfl;rfl;exact (by rw [hdg];exact mG om om:IntKind.i64.wrap (((dB a).getD k 0:Int)-((dB b).getD k 0:Nat)-(v:Nat)+256)=(dg:Int));rfl;rfl;rfl)|(apply G.Pu;rfl;rfl;rfl;rfl;rfl;rfl;rfl;rfl;intro Bs)|(apply G.ap;rfl;rfl;rfl;(repeat (first|exact RAt.head|apply RAt.tail));exact cB.blk (by exact mm) rfl rfl;exact jV iV o dg;omega;omega;intro v2)|(apply G.pu;rfl;rfl;first|exact trivial|omega)|(apply J.ct;rfl)|(apply G.nil;rfl)|(apply G.cm;rfl;rfl;all_goals intro h;all_goals try (exfalso;omega))|(apply G.fa;rfl;rfl)|(apply G.ld;rfl;(first|(apply LdV.one;(first|exact aC.P0 (by assumption) rfl|exact aC.rowS (by assumption) rfl|exact aC.Px (by assumption) rfl|(apply aC.blk;exact mm;rfl)))|(apply LdV.Pw;exact mm;rfl)|(apply LdV.part;exact mm;rfl;rfl)|(apply LdV.Pv;assumption;rfl)|(apply LdV.Ps;assumption;rfl;rfl));rfl)|(apply G.sk;rfl)|(apply G.ls;rfl;rfl)|(apply G.ix;rfl;rfl;rfl;omega;rfl)|(apply G.ix;rfl;rfl;(first|exact bU _|exact bJ _);omega;rfl)|(apply G.lt;rfl;rfl)|(apply G.bu;rfl;rfl;rfl)|(apply G.fd;rfl;rfl;rfl)|(apply G.cv;rfl;rfl;rfl;omega)|(apply G.beq;rfl;rfl;rfl)|(apply G.P9;rfl;rfl;rfl)|(apply G.mm;rfl;rfl)|(apply G.mf;rfl;rfl)|(apply G.mx;rfl;rfl;rfl)|(apply G.mn;rfl;rfl;rfl)|(apply G.bx;rfl;rfl;rfl;intro Bk)|(apply G.al;rfl;intro Bk)|(apply G.so;rfl;rfl;(repeat (first|exact RAt.head|apply RAt.tail));rfl;rfl)|(apply G.ss;rfl;rfl;(repeat (first|exact RAt.head|apply RAt.tail));rfl;rfl)|(apply J.Pz;exact Tryz.Pr;decide +kernel)|(apply J.P4;exact Tryz.Pr;decide +kernel)|apply J.PA)
   exact J.fin (ih (k+1,1,v2,o++[dg]) ⟨by dsimp only;omega,by dsimp only;omega,by simp [h3],f5,f4⟩ (by dsimp only;omega))
 ·have h6:o.length=a.length:=by omega
  subst h3;rw [h6] at h5;apply J.ownForm (i:=0) rfl;intro a2 c2 hu;subst hu;repeat' first|(refine gp ?_;and_intros<;>first|exact trivial|repeat first|intro(Bk:Nat)|intro h)|(apply G.cV (g:=134);rfl;rfl;exact fun w' hw=>GX hw (by exact mm) om h4 (hend o v h6 h4 h5))
  all_goals exact aA Tryz.func93 Tryz.results93 rfl
theorem L7 (n:Nat):flat (fun x:List Value=>x) (List.replicate n [.int .i64 0])=flat iV (List.replicate n 0):=by
 simp only [flat,List.map_replicate];rfl
theorem L8 {w0 w:World}{M:List Row}{E g c tot m n:Nat}{l:List Nat} (hw:Sat w0 M w) (hm:Row.blk g E (flat iV l) tot∈M) (hl:l.length=m) (hm2:m<=1073741824) (hd:∀ d∈l,d < 256) (hv:vL 256 l=n) :
  CR 134 #[.slice (some ⟨g,0,none⟩) m c] w (.string (bs (nB n))):=by
 rw [<- hv];subst hl;exact uL _ l c w hm2 hd (aE.P5 zU hw hm)
theorem lL (a b:List UInt8) (w:World) (ha:a.length<=536870000) (hb:b.length<=536870000) :
  CR 89 #[.string (bs a),.string (bs b)] w (.string (bs (nB (vB a*vB b)))):=by
 have hx:=BZ a;have hy:=BZ b;have lx:=wD a;have ly:=wD b;rw [<- xP a,<- xP b];refine aB [(0,.string (bs a)),(1,.string (bs b))] Tryz.func89 Tryz.ntmps89 ?_;repeat' first|(refine gp ?_;and_intros<;>first|exact trivial|repeat first|intro(Bk:Nat)|intro h)|(apply G.PD (n:=a.length+b.length+1) [.int .i64 0];rfl;rfl;rfl;rfl;rfl;omega;omega;rfl;omega;omega;intro Bk;rw [L7])
 refine J.loop (c:=_) ((0,List.replicate (a.length+b.length+1) 0):Nat×List Nat) (fun s=>a.length-s.1) (fun s=>[(0,.string (bs a)),(1,.string (bs b)),(5,.slice (some ⟨Bk,0,none⟩) (a.length+b.length+1) (a.length+b.length+1)),(6,.int .i64 s.1)]) (fun s=>[.blk Bk 3 (flat iV s.2) ((a.length+b.length+1)*1)]) (fun s=>s.1<=a.length/\s.2.length=a.length+b.length+1/\(∀ d∈s.2,d < 256)/\vL 256 s.2=vL 256 ((dB a).take s.1)*vL 256 (dB b)) ?_ sbT sbL ?_
 ·exact ⟨Nat.zero_le _,by simp,fun d hd=>by rw [List.eq_of_mem_replicate hd];decide,by rw [yL];simp [vL]⟩
 intro ⟨i,o⟩ ⟨h1,h2,h3,h4⟩ ih;dsimp only at h1 h2 h3 h4 ⊢;by_cases hi:i < a.length
 ·have hav2:=bZ dc hx i
  have hz:vL 256 o < 256 ^ (i+b.length):=by
   rw [h4,Nat.pow_add];have e1:=fT (b:=256) dc ((dB a).take i) fun d hd=>hx d (List.mem_of_mem_take hd)
   have e2:=fT (b:=256) dc (dB b) hy;rw [List.length_take,Nat.min_eq_left om] at e1;rw [ly] at e2;exact Nat.mul_lt_mul'' e1 e2
  have hts:vL 256 ((dB a).take (i+1))=vL 256 ((dB a).take i)+256 ^ i*(dB a).getD i 0:=bT 256 (dB a) i;all_goals (refine go ?_;and_intros<;>first|exact trivial|repeat first|intro(Bk:Nat)|intro h)
  refine J.loop (c:=_) ((0,0,o):Nat×Nat×List Nat) (fun s=>b.length+1-s.1) (fun s=>[(0,.string (bs a)),(1,.string (bs b)),(5,.slice (some ⟨Bk,0,none⟩) (a.length+b.length+1) (a.length+b.length+1)),(6,.int .i64 i),(7,.int .i64 s.2.1),(8,.int .i64 s.1)]) (fun s=>[.blk Bk 3 (flat iV s.2.2) ((a.length+b.length+1)*1)]) (fun s=>s.1<=b.length+1/\s.2.1 < 256/\s.2.2.length=a.length+b.length+1/\(∀ d∈s.2.2,d < 256)/\vL 256 s.2.2+256 ^ (i+s.1)*s.2.1=vL 256 o+(dB a).getD i 0*256 ^ i*vL 256 ((dB b).take s.1)) ?_ sbT sbL ?_
  ·exact ⟨Nat.zero_le _,(by decide:0 < 256),h2,h3,by simp [vL]⟩
  intro ⟨k,v,p⟩ ⟨j1,j2,j3,j4,j5⟩ ih2;dsimp only at j1 j2 j3 j4 j5 ⊢;by_cases hk:k<=b.length
  ·have g1:=bZ dc hy k
   have g2:=bZ dc j4 (i+k);have g3:=xH hav2 g1 g2 j2;have g4:(dB a).getD i 0*(dB b).getD k 0<=255*255:=Nat.mul_le_mul om om;have e9:=zH om j5;have q1:=Nv (p:=p) (j:=i+k) om;have l9:(flat iV p).length=p.length:=by rw [aO zU,Nat.mul_one]
   generalize hpo:p.getD (i+k) 0=po at *;obtain ⟨t,ht⟩:∃ t,t=(dB a).getD i 0*(dB b).getD k 0+po+v:=⟨_,rfl⟩;rw [<- ht] at g3 e9;have q2:=Nw (p:=p) (j:=i+k) (d:=t % 256) om;have m1:IntKind.i64.wrap (((dB a).getD i 0:Int)*((dB b).getD k 0:Nat))=(((dB a).getD i 0*(dB b).getD k 0:Nat):Int):=by
    rw [<- Int.natCast_mul];exact mG om om
   have ht2:(po:Int)+((dB a).getD i 0*(dB b).getD k 0:Nat)+v=(t:Int):=by omega
   have c1:((po:Int)+((dB a).getD i 0*(dB b).getD k 0:Nat)+v).tmod 256=((t % 256:Nat):Int):=by rw [ht2];exact Jt (b:=256)
   have c2:IntKind.i64.wrap (((po:Int)+((dB a).getD i 0*(dB b).getD k 0:Nat)+v).tdiv 256)=((t / 256:Nat):Int):=by rw [ht2];exact De (b:=256) om
   repeat' (first|(apply G.cV (g:=133) (vs:=[.string (bs b),.int .i64 k]);rfl;rfl;exact fun w' _=>fH b k w' om)|(apply G.cV (g:=133) (vs:=[.string (bs a),.int .i64 i]);rfl;rfl;exact fun w' _=>fH a i w' om)|(apply G.Qh;rfl;rfl;exact m1;rfl;rfl;rfl)|(apply G.Qr;rfl;rfl;decide;exact c1;rfl;rfl;rfl)|(apply G.Qg;rfl;rfl;decide;exact c2;rfl;rfl;rfl)|(apply G.ix (i:=i+k);rfl;rfl;omega;omega;rfl)|(apply G.ld;rfl;(apply LdV.one;exact aC.blk (by exact mm) q1);rfl)|(apply G.s1;rfl;rfl;rfl;(repeat (first|exact RAt.head|apply RAt.tail));exact ⟨rfl,rfl⟩;omega;exact q2)|(apply G.pu;rfl;rfl;first|exact trivial|omega)|(apply J.ct;rfl)|(apply G.nil;rfl)|(apply G.cm;rfl;rfl;all_goals intro h;all_goals try (exfalso;omega))|(apply G.fa;rfl;rfl)|(apply G.ld;rfl;(first|(apply LdV.one;(first|exact aC.P0 (by assumption) rfl|exact aC.rowS (by assumption) rfl|exact aC.Px (by assumption) rfl|(apply aC.blk;exact mm;rfl)))|(apply LdV.Pw;exact mm;rfl)|(apply LdV.part;exact mm;rfl;rfl)|(apply LdV.Pv;assumption;rfl)|(apply LdV.Ps;assumption;rfl;rfl));rfl)|(apply G.sk;rfl)|(apply G.ls;rfl;rfl)|(apply G.ix;rfl;rfl;rfl;omega;rfl)|(apply G.ix;rfl;rfl;(first|exact bU _|exact bJ _);omega;rfl)|(apply G.lt;rfl;rfl)|(apply G.bu;rfl;rfl;rfl)|(apply G.fd;rfl;rfl;rfl)|(apply G.cv;rfl;rfl;rfl;omega)|(apply G.beq;rfl;rfl;rfl)|(apply G.P9;rfl;rfl;rfl)|(apply G.mm;rfl;rfl)|(apply G.mf;rfl;rfl)|(apply G.mx;rfl;rfl;rfl)|(apply G.mn;rfl;rfl;rfl)|(apply G.bx;rfl;rfl;rfl;intro Bk)|(apply G.al;rfl;intro Bk)|(apply G.so;rfl;rfl;(repeat (first|exact RAt.head|apply RAt.tail));rfl;rfl)|(apply G.ss;rfl;rfl;(repeat (first|exact RAt.head|apply RAt.tail));rfl;rfl)|(apply J.Pz;exact Tryz.Pr;decide +kernel)|(apply J.P4;exact Tryz.Pr;decide +kernel)|apply J.PA)
   all_goals (refine J.fin (ih2 (k+1,t / 256,p.set (i+k) (t % 256)) ⟨by dsimp only;omega,g3,by simp [j3],CY j4 (Nat.mod_lt _ dc),e9⟩ (by dsimp only;omega)))
  ·have hke:k=b.length+1:=by omega
   subst hke;have hv0:v=0:=by
    refine BX (o:=p) (y:=dB b) dc ?_ (by rw [ly];exact hz) hav2 hy
    rw [List.take_of_length_le om] at j5;rw [ly];exact j5
   subst hv0;rw [List.take_of_length_le om,Nat.mul_zero,Nat.add_zero,h4] at j5;all_goals (refine go ?_;and_intros<;>first|exact trivial|repeat first|intro(Bk:Nat)|intro h)
   exact J.fin (ih (i+1,p) ⟨by dsimp only;omega,j3,j4,by dsimp only;rw [j5,hts,Nat.add_mul,Nat.mul_comm (256 ^ i)]⟩ (by dsimp only;omega))
 ·have h6:i=a.length:=by omega
  subst h6;rw [<- lx,List.take_length] at h4;repeat' first|(refine gp ?_;and_intros<;>first|exact trivial|repeat first|intro(Bk:Nat)|intro h)|(apply G.cV (g:=134);rfl;rfl;exact fun w' hw=>L8 hw (by exact mm) h2 om h3 h4)
  all_goals exact aA Tryz.func89 Tryz.results89 rfl
theorem Ju {c:Nat} (h:c < 256):flat u8V [UInt8.ofNat c]=[.int .u8 (c:Int)]:=by
 have:(UInt8.ofNat c).toNat=c:=by simp [UInt8.toNat_ofNat',Nat.mod_eq_of_lt h]
 simp [flat,u8V,this]
theorem GY (l:List UInt8) (x:UInt8):vB (l++[x])=vB l*256+x.toNat:=by
 rw [lC];simp [vB]
theorem mQ (a b:List UInt8) (w:World) (ha:a.length<=536870000) (hb:b.length<=536870000) (hn:vB b≠0) :
  CR 136 #[.string (bs a),.string (bs b)] w (.agg #[.string (bs (nB (vB a / vB b))),.string (bs (nB (vB a % vB b))),.int .i64 0]):=by
 have hcb:=fun (w':World)=>dD b w' om
 have hne:nB (vB b)≠[]:=fun e=>hn (lJ.1 e)
 have hrl:∀ r,r < vB b->(nB r).length<=b.length:=fun r h=>iY (Nat.lt_trans h (uD b))
 obtain ⟨n,hnb⟩:∃ n,n=vB b:=⟨_,rfl⟩;rw [<- hnb] at hcb hne hrl hn ⊢;have hcmp:=fun (ρ:Nat) (w':World) (h:(nB ρ).length<=536870912)=>tD (nB ρ) b w' om om
 have hsub:=fun (ρ:Nat) (w':World) (h:(nB ρ).length<=536870912) (hle:n<=ρ)=>tE (nB ρ) b w' h om (by rw [dL,<- hnb];exact hle)
 simp only [dL,<- hnb] at hcmp hsub;refine aB [(0,.string (bs a)),(1,.string (bs b))] Tryz.func136 Tryz.ntmps136 ?_;repeat' first|(refine gp ?_;and_intros<;>first|exact trivial|repeat first|intro(Bk:Nat)|intro h)|(apply G.cV (g:=135) (vs:=[.string (bs b)]);rfl;rfl;exact fun w' _=>hcb w')|(apply G.eqlStr;rfl;rfl;rfl;rfl;rfl;all_goals intro h;all_goals try (exact absurd h hne))
 refine J.loop (c:=_) ((0,[],0,[]):Nat×List UInt8×Nat×List UInt8) (fun s=>a.length-s.1) (fun s=>[(0,.string (bs a)),(1,.string (bs b)),(4,.pointer (some ⟨Bk,0,none⟩)),(5,.string (bs s.2.1)),(6,.string (bs s.2.2.2)),(7,.int .i64 s.1)]) (fun s=>[.blk Bk 185 [.string (bs []),.string (bs []),.int .i64 0] 3]) (fun s=>s.1<=a.length/\s.2.1.length=s.1/\s.2.2.1 < n/\vB s.2.1*n+s.2.2.1=vB (a.take s.1)/\s.2.2.2=nB s.2.2.1) ?_ sbT sbL ?_
 ·exact ⟨Nat.zero_le _,rfl,Nat.pos_of_ne_zero hn,by simp [vB],fJ.symm⟩
 intro ⟨k,q,r,rs⟩ ⟨h1,h2,h3,h4,h5⟩ ih;dsimp only at h1 h2 h3 h4 h5 ⊢;subst h5;by_cases hk:k < a.length
 ·have hts:=uH hk
  have hx8:(a[k]).toNat < 256:=(a[k]).toNat_lt;have hsl:(a.drop k).take (k+1-k)=[a[k]]:=by
   rw [show k+1-k=1 by omega,List.drop_eq_getElem_cons hk];rfl
  have hR:vB (nB r++[a[k]])=r*256+(a[k]).toNat:=by rw [GY,dL]
  have hrl1:=hrl r h3;have hcl:=fun (w':World)=>dD (nB r++[a[k]]) w' (by rw [List.length_append,List.length_singleton];omega)
  rw [hR] at hcl;generalize a[k]=x at *;obtain ⟨R,hRe⟩:∃ R,R=r*256+x.toNat:=⟨_,rfl⟩;rw [<- hRe] at hcl;have hRn:R < 256*n:=by omega
  have hRl:∀ ρ,ρ<=R->(nB ρ).length<=536870912:=fun ρ h=>by
   have:(nB ρ).length<=b.length+1:=iY (by
    rw [Nat.pow_succ,hnb] at *;have:=uD b;omega)
   omega
  repeat' first|(refine gp ?_;and_intros<;>first|exact trivial|repeat first|intro(Bk:Nat)|intro h)|(apply G.Qq (i:=k) (j:=k+1);rfl;rfl;rfl;rfl;rfl;omega;omega;rfl;rfl;rfl)|(apply G.Qb (b:=[x]);rfl;(rw [hsl];rfl);(rw [List.length_singleton];omega);rfl;rfl;rfl)|(apply G.cV (g:=135);rfl;rfl;exact fun w' _=>hcl w')
  refine J.loop (c:=_) ((0,R):Nat×Nat) (fun s=>s.2) (fun s=>[(0,.string (bs a)),(1,.string (bs b)),(4,.pointer (some ⟨Bk,0,none⟩)),(5,.string (bs q)),(6,.string (bs (nB s.2))),(7,.int .i64 k),(8,.int .i64 s.1)]) (fun s=>[.blk Bk 185 [.string (bs []),.string (bs []),.int .i64 0] 3]) (fun s=>s.1*n+s.2=R) ?_ sbT sbL ?_
  ·show 0*n+R=R;omega
  intro ⟨c,ρ⟩ hcr ih2;dsimp only at hcr ⊢;have hρR:ρ<=R:=by omega
  have hρl:=hRl ρ hρR;have hcmp:=fun w'=>hcmp ρ w' hρl
  by_cases hge:n<=ρ
  ·have hsub:=fun w'=>hsub ρ w' hρl hge
   have hc0:0<=hZ (ρ:Int) n:=by
    rcases Nat.lt_or_ge n ρ with h|h
    ·rw [gJ om];decide
    ·rw [show ρ=n by omega,iE];decide
   generalize hZ (ρ:Int) n=cc at *;have hc256:c < 256:=by
    rcases Nat.lt_or_ge c 256 with h|h
    ·exact h
    ·have:=Nat.mul_le_mul_right n h;omega
   repeat' first|(refine gp ?_;and_intros<;>first|exact trivial|repeat first|intro(Bk:Nat)|intro h)|(apply G.cV (g:=92);rfl;rfl;exact fun w' _=>hcmp w')|(apply G.cV (g:=93);rfl;rfl;exact fun w' _=>hsub w')
   exact J.fin (ih2 (c+1,ρ-n) (by dsimp only;rw [Nat.add_mul,Nat.one_mul];omega) (by dsimp only;omega))
  ·rw [jT om] at hcmp
   have hc256:c < 256:=by
    rcases Nat.lt_or_ge c 256 with h|h
    ·exact h
    ·have:=Nat.mul_le_mul_right n h;omega
   have hu8:=Ju hc256;have hq2:vB (q++[UInt8.ofNat c])=vB q*256+c:=by
    rw [GY];simp [UInt8.toNat_ofNat',Nat.mod_eq_of_lt hc256]
   repeat' first|(refine gp ?_;and_intros<;>first|exact trivial|repeat first|intro(Bk:Nat)|intro h)|(apply G.cV (g:=92);rfl;rfl;exact fun w' _=>hcmp w')|(apply G.Pu;rfl;rfl;rfl;rfl;rfl;rfl;rfl;rfl;intro Bs)|(apply G.PJ (E:=5) (l:=[UInt8.ofNat c]);rfl;rfl;exact fun w' hw=>aE.P5 (fun _=>rfl) hw (by (rw [hu8];exact .head _));rfl;rfl;rfl)|(apply G.Qb;rfl;rfl;(rw [List.length_singleton];omega);rfl;rfl;rfl)
   refine J.fin (ih (k+1,q++[UInt8.ofNat c],ρ,nB ρ) ⟨by dsimp only;omega,by simp [h2],by dsimp only;omega,?_,rfl⟩ (by dsimp only;omega))
   dsimp only;rw [hq2,hts,<- h4,Nat.add_mul,Nat.add_mul,Nat.mul_right_comm];omega
 ·have hke:k=a.length:=by omega
  subst hke;rw [List.take_length] at h4;have hqv:vB q=vB a / n:=by
   rw [<- h4,Nat.add_comm,Nat.add_mul_div_right _ _ om,Nat.div_eq_of_lt h3,Nat.zero_add]
  have hrv:r=vB a % n:=by
   rw [<- h4,Nat.add_comm,Nat.add_mul_mod_self_right,Nat.mod_eq_of_lt h3]
  have hcl:=fun (w':World)=>dD q w' om
  rw [hqv] at hcl;rw [<- hrv];repeat' first|(refine gp ?_;and_intros<;>first|exact trivial|repeat first|intro(Bk:Nat)|intro h)|(apply G.cV (g:=135);rfl;rfl;exact fun w' _=>hcl w')
  all_goals exact aA Tryz.func136 Tryz.results136 rfl
theorem zW (a b:List UInt8) (w:World) (ha:a.length<=536870000) (hb:b.length<=536870000) :
  CR 132 #[.string (bs a),.string (bs b)] w (.string (bs (nB (Nat.gcd (vB a) (vB b))))):=by
 have hca:=fun (w':World)=>dD a w' om
 have hcb:=fun (w':World)=>dD b w' om
 have hla:=rH a;have hlb:=rH b;refine aB [(0,.string (bs a)),(1,.string (bs b))] Tryz.func132 Tryz.ntmps132 ?_;repeat' first|(refine gp ?_;and_intros<;>first|exact trivial|repeat first|intro(Bk:Nat)|intro h)|(apply G.cV (g:=135) (vs:=[.string (bs a)]);rfl;rfl;exact fun w' _=>hca w')|(apply G.cV (g:=135) (vs:=[.string (bs b)]);rfl;rfl;exact fun w' _=>hcb w')
 refine J.loop (c:=_) ((vB a,vB b):Nat×Nat) (fun s=>s.2) (fun s=>[(5,.string (bs (nB s.1))),(6,.string (bs (nB s.2)))]) (fun s=>[]) (fun s=>(nB s.1).length<=536870000/\(nB s.2).length<=536870000/\Nat.gcd s.1 s.2=Nat.gcd (vB a) (vB b)) ?_ sbT sbL ?_
 ·exact ⟨by dsimp only;omega,by dsimp only;omega,rfl⟩
 intro ⟨m,n⟩ ⟨h1,h2,h3⟩ ih;dsimp only at h1 h2 h3 ⊢;by_cases hn:n=0
 ·subst hn
  rw [<- h3,Nat.gcd_zero_right,fJ];repeat' first|(refine gp ?_;and_intros<;>first|exact trivial|repeat first|intro(Bk:Nat)|intro h)|(apply G.neqStr;rfl;rfl;rfl;rfl;rfl;all_goals intro h;all_goals try (exact absurd rfl h))
  all_goals exact aA Tryz.func132 Tryz.results132 rfl
 ·have hne:nB n≠[]:=fun e=>hn (lJ.1 e)
  have hdm:=fun (w':World)=>mQ (nB m) (nB n) w' h1 h2 (by rw [dL];exact hn)
  simp only [dL] at hdm;repeat' first|(refine gp ?_;and_intros<;>first|exact trivial|repeat first|intro(Bk:Nat)|intro h)|(apply G.neqStr;rfl;rfl;rfl;rfl;rfl;all_goals intro h;all_goals try (exact absurd h hne))|(apply G.cV (g:=136);rfl;rfl;exact fun w' _=>hdm w')
  have hlt:=Nat.mod_lt m (Nat.pos_of_ne_zero hn);exact J.fin (ih (n,m % n) ⟨h2,Nat.le_trans (eC (Nat.le_of_lt hlt)) h2,by dsimp only;rw [<- h3,Nat.gcd_comm m n,Nat.gcd_rec n m,Nat.gcd_comm]⟩ hlt)
theorem pU:nB 1=[1]:=by
 have h:=zI (x:=1) (r:=[]) dc;have e:vB [1]=1:=rfl
 rwa [e] at h
theorem rI {n:Nat}:nB n=[1] ↔ n=1:=⟨fun h=>CL (h.trans pU.symm),fun h=>by rw [h,pU]⟩
theorem fX (a:Q3) (w:World) (h1:a.num.length<=536870912) (h2:a.den.length<=536870912) :
  CR 26 #[qA a] w (.bool (decide (aP a))):=by
 have hvn:=fun w'=>pT a.num w'
 have hvd:=fun w'=>pT a.den w'
 have hg:=fun w'=>uJ a.num a.den w' h1 h2
 refine aB [(0,qA a)] Tryz.func26 Tryz.ntmps26 ?_;by_cases hz:a=aY
 ·rw [dT (show aP a from .inl hz)]
  repeat' first|(refine gp ?_;and_intros<;>first|exact trivial|repeat first|intro(Bk:Nat)|intro h)|(apply G.PK a aY;rfl;rfl;rfl;all_goals intro h;all_goals try (exact absurd hz h))
  all_goals exact aA Tryz.func26 Tryz.results26 rfl
 have key:aP a ↔ (a.num≠[]/\a.den≠[]/\nB (vB a.num)=a.num/\nB (vB a.den)=a.den/\Nat.gcd (vB a.num) (vB a.den)=1):=⟨fun h=>h.resolve_left hz,.inr⟩
 generalize hr:decide (aP a)=r;obtain ⟨s,n,d⟩:=a;dsimp only at *;by_cases c1:n=[]
 ·rw [show r=false from hr ▸ dF (fun h=>(key.1 h).1 c1)]
  repeat' first|(refine gp ?_;and_intros<;>first|exact trivial|repeat first|intro(Bk:Nat)|intro h)|(apply G.PK ⟨s,n,d⟩ aY;rfl;rfl;rfl;all_goals intro h;all_goals try (exact absurd h hz))|(apply G.neqStr;rfl;rfl;rfl;rfl;rfl;all_goals intro h;all_goals try (first|exact absurd h (by assumption)|exact absurd (by assumption) h))
  all_goals exact aA Tryz.func26 Tryz.results26 rfl
 by_cases c2:d=[]
 ·rw [show r=false from hr ▸ dF (fun h=>(key.1 h).2.1 c2)]
  repeat' first|(refine gp ?_;and_intros<;>first|exact trivial|repeat first|intro(Bk:Nat)|intro h)|(apply G.PK ⟨s,n,d⟩ aY;rfl;rfl;rfl;all_goals intro h;all_goals try (exact absurd h hz))|(apply G.neqStr;rfl;rfl;rfl;rfl;rfl;all_goals intro h;all_goals try (first|exact absurd h (by assumption)|exact absurd (by assumption) h))
  all_goals exact aA Tryz.func26 Tryz.results26 rfl
 by_cases c3:nB (vB n)=n
 ·rw [dT c3] at hvn
  by_cases c4:nB (vB d)=d
  ·rw [dT c4] at hvd
   by_cases c5:Nat.gcd (vB n) (vB d)=1
   ·have c6:nB (Nat.gcd (vB n) (vB d))=[1]:=rI.2 c5
    rw [show r=true from hr ▸ dT (key.2 ⟨c1,c2,c3,c4,c5⟩)]
    repeat' first|(refine gp ?_;and_intros<;>first|exact trivial|repeat first|intro(Bk:Nat)|intro h)|(apply G.PK ⟨s,n,d⟩ aY;rfl;rfl;rfl;all_goals intro h;all_goals try (exact absurd h hz))|(apply G.neqStr;rfl;rfl;rfl;rfl;rfl;all_goals intro h;all_goals try (first|exact absurd h (by assumption)|exact absurd (by assumption) h))|(apply G.eqlStr;rfl;rfl;rfl;rfl;rfl;all_goals intro h;all_goals try (first|exact absurd h (by assumption)|exact absurd (by assumption) h))|(apply G.cV (g:=67) (vs:=[.string (bs n)]);rfl;rfl;exact fun w' _=>hvn w')|(apply G.cV (g:=67) (vs:=[.string (bs d)]);rfl;rfl;exact fun w' _=>hvd w')|(apply G.cV (g:=68);rfl;rfl;exact fun w' _=>hg w')
    all_goals exact aA Tryz.func26 Tryz.results26 rfl
   ·have c6:nB (Nat.gcd (vB n) (vB d))≠[1]:=fun e=>c5 (rI.1 e)
    rw [show r=false from hr ▸ dF (fun h=>c5 (key.1 h).2.2.2.2)]
    repeat' first|(refine gp ?_;and_intros<;>first|exact trivial|repeat first|intro(Bk:Nat)|intro h)|(apply G.PK ⟨s,n,d⟩ aY;rfl;rfl;rfl;all_goals intro h;all_goals try (exact absurd h hz))|(apply G.neqStr;rfl;rfl;rfl;rfl;rfl;all_goals intro h;all_goals try (first|exact absurd h (by assumption)|exact absurd (by assumption) h))|(apply G.eqlStr;rfl;rfl;rfl;rfl;rfl;all_goals intro h;all_goals try (first|exact absurd h (by assumption)|exact absurd (by assumption) h))|(apply G.cV (g:=67) (vs:=[.string (bs n)]);rfl;rfl;exact fun w' _=>hvn w')|(apply G.cV (g:=67) (vs:=[.string (bs d)]);rfl;rfl;exact fun w' _=>hvd w')|(apply G.cV (g:=68);rfl;rfl;exact fun w' _=>hg w')
    all_goals exact aA Tryz.func26 Tryz.results26 rfl
  ·rw [dF c4] at hvd
   rw [show r=false from hr ▸ dF (fun h=>c4 (key.1 h).2.2.2.1)]
   repeat' first|(refine gp ?_;and_intros<;>first|exact trivial|repeat first|intro(Bk:Nat)|intro h)|(apply G.PK ⟨s,n,d⟩ aY;rfl;rfl;rfl;all_goals intro h;all_goals try (exact absurd h hz))|(apply G.neqStr;rfl;rfl;rfl;rfl;rfl;all_goals intro h;all_goals try (first|exact absurd h (by assumption)|exact absurd (by assumption) h))|(apply G.cV (g:=67) (vs:=[.string (bs n)]);rfl;rfl;exact fun w' _=>hvn w')|(apply G.cV (g:=67) (vs:=[.string (bs d)]);rfl;rfl;exact fun w' _=>hvd w')
   all_goals exact aA Tryz.func26 Tryz.results26 rfl
 ·rw [dF c3] at hvn
  rw [show r=false from hr ▸ dF (fun h=>c3 (key.1 h).2.2.1)]
  repeat' first|(refine gp ?_;and_intros<;>first|exact trivial|repeat first|intro(Bk:Nat)|intro h)|(apply G.PK ⟨s,n,d⟩ aY;rfl;rfl;rfl;all_goals intro h;all_goals try (exact absurd h hz))|(apply G.neqStr;rfl;rfl;rfl;rfl;rfl;all_goals intro h;all_goals try (first|exact absurd h (by assumption)|exact absurd (by assumption) h))|(apply G.cV (g:=67) (vs:=[.string (bs n)]);rfl;rfl;exact fun w' _=>hvn w')
  all_goals exact aA Tryz.func26 Tryz.results26 rfl
abbrev frA (f:Bool×Nat×Nat):Value:=.agg #[.bool f.1,.string (bs (nB f.2.1)),.string (bs (nB f.2.2))]
theorem iQ (a:Q3) (w:World) (h1:a.num.length<=536870912) (h2:a.den.length<=536870912) :
  CR 62 #[qA a] w (frA (bE a)):=by
 have hv:=fun w'=>fX a w' h1 h2
 have hf0:¬ (aP a/\a.num≠[])->frA (bE a)=.agg #[.bool false,.string (bs []),.string (bs [1])]:=fun h=>by
  rw [bE,if_neg h];simp only [frA,fJ,pU]
 have hf1:aP a/\a.num≠[]->frA (bE a)=.agg #[.bool a.neg,.string (bs a.num),.string (bs a.den)]:=fun h=>by
  rw [bE,if_pos h];rcases h.1 with e|⟨_,_,e1,e2,_⟩
  ·exact absurd (by rw [e];rfl) h.2
  ·simp only [frA,e1,e2]
 refine aB [(0,qA a)] Tryz.func62 Tryz.ntmps62 ?_;by_cases c1:a.num=[]
 ·rw [hf0 (fun h=>h.2 c1)]
  repeat' first|(refine gp ?_;and_intros<;>first|exact trivial|repeat first|intro(Bk:Nat)|intro h)|(apply G.eqlStr;rfl;rfl;rfl;rfl;rfl;all_goals intro h;all_goals try (first|exact absurd h (by assumption)|exact absurd (by assumption) h))
  all_goals exact aA Tryz.func62 Tryz.results62 rfl
 by_cases c2:aP a
 ·rw [hf1 ⟨c2,c1⟩]
  rw [dT c2] at hv;repeat' first|(refine gp ?_;and_intros<;>first|exact trivial|repeat first|intro(Bk:Nat)|intro h)|(apply G.eqlStr;rfl;rfl;rfl;rfl;rfl;all_goals intro h;all_goals try (first|exact absurd h (by assumption)|exact absurd (by assumption) h))|(apply G.cV (g:=26);rfl;rfl;exact fun w' _=>hv w')
  all_goals exact aA Tryz.func62 Tryz.results62 rfl
 ·rw [hf0 (fun h=>c2 h.1)]
  rw [dF c2] at hv;repeat' first|(refine gp ?_;and_intros<;>first|exact trivial|repeat first|intro(Bk:Nat)|intro h)|(apply G.eqlStr;rfl;rfl;rfl;rfl;rfl;all_goals intro h;all_goals try (first|exact absurd h (by assumption)|exact absurd (by assumption) h))|(apply G.cV (g:=26);rfl;rfl;exact fun w' _=>hv w')
  all_goals exact aA Tryz.func62 Tryz.results62 rfl
def fLe (f:Bool×Nat×Nat) (k:Nat):Prop:=(nB f.2.1).length<=k/\(nB f.2.2).length<=k
theorem nY (f:Bool×Nat×Nat) (w:World) (hl:fLe f 536870912) (hd:f.2.2≠0) :
  CR 75 #[frA f] w (qA (rQ (ofF f.1 f.2.1 f.2.2))):=by
 obtain ⟨s,n,d⟩:=f;obtain ⟨h1,h2⟩:=hl;dsimp only at h1 h2 hd ⊢;have hg:=fun w'=>uJ (nB n) (nB d) w' h1 h2
 have hg0:Nat.gcd n d≠0:=fun e=>hd (Nat.eq_zero_of_gcd_eq_zero_right e)
 have hgl:(nB (Nat.gcd n d)).length<=536870912:=Nat.le_trans (eC (Nat.gcd_le_right _ om)) h2;have hn:=fun w'=>oV (nB n) (nB (Nat.gcd n d)) w' h1 hgl (by rw [dL];exact hg0)
 have hdd:=fun w'=>oV (nB d) (nB (Nat.gcd n d)) w' h2 hgl (by rw [dL];exact hg0)
 simp only [dL] at hg hn hdd;rw [CN hd];refine aB [(0,frA (s,n,d))] Tryz.func75 Tryz.ntmps75 ?_;by_cases c1:n=0
 ·subst c1
  rw [if_pos rfl];have c2:nB 0=[]:=fJ;repeat' first|(refine gp ?_;and_intros<;>first|exact trivial|repeat first|intro(Bk:Nat)|intro h)|(apply G.eqlStr;rfl;rfl;rfl;rfl;rfl;all_goals intro h;all_goals try (first|exact absurd h (by assumption)|exact absurd (by assumption) h))
  all_goals exact aA Tryz.func75 Tryz.results75 rfl
 ·rw [if_neg c1]
  have c2:nB n≠[]:=fun e=>c1 (lJ.1 e)
  repeat' first|(refine gp ?_;and_intros<;>first|exact trivial|repeat first|intro(Bk:Nat)|intro h)|(apply G.eqlStr;rfl;rfl;rfl;rfl;rfl;all_goals intro h;all_goals try (first|exact absurd h (by assumption)|exact absurd (by assumption) h))|(apply G.cV (g:=68);rfl;rfl;exact fun w' _=>hg w')|(apply G.cV (g:=123) (vs:=[.string (bs (nB n)),.string (bs (nB (Nat.gcd n d)))]);rfl;rfl;exact fun w' _=>hn w')|(apply G.cV (g:=123) (vs:=[.string (bs (nB d)),.string (bs (nB (Nat.gcd n d)))]);rfl;rfl;exact fun w' _=>hdd w')
  all_goals exact aA Tryz.func75 Tryz.results75 rfl
theorem lD {n k:Nat} (h:(nB n).length<=k):n < 256 ^ k:=by
 have:=uD (nB n);rw [dL] at this;exact Nat.lt_of_lt_of_le this (Nat.pow_le_pow_right dc h)
theorem iJ {m n k l:Nat} (h1:(nB m).length<=k) (h2:(nB n).length<=l):(nB (m*n)).length<=k+l:=by
 refine iY ?_;rw [Nat.pow_add];exact Nat.mul_lt_mul'' (lD h1) (lD h2)
theorem F8 {m n k:Nat} (h1:(nB m).length<=k) (h2:(nB n).length<=k):(nB (m+n)).length<=k+1:=by
 refine iY ?_;have a1:=lD h1;have a2:=lD h2;rw [Nat.pow_succ];omega
theorem Jv (f g:Bool×Nat×Nat) (w:World) (hf:fLe f 134217728) (hg:fLe g 134217728) :
  CR 70 #[frA f,frA g] w (frA (lK f.1 f.2.1 f.2.2 g.1 g.2.1 g.2.2)):=by
 obtain ⟨s,n,d⟩:=f;obtain ⟨t,m,e⟩:=g;obtain ⟨h1,h2⟩:=hf;obtain ⟨h3,h4⟩:=hg;dsimp only at h1 h2 h3 h4 ⊢;have m1:=fun w'=>iZ (nB n) (nB e) w' om om
 have m2:=fun w'=>iZ (nB m) (nB d) w' om om
 have m3:=fun w'=>iZ (nB d) (nB e) w' om om
 have l1:=iJ h1 h4;have l2:=iJ h3 h2;have ad:=fun w'=>Db (nB (n*e)) (nB (m*d)) w' om om
 have cm:=fun w'=>Dc (nB (n*e)) (nB (m*d)) w' om om
 have s1:=fun (h:n*e<=m*d) w'=>uI (nB (m*d)) (nB (n*e)) w' om om (by rw [dL,dL];exact h)
 have s2:=fun (h:m*d<=n*e) w'=>uI (nB (n*e)) (nB (m*d)) w' om om (by rw [dL,dL];exact h)
 simp only [dL] at m1 m2 m3 ad cm s1 s2;rw [lK];refine aB [(0,frA (s,n,d)),(1,frA (t,m,e))] Tryz.func70 Tryz.ntmps70 ?_;by_cases hst:s=t
 ·subst hst
  rw [if_pos rfl];cases s<;>skip
  all_goals clear cm s1 s2
  repeat' first|(refine gp ?_;and_intros<;>first|exact trivial|repeat first|intro(Bk:Nat)|intro h)|(apply G.cV (g:=117) (vs:=[.string (bs (nB n)),.string (bs (nB e))]);rfl;rfl;exact fun w' _=>m1 w')|(apply G.cV (g:=117) (vs:=[.string (bs (nB m)),.string (bs (nB d))]);rfl;rfl;exact fun w' _=>m2 w')|(apply G.cV (g:=117) (vs:=[.string (bs (nB d)),.string (bs (nB e))]);rfl;rfl;exact fun w' _=>m3 w')|(apply G.cV (g:=118);rfl;rfl;exact fun w' _=>ad w')
  all_goals exact aA Tryz.func70 Tryz.results70 rfl
 rw [if_neg hst];have ht:t=!s:=by cases s<;>cases t<;>simp_all
 subst ht;by_cases hlt:n*e < m*d
 ·rw [if_pos hlt]
  have s1:=s1 om;rw [jT om] at cm;clear s2 hst;cases s<;>skip
  repeat' first|(refine gp ?_;and_intros<;>first|exact trivial|repeat first|intro(Bk:Nat)|intro h)|(apply G.cV (g:=117) (vs:=[.string (bs (nB n)),.string (bs (nB e))]);rfl;rfl;exact fun w' _=>m1 w')|(apply G.cV (g:=117) (vs:=[.string (bs (nB m)),.string (bs (nB d))]);rfl;rfl;exact fun w' _=>m2 w')|(apply G.cV (g:=117) (vs:=[.string (bs (nB d)),.string (bs (nB e))]);rfl;rfl;exact fun w' _=>m3 w')|(apply G.cV (g:=119);rfl;rfl;exact fun w' _=>cm w')|(apply G.cV (g:=120);rfl;rfl;exact fun w' _=>s1 w')
  all_goals exact aA Tryz.func70 Tryz.results70 rfl
 ·rw [if_neg hlt]
  have s2:=s2 om;have hc0:0<=hZ ((n*e:Nat):Int) ((m*d:Nat):Int):=by
   rcases Nat.lt_or_ge (m*d) (n*e) with h|h
   ·rw [gJ om];decide
   ·rw [show n*e=m*d by omega,iE];decide
  generalize hZ ((n*e:Nat):Int) ((m*d:Nat):Int)=cc at *;clear s1 hst;cases s<;>skip
  repeat' first|(refine gp ?_;and_intros<;>first|exact trivial|repeat first|intro(Bk:Nat)|intro h)|(apply G.cV (g:=117) (vs:=[.string (bs (nB n)),.string (bs (nB e))]);rfl;rfl;exact fun w' _=>m1 w')|(apply G.cV (g:=117) (vs:=[.string (bs (nB m)),.string (bs (nB d))]);rfl;rfl;exact fun w' _=>m2 w')|(apply G.cV (g:=117) (vs:=[.string (bs (nB d)),.string (bs (nB e))]);rfl;rfl;exact fun w' _=>m3 w')|(apply G.cV (g:=119);rfl;rfl;exact fun w' _=>cm w')|(apply G.cV (g:=120);rfl;rfl;exact fun w' _=>s2 w')
  all_goals exact aA Tryz.func70 Tryz.results70 rfl
theorem zX {f g:Bool×Nat×Nat}{k:Nat} (hf:fLe f k) (hg:fLe g k):fLe (lK f.1 f.2.1 f.2.2 g.1 g.2.1 g.2.2) (k+k+1):=by
 obtain ⟨s,n,d⟩:=f;obtain ⟨t,m,e⟩:=g;obtain ⟨h1,h2⟩:=hf;obtain ⟨h3,h4⟩:=hg;dsimp only at h1 h2 h3 h4;have l1:=iJ h1 h4;have l2:=iJ h3 h2;have l3:=iJ h2 h4;rw [lK];split
 ·exact ⟨F8 l1 l2,Nat.le_succ_of_le l3⟩
 ·split
  ·exact ⟨Nat.le_succ_of_le (Nat.le_trans (eC (Nat.sub_le _ _)) l2),Nat.le_succ_of_le l3⟩
  ·exact ⟨Nat.le_succ_of_le (Nat.le_trans (eC (Nat.sub_le _ _)) l1),Nat.le_succ_of_le l3⟩
theorem F9 (f g:Bool×Nat×Nat) (w:World) (hf:fLe f 134217728) (hg:fLe g 134217728) :
  CR 63 #[frA f,frA g] w (frA (lK f.1 f.2.1 f.2.2 (!g.1) g.2.1 g.2.2)):=by
 obtain ⟨t,m,e⟩:=g;have hp:=fun w'=>Jv f (!t,m,e) w' hf hg
 dsimp only at hp ⊢;generalize lK f.1 f.2.1 f.2.2 (!t) m e=r at *;obtain ⟨s,n,d⟩:=f;refine aB [(0,frA (s,n,d)),(1,frA (t,m,e))] Tryz.func63 Tryz.ntmps63 ?_;cases t;all_goals skip
 repeat' first|(refine gp ?_;and_intros<;>first|exact trivial|repeat first|intro(Bk:Nat)|intro h)|(apply G.cV (g:=70);rfl;rfl;exact fun w' _=>hp w')
 all_goals exact aA Tryz.func63 Tryz.results63 rfl
def eH (f g:Bool×Nat×Nat):Bool×Nat×Nat:=(f.1 != g.1,f.2.1*g.2.1,f.2.2*g.2.2)
theorem GZ (f g:Bool×Nat×Nat) (w:World) (hf:fLe f 134217728) (hg:fLe g 134217728) :
  CR 128 #[frA f,frA g] w (frA (eH f g)):=by
 obtain ⟨s,n,d⟩:=f;obtain ⟨t,m,e⟩:=g;obtain ⟨h1,h2⟩:=hf;obtain ⟨h3,h4⟩:=hg;dsimp only at h1 h2 h3 h4 ⊢;have m1:=fun w'=>iZ (nB n) (nB m) w' om om
 have m2:=fun w'=>iZ (nB d) (nB e) w' om om
 simp only [dL] at m1 m2;refine aB [(0,frA (s,n,d)),(1,frA (t,m,e))] Tryz.func128 Tryz.ntmps128 ?_;repeat' first|(refine gp ?_;and_intros<;>first|exact trivial|repeat first|intro(Bk:Nat)|intro h)|(apply G.cV (g:=117) (vs:=[.string (bs (nB n)),.string (bs (nB m))]);rfl;rfl;exact fun w' _=>m1 w')|(apply G.cV (g:=117) (vs:=[.string (bs (nB d)),.string (bs (nB e))]);rfl;rfl;exact fun w' _=>m2 w')
 all_goals exact aA Tryz.func128 Tryz.results128 rfl
theorem Nx (f g:Bool×Nat×Nat) (w:World) (hf:fLe f 134217728) (hg:fLe g 134217728) :
  CR 186 #[frA f,frA g] w (frA (eH f (g.1,g.2.2,g.2.1))):=by
 obtain ⟨t,m,e⟩:=g;have hp:=fun w'=>GZ f (t,e,m) w' hf ⟨hg.2,hg.1⟩
 dsimp only at hp ⊢;generalize eH f (t,e,m)=r at *;obtain ⟨s,n,d⟩:=f;refine aB [(0,frA (s,n,d)),(1,frA (t,m,e))] Tryz.func186 Tryz.ntmps186 ?_;repeat' first|(refine gp ?_;and_intros<;>first|exact trivial|repeat first|intro(Bk:Nat)|intro h)|(apply G.cV (g:=128);rfl;rfl;exact fun w' _=>hp w')
 all_goals exact aA Tryz.func186 Tryz.results186 rfl
theorem uM (g:FuncId) [Fun Tryz.prog g] (F:Value) (b:Q3) (r:Bool×Nat×Nat) (w:World) (h1:b.num.length<=536870912) (h2:b.den.length<=536870912) (hop:∀ w',CR g #[F,frA (bE b)] w' (frA r)) (hr:fLe r 536870912) (hd:r.2.2≠0) :
  CR 69 #[.func (.func g) #[F] #[],qA b] w (qA (rQ (ofF r.1 r.2.1 r.2.2))):=by
 have hof:=fun w'=>iQ b w' h1 h2
 have hlo:=fun w'=>nY r w' hr hd
 have hop':∀ w',Calls Tryz.prog g (#[F]++[frA (bE b)].toArray) w' fun e w2=>e=.returned (frA r)/\Below w'.heap.size w' w2:=fun w'=>by simpa using hop w'
 refine aB [(0,.func (.func g) #[F] #[]),(1,qA b)] Tryz.func69 Tryz.ntmps69 ?_;repeat' first|(refine gp ?_;and_intros<;>first|exact trivial|repeat first|intro(Bk:Nat)|intro h)|(apply G.cV (g:=62);rfl;rfl;exact fun w' _=>hof w')|(apply G.RC (g:=g) (v:=frA r);rfl;rfl;rfl;exact fun w' _=>hop' w')|(apply G.cV (g:=75);rfl;rfl;exact fun w' _=>hlo w')
 all_goals exact aA Tryz.func69 Tryz.results69 rfl
theorem eL {a:Q3}{k:Nat} (h1:a.num.length<=k) (h2:a.den.length<=k) (hk:1<=k):fLe (bE a) k:=by
 rw [bE];split
 ·exact ⟨Nat.le_trans (rH _) h1,Nat.le_trans (rH _) h2⟩
 ·refine ⟨?_,?_⟩
  ·show (nB 0).length<=k
   rw [fJ];exact Nat.zero_le _
  ·show (nB 1).length<=k
   rw [pU];exact hk
theorem jA (a b:Q3) (w:World) (h1:a.num.length<=134217728) (h2:a.den.length<=134217728) (h3:b.num.length<=134217728) (h4:b.den.length<=134217728) :
  CR 27 #[qA a,qA b] w (qA (rQ (qR a+qR b))):=by
 have hfa:=eL h1 h2 dc;have hfb:=eL h3 h4 dc;obtain ⟨e1,d1⟩:=eK a;obtain ⟨e2,d2⟩:=eK b;obtain ⟨e3,d3⟩:=mZ (s:=(bE a).1) (t:=(bE b).1) (n:=(bE a).2.1) (m:=(bE b).2.1) d1 d2;have hle:=zX hfa hfb;have hof:=fun w'=>iQ a w' om om
 have hdo:=fun w'=>uM 70 (frA (bE a)) b _ w' om om (fun w2=>Jv (bE a) (bE b) w2 hfa hfb) ⟨Nat.le_trans hle.1 dc,Nat.le_trans hle.2 dc⟩ d3
 rw [e3,e1,e2] at hdo;refine aB [(0,qA a),(1,qA b)] Tryz.func27 Tryz.ntmps27 ?_;repeat' first|(refine gp ?_;and_intros<;>first|exact trivial|repeat first|intro(Bk:Nat)|intro h)|(apply G.cV (g:=62);rfl;rfl;exact fun w' _=>hof w')|(apply G.cV (g:=69);rfl;rfl;exact fun w' _=>hdo w')
 all_goals exact aA Tryz.func27 Tryz.results27 rfl
theorem nZ (a b:Q3) (w:World) (h1:a.num.length<=134217728) (h2:a.den.length<=134217728) (h3:b.num.length<=134217728) (h4:b.den.length<=134217728) :
  CR 28 #[qA a,qA b] w (qA (rQ (qR a-qR b))):=by
 have hfa:=eL h1 h2 dc;have hfb:=eL h3 h4 dc;obtain ⟨e1,d1⟩:=eK a;obtain ⟨e2,d2⟩:=eK b;obtain ⟨e3,d3⟩:=mZ (s:=(bE a).1) (t:=!(bE b).1) (n:=(bE a).2.1) (m:=(bE b).2.1) d1 d2;have hle:=zX (g:=(!(bE b).1,(bE b).2.1,(bE b).2.2)) hfa hfb;have hof:=fun w'=>iQ a w' om om
 have hdo:=fun w'=>uM 63 (frA (bE a)) b _ w' om om (fun w2=>F9 (bE a) (bE b) w2 hfa hfb) ⟨Nat.le_trans hle.1 dc,Nat.le_trans hle.2 dc⟩ d3
 rw [e3,e1,<- CO,e2,<- Rat.sub_eq_add_neg] at hdo;refine aB [(0,qA a),(1,qA b)] Tryz.func28 Tryz.ntmps28 ?_;repeat' first|(refine gp ?_;and_intros<;>first|exact trivial|repeat first|intro(Bk:Nat)|intro h)|(apply G.cV (g:=62);rfl;rfl;exact fun w' _=>hof w')|(apply G.cV (g:=69);rfl;rfl;exact fun w' _=>hdo w')
 all_goals exact aA Tryz.func28 Tryz.results28 rfl
theorem rJ {f g:Bool×Nat×Nat}{k l:Nat} (hf:fLe f k) (hg:fLe g l):fLe (eH f g) (k+l):=⟨iJ hf.1 hg.1,iJ hf.2 hg.2⟩
theorem kR (a b:Q3) (w:World) (h1:a.num.length<=134217728) (h2:a.den.length<=134217728) (h3:b.num.length<=134217728) (h4:b.den.length<=134217728) :
  CR 83 #[qA a,qA b] w (qA (rQ (qR a*qR b))):=by
 have hfa:=eL h1 h2 dc;have hfb:=eL h3 h4 dc;obtain ⟨e1,d1⟩:=eK a;obtain ⟨e2,d2⟩:=eK b;have hle:=rJ hfa hfb;have hof:=fun w'=>iQ a w' om om
 have hdo:=fun w'=>uM 128 (frA (bE a)) b _ w' om om (fun w2=>GZ (bE a) (bE b) w2 hfa hfb) ⟨Nat.le_trans hle.1 dc,Nat.le_trans hle.2 dc⟩ (Nat.mul_ne_zero d1 d2)
 have e3:ofF (eH (bE a) (bE b)).1 (eH (bE a) (bE b)).2.1 (eH (bE a) (bE b)).2.2=qR a*qR b:=by
  rw [<- e1,<- e2,mY];rfl
 rw [e3] at hdo;refine aB [(0,qA a),(1,qA b)] Tryz.func83 Tryz.ntmps83 ?_;repeat' first|(refine gp ?_;and_intros<;>first|exact trivial|repeat first|intro(Bk:Nat)|intro h)|(apply G.cV (g:=62);rfl;rfl;exact fun w' _=>hof w')|(apply G.cV (g:=69);rfl;rfl;exact fun w' _=>hdo w')
 all_goals exact aA Tryz.func83 Tryz.results83 rfl
theorem kS (a b:Q3) (w:World) (h1:a.num.length<=134217728) (h2:a.den.length<=134217728) (h3:b.num.length<=134217728) (h4:b.den.length<=134217728) :
  CR 22 #[qA a,qA b] w (.int .i64 (dR (qR a-qR b))):=by
 have hfa:=eL h1 h2 dc;have hfb:=eL h3 h4 dc;obtain ⟨e1,d1⟩:=eK a;obtain ⟨e2,d2⟩:=eK b;obtain ⟨e3,d3⟩:=mZ (s:=(bE a).1) (t:=!(bE b).1) (n:=(bE a).2.1) (m:=(bE b).2.1) d1 d2;have hoa:=fun w'=>iQ a w' om om
 have hob:=fun w'=>iQ b w' om om
 have hle:=fun w'=>F9 (bE a) (bE b) w' hfa hfb
 rw [e1,<- CO,e2,<- Rat.sub_eq_add_neg] at e3;rw [<- e3,Lu d3];generalize lK (bE a).1 (bE a).2.1 (bE a).2.2 (!(bE b).1) (bE b).2.1 (bE b).2.2=r at *;obtain ⟨s,n,d⟩:=r;dsimp only at d3 ⊢;refine aB [(0,qA a),(1,qA b)] Tryz.func22 Tryz.ntmps22 ?_;by_cases hn:n=0
 ·have c1:nB n=[]:=lJ.2 hn
  rw [if_pos hn];repeat' first|(refine gp ?_;and_intros<;>first|exact trivial|repeat first|intro(Bk:Nat)|intro h)|(apply J.Py (.q 0 <| .q 1 <| .q 2 <| .q 3 <| .q 4 <| .e 5 <| .r 6 <| .nil);exact Tryz.Pr;decide +kernel)|(apply G.eqlStr;rfl;rfl;rfl;rfl;rfl;all_goals intro h;all_goals try (first|exact absurd h (by assumption)|exact absurd (by assumption) h))|(apply G.cV (g:=62) (vs:=[qA a]);rfl;rfl;exact fun w' _=>hoa w')|(apply G.cV (g:=62) (vs:=[qA b]);rfl;rfl;exact fun w' _=>hob w')|(apply G.cV (g:=63);rfl;rfl;exact fun w' _=>hle w')
  all_goals exact aA Tryz.func22 Tryz.results22 rfl
 ·have c1:nB n≠[]:=fun e=>hn (lJ.1 e)
  rw [if_neg hn];cases s;all_goals skip
  repeat' first|(refine gp ?_;and_intros<;>first|exact trivial|repeat first|intro(Bk:Nat)|intro h)|(apply J.Py (.q 0 <| .q 1 <| .q 2 <| .q 3 <| .q 4 <| .e 5 <| .r 6 <| .nil);exact Tryz.Pr;decide +kernel)|(apply G.eqlStr;rfl;rfl;rfl;rfl;rfl;all_goals intro h;all_goals try (first|exact absurd h (by assumption)|exact absurd (by assumption) h))|(apply G.cV (g:=62) (vs:=[qA a]);rfl;rfl;exact fun w' _=>hoa w')|(apply G.cV (g:=62) (vs:=[qA b]);rfl;rfl;exact fun w' _=>hob w')|(apply G.cV (g:=63);rfl;rfl;exact fun w' _=>hle w')
  all_goals exact aA Tryz.func22 Tryz.results22 rfl
def rK (n:Int):Bool:=decide (-999999999999999<=n) && decide (n<=999999999999999)
theorem oA (n:Int) (w:World):CR 73 #[.int .i64 n] w (.bool (rK n)):=by
 refine aB [(0,.int .i64 n)] Tryz.func73 Tryz.ntmps73 ?_;all_goals (refine go ?_;and_intros<;>first|exact trivial|repeat first|intro(Bk:Nat)|intro h)
 all_goals refine aA Tryz.func73 Tryz.results73 ?_
 all_goals exact bL (by rw [rK];first|(rw [dT om,dT om];rfl)|(rw [dF om];rfl)|(rw [dT om,dF om];rfl))
theorem jB {n:Int} (h1:-999999999999999<=n) (h2:n<=999999999999999):rK n=true:=by rw [rK,dT h1,dT h2];rfl
theorem mR (n:Int) (w:World) (h1:-999999999999999<=n) (h2:n<=999999999999999) :
  CR 74 #[.int .i64 n] w (frA (decide (n < 0),n.natAbs,1)):=by
 have hm:max n (-n)=((n.natAbs:Nat):Int):=by omega
 have hi:=fun w'=>Dd n.natAbs w' om
 have hf:frA (decide (n < 0),n.natAbs,1)=.agg #[.bool (decide (n < 0)),.string (bs (nB n.natAbs)),.string (bs [1])]:=by simp only [frA,pU]
 rw [hf];generalize n.natAbs=m at *;refine aB [(0,.int .i64 n)] Tryz.func74 Tryz.ntmps74 ?_;repeat' (first|(apply G.Rl;rfl;rfl;exact hm;rfl)|(apply G.cV (g:=122);rfl;rfl;exact fun w' _=>hi w')|(apply G.pu;rfl;rfl;first|exact trivial|omega)|(apply J.ct;rfl)|(apply G.nil;rfl)|(apply G.cm;rfl;rfl;all_goals intro h;all_goals try (exfalso;omega))|(apply G.fa;rfl;rfl)|(apply G.ld;rfl;(first|(apply LdV.one;(first|exact aC.P0 (by assumption) rfl|exact aC.rowS (by assumption) rfl|exact aC.Px (by assumption) rfl|(apply aC.blk;exact mm;rfl)))|(apply LdV.Pw;exact mm;rfl)|(apply LdV.part;exact mm;rfl;rfl)|(apply LdV.Pv;assumption;rfl)|(apply LdV.Ps;assumption;rfl;rfl));rfl)|(apply G.sk;rfl)|(apply G.ls;rfl;rfl)|(apply G.ix;rfl;rfl;rfl;omega;rfl)|(apply G.ix;rfl;rfl;(first|exact bU _|exact bJ _);omega;rfl)|(apply G.lt;rfl;rfl)|(apply G.bu;rfl;rfl;rfl)|(apply G.fd;rfl;rfl;rfl)|(apply G.cv;rfl;rfl;rfl;omega)|(apply G.beq;rfl;rfl;rfl)|(apply G.P9;rfl;rfl;rfl)|(apply G.mm;rfl;rfl)|(apply G.mf;rfl;rfl)|(apply G.mx;rfl;rfl;rfl)|(apply G.mn;rfl;rfl;rfl)|(apply G.bx;rfl;rfl;rfl;intro Bk)|(apply G.al;rfl;intro Bk)|(apply G.so;rfl;rfl;(repeat (first|exact RAt.head|apply RAt.tail));rfl;rfl)|(apply G.ss;rfl;rfl;(repeat (first|exact RAt.head|apply RAt.tail));rfl;rfl)|(apply J.Pz;exact Tryz.Pr;decide +kernel)|(apply J.P4;exact Tryz.Pr;decide +kernel)|apply J.PA)
 all_goals refine aA Tryz.func74 Tryz.results74 ?_
 all_goals (first|(rw [dT om];rfl)|(rw [dF om];rfl))
theorem yO (n:Int):ofF (decide (n < 0)) n.natAbs 1=(n:Rat):=by
 rw [ofF,CM,<- Rat.mkRat_one]
theorem Jw {n:Nat} (h:n≠0):ofF false n n=1:=by
 have:ofF false n n=ofF false 1 1:=by
  rw [ofF,ofF];exact (Rat.mkRat_eq_iff h dc).2 (by simp [Num.sg,Int.mul_comm])
 rw [this];rfl
theorem Df (m n:Int) (h:n≠0):ofF (eH (decide (m < 0),m.natAbs,1) (decide (n < 0),1,n.natAbs)).1 (eH (decide (m < 0),m.natAbs,1) (decide (n < 0),1,n.natAbs)).2.1 (eH (decide (m < 0),m.natAbs,1) (decide (n < 0),1,n.natAbs)).2.2=(m:Rat) / (n:Rat):=by
 have e1:ofF (eH (decide (m < 0),m.natAbs,1) (decide (n < 0),1,n.natAbs)).1 (eH (decide (m < 0),m.natAbs,1) (decide (n < 0),1,n.natAbs)).2.1 (eH (decide (m < 0),m.natAbs,1) (decide (n < 0),1,n.natAbs)).2.2=ofF (decide (m < 0)) m.natAbs 1*ofF (decide (n < 0)) 1 n.natAbs:=by rw [mY];rfl
 have e2:ofF (decide (n < 0)) 1 n.natAbs*ofF (decide (n < 0)) n.natAbs 1=1:=by
  rw [mY,bne_self_eq_false,Nat.one_mul,Nat.mul_one];exact Jw om
 rw [e1,yO];rw [yO] at e2;have hn:(n:Rat)≠0:=by exact_mod_cast h
 grind
theorem pV {n:Int} (h1:-999999999999999<=n) (h2:n<=999999999999999):(nB n.natAbs).length<=8:=iY om
theorem wE:(nB 1).length<=8:=by rw [pU];decide
theorem FA (m n:Int) (w:World) (h1:-999999999999999<=m) (h2:m<=999999999999999) (h3:-999999999999999<=n) (h4:n<=999999999999999) (h0:n≠0) :
  CR 182 #[.int .i64 m,.int .i64 n] w (.tuple #[qA (rQ ((m:Rat) / (n:Rat))),.int .i64 0]):=by
 have i1:=fun w'=>mR m w' h1 h2
 have i2:=fun w'=>mR n w' h3 h4
 have b1:=fun w'=>oA m w'
 have b2:=fun w'=>oA n w'
 rw [jB h1 h2] at b1;rw [jB h3 h4] at b2;have l1:fLe (decide (m < 0),m.natAbs,1) 8:=⟨pV h1 h2,wE⟩;have l2:fLe (decide (n < 0),n.natAbs,1) 8:=⟨pV h3 h4,wE⟩;have ov:=fun w'=>Nx (decide (m < 0),m.natAbs,1) (decide (n < 0),n.natAbs,1) w' ⟨Nat.le_trans l1.1 dc,Nat.le_trans l1.2 dc⟩ ⟨Nat.le_trans l2.1 dc,Nat.le_trans l2.2 dc⟩
 have l3:=rJ l1 (show fLe (decide (n < 0),1,n.natAbs) 8 from ⟨l2.2,l2.1⟩)
 have lo:=fun w'=>nY (eH (decide (m < 0),m.natAbs,1) (decide (n < 0),1,n.natAbs)) w' ⟨Nat.le_trans l3.1 dc,Nat.le_trans l3.2 dc⟩ (Nat.mul_ne_zero (show (1:Nat)≠0 by decide) (by dsimp only;omega))
 rw [Df m n h0] at lo;dsimp only at ov;generalize eH (decide (m < 0),m.natAbs,1) (decide (n < 0),1,n.natAbs)=r at *;generalize frA (decide (m < 0),m.natAbs,1)=f1 at *;generalize frA (decide (n < 0),n.natAbs,1)=f2 at *;refine aB [(0,.int .i64 m),(1,.int .i64 n)] Tryz.func182 Tryz.ntmps182 ?_;repeat' first|(refine gp ?_;and_intros<;>first|exact trivial|repeat first|intro(Bk:Nat)|intro h)|(apply G.cV (g:=73) (vs:=[.int .i64 m]);rfl;rfl;exact fun w' _=>b1 w')|(apply G.cV (g:=73) (vs:=[.int .i64 n]);rfl;rfl;exact fun w' _=>b2 w')|(apply G.cV (g:=74) (vs:=[.int .i64 m]);rfl;rfl;exact fun w' _=>i1 w')|(apply G.cV (g:=74) (vs:=[.int .i64 n]);rfl;rfl;exact fun w' _=>i2 w')|(apply G.cV (g:=186);rfl;rfl;exact fun w' _=>ov w')|(apply G.cV (g:=75);rfl;rfl;exact fun w' _=>lo w')
 all_goals exact hU Tryz.func182 Tryz.results182 rfl
theorem Ca (n:Int) (w:World) (h1:-999999999999999<=n) (h2:n<=999999999999999) :
  CR 35 #[.int .i64 n] w (qA (rQ (n:Rat))):=by
 have i1:=fun w'=>mR n w' h1 h2
 have b1:=fun w'=>oA n w'
 rw [jB h1 h2] at b1;have l1:fLe (decide (n < 0),n.natAbs,1) 8:=⟨pV h1 h2,wE⟩;have lo:=fun w'=>nY (decide (n < 0),n.natAbs,1) w' ⟨Nat.le_trans l1.1 dc,Nat.le_trans l1.2 dc⟩ (show (1:Nat)≠0 by decide)
 rw [yO n] at lo;generalize frA (decide (n < 0),n.natAbs,1)=f1 at *;refine aB [(0,.int .i64 n)] Tryz.func35 Tryz.ntmps35 ?_;repeat' first|(refine gp ?_;and_intros<;>first|exact trivial|repeat first|intro(Bk:Nat)|intro h)|(apply G.cV (g:=73) (vs:=[.int .i64 n]);rfl;rfl;exact fun w' _=>b1 w')|(apply G.cV (g:=74) (vs:=[.int .i64 n]);rfl;rfl;exact fun w' _=>i1 w')|(apply G.cV (g:=75);rfl;rfl;exact fun w' _=>lo w')
 all_goals exact aA Tryz.func35 Tryz.results35 rfl
theorem kU (a:Q3) (w:World) (h1:a.num.length<=536870000) (h2:a.den.length<=536870000) :
  CR 86 #[qA a] w (.bool (decide (aP a))):=by
 have hvn:=fun w'=>uK a.num w' om
 have hvd:=fun w'=>uK a.den w' om
 have hg:=fun w'=>zW a.num a.den w' h1 h2
 refine aB [(0,qA a)] Tryz.func86 Tryz.ntmps86 ?_;by_cases hz:a=aY
 ·subst hz
  have c0:aY.num=[]:=rfl;rw [dT (show aP aY from .inl rfl)]
  repeat' first|(refine gp ?_;and_intros<;>first|exact trivial|repeat first|intro(Bk:Nat)|intro h)|(apply G.eqlStr;rfl;rfl;rfl;rfl;rfl;all_goals intro h;all_goals try (first|exact absurd h (by assumption)|exact absurd (by assumption) h))|(apply G.PK aY aY;rfl;rfl;rfl;all_goals intro h;all_goals try (exact absurd rfl h))
  all_goals exact aA Tryz.func86 Tryz.results86 rfl
 have key:aP a ↔ (a.num≠[]/\a.den≠[]/\nB (vB a.num)=a.num/\nB (vB a.den)=a.den/\Nat.gcd (vB a.num) (vB a.den)=1):=⟨fun h=>h.resolve_left hz,.inr⟩
 generalize hr:decide (aP a)=r;obtain ⟨s,n,d⟩:=a;dsimp only at *;by_cases c1:n=[]
 ·rw [show r=false from hr ▸ dF (fun h=>(key.1 h).1 c1)]
  repeat' first|(refine gp ?_;and_intros<;>first|exact trivial|repeat first|intro(Bk:Nat)|intro h)|(apply G.PK ⟨s,n,d⟩ aY;rfl;rfl;rfl;all_goals intro h;all_goals try (exact absurd h hz))|(apply G.eqlStr;rfl;rfl;rfl;rfl;rfl;all_goals intro h;all_goals try (first|exact absurd h (by assumption)|exact absurd (by assumption) h))
  all_goals exact aA Tryz.func86 Tryz.results86 rfl
 by_cases c2:d=[]
 ·rw [show r=false from hr ▸ dF (fun h=>(key.1 h).2.1 c2)]
  repeat' first|(refine gp ?_;and_intros<;>first|exact trivial|repeat first|intro(Bk:Nat)|intro h)|(apply G.PK ⟨s,n,d⟩ aY;rfl;rfl;rfl;all_goals intro h;all_goals try (exact absurd h hz))|(apply G.eqlStr;rfl;rfl;rfl;rfl;rfl;all_goals intro h;all_goals try (first|exact absurd h (by assumption)|exact absurd (by assumption) h))
  all_goals exact aA Tryz.func86 Tryz.results86 rfl
 by_cases c3:nB (vB n)=n
 ·rw [dT c3] at hvn
  by_cases c4:nB (vB d)=d
  ·rw [dT c4] at hvd
   by_cases c5:Nat.gcd (vB n) (vB d)=1
   ·have c6:nB (Nat.gcd (vB n) (vB d))=[1]:=rI.2 c5
    rw [show r=true from hr ▸ dT (key.2 ⟨c1,c2,c3,c4,c5⟩)]
    repeat' first|(refine gp ?_;and_intros<;>first|exact trivial|repeat first|intro(Bk:Nat)|intro h)|(apply G.eqlStr;rfl;rfl;rfl;rfl;rfl;all_goals intro h;all_goals try (first|exact absurd h (by assumption)|exact absurd (by assumption) h))|(apply G.cV (g:=131) (vs:=[.string (bs n)]);rfl;rfl;exact fun w' _=>hvn w')|(apply G.cV (g:=131) (vs:=[.string (bs d)]);rfl;rfl;exact fun w' _=>hvd w')|(apply G.cV (g:=132);rfl;rfl;exact fun w' _=>hg w')
    all_goals exact aA Tryz.func86 Tryz.results86 rfl
   ·have c6:nB (Nat.gcd (vB n) (vB d))≠[1]:=fun e=>c5 (rI.1 e)
    rw [show r=false from hr ▸ dF (fun h=>c5 (key.1 h).2.2.2.2)]
    repeat' first|(refine gp ?_;and_intros<;>first|exact trivial|repeat first|intro(Bk:Nat)|intro h)|(apply G.eqlStr;rfl;rfl;rfl;rfl;rfl;all_goals intro h;all_goals try (first|exact absurd h (by assumption)|exact absurd (by assumption) h))|(apply G.cV (g:=131) (vs:=[.string (bs n)]);rfl;rfl;exact fun w' _=>hvn w')|(apply G.cV (g:=131) (vs:=[.string (bs d)]);rfl;rfl;exact fun w' _=>hvd w')|(apply G.cV (g:=132);rfl;rfl;exact fun w' _=>hg w')
    all_goals exact aA Tryz.func86 Tryz.results86 rfl
  ·rw [dF c4] at hvd
   rw [show r=false from hr ▸ dF (fun h=>c4 (key.1 h).2.2.2.1)]
   repeat' first|(refine gp ?_;and_intros<;>first|exact trivial|repeat first|intro(Bk:Nat)|intro h)|(apply G.eqlStr;rfl;rfl;rfl;rfl;rfl;all_goals intro h;all_goals try (first|exact absurd h (by assumption)|exact absurd (by assumption) h))|(apply G.cV (g:=131) (vs:=[.string (bs n)]);rfl;rfl;exact fun w' _=>hvn w')|(apply G.cV (g:=131) (vs:=[.string (bs d)]);rfl;rfl;exact fun w' _=>hvd w')
   all_goals exact aA Tryz.func86 Tryz.results86 rfl
 ·rw [dF c3] at hvn
  rw [show r=false from hr ▸ dF (fun h=>c3 (key.1 h).2.2.1)]
  by_cases c4:nB (vB d)=d
  ·rw [dT c4] at hvd
   repeat' first|(refine gp ?_;and_intros<;>first|exact trivial|repeat first|intro(Bk:Nat)|intro h)|(apply G.eqlStr;rfl;rfl;rfl;rfl;rfl;all_goals intro h;all_goals try (first|exact absurd h (by assumption)|exact absurd (by assumption) h))|(apply G.cV (g:=131) (vs:=[.string (bs n)]);rfl;rfl;exact fun w' _=>hvn w')|(apply G.cV (g:=131) (vs:=[.string (bs d)]);rfl;rfl;exact fun w' _=>hvd w')
   all_goals exact aA Tryz.func86 Tryz.results86 rfl
  ·rw [dF c4] at hvd
   repeat' first|(refine gp ?_;and_intros<;>first|exact trivial|repeat first|intro(Bk:Nat)|intro h)|(apply G.eqlStr;rfl;rfl;rfl;rfl;rfl;all_goals intro h;all_goals try (first|exact absurd h (by assumption)|exact absurd (by assumption) h))|(apply G.cV (g:=131) (vs:=[.string (bs n)]);rfl;rfl;exact fun w' _=>hvn w')|(apply G.cV (g:=131) (vs:=[.string (bs d)]);rfl;rfl;exact fun w' _=>hvd w')
   all_goals exact aA Tryz.func86 Tryz.results86 rfl
theorem uN (a:Q3):rQ (qR a)=if aP a then a else aY:=by
 by_cases h:aP a
 ·rw [if_pos h,Je h]
 ·rw [if_neg h,qR,if_neg h];rfl
theorem eA (a:Q3) (w:World) (h1:a.num.length<=536870000) (h2:a.den.length<=536870000) :
  CR 87 #[qA a] w (qA (rQ (qR a))):=by
 have hv:=fun w'=>kU a w' h1 h2
 rw [uN];refine aB [(0,qA a)] Tryz.func87 Tryz.ntmps87 ?_;by_cases h:aP a
 ·rw [if_pos h]
  rw [dT h] at hv;repeat' first|(refine gp ?_;and_intros<;>first|exact trivial|repeat first|intro(Bk:Nat)|intro h)|(apply G.cV (g:=86);rfl;rfl;exact fun w' _=>hv w')
  all_goals exact aA Tryz.func87 Tryz.results87 rfl
 ·rw [if_neg h]
  rw [dF h] at hv;repeat' first|(refine gp ?_;and_intros<;>first|exact trivial|repeat first|intro(Bk:Nat)|intro h)|(apply G.cV (g:=86);rfl;rfl;exact fun w' _=>hv w')
  all_goals exact aA Tryz.func87 Tryz.results87 rfl
theorem oB (a:Q3):(rQ (qR a)).neg=(bE a).1/\(if (rQ (qR a)).num=[] then ([],[1]) else ((rQ (qR a)).num,(rQ (qR a)).den))=(nB (bE a).2.1,nB (bE a).2.2):=by
 rw [uN,bE];by_cases h:aP a
 ·rw [if_pos h]
  by_cases h2:a.num=[]
  ·rw [if_neg (fun h3=>h3.2 h2),if_pos h2]
   rcases h with rfl|h
   ·exact ⟨rfl,by rw [fJ,pU]⟩
   ·exact absurd h2 h.1
  ·rw [if_pos ⟨h,h2⟩,if_neg h2]
   rcases h with rfl|⟨_,_,e1,e2,_⟩
   ·exact absurd rfl h2
   ·exact ⟨rfl,by rw [e1,e2]⟩
 ·rw [if_neg h,if_neg (fun h3=>h h3.1)]
  exact ⟨rfl,by rw [fJ,pU];rfl⟩
theorem kV (a:Q3) (w:World):CR 88 #[qA a] w (.tuple #[.string (bs (if a.num=[] then ([],[1]) else (a.num,a.den)).1),.string (bs (if a.num=[] then ([],[1]) else (a.num,a.den)).2)]):=by
 refine aB [(0,qA a)] Tryz.func88 Tryz.ntmps88 ?_;by_cases h:a.num=[]
 ·rw [if_pos h]
  repeat' first|(refine gp ?_;and_intros<;>first|exact trivial|repeat first|intro(Bk:Nat)|intro h)|(apply G.eqlStr;rfl;rfl;rfl;rfl;rfl;all_goals intro h;all_goals try (first|exact absurd h (by assumption)|exact absurd (by assumption) h))
  all_goals exact hU Tryz.func88 Tryz.results88 rfl
 ·rw [if_neg h]
  repeat' first|(refine gp ?_;and_intros<;>first|exact trivial|repeat first|intro(Bk:Nat)|intro h)|(apply G.eqlStr;rfl;rfl;rfl;rfl;rfl;all_goals intro h;all_goals try (first|exact absurd h (by assumption)|exact absurd (by assumption) h))
  all_goals exact hU Tryz.func88 Tryz.results88 rfl
theorem mU (s:Bool) (n d:Nat) (w:World) (h1:(nB n).length<=536870000) (h2:(nB d).length<=536870000) (hd:d≠0) :
  CR 90 #[.bool s,.string (bs (nB n)),.string (bs (nB d))] w (qA (rQ (ofF s n d))):=by
 have hc:=fun w'=>dD (nB n) w' om
 have hg:=fun w'=>zW (nB n) (nB d) w' h1 h2
 have hg0:Nat.gcd n d≠0:=fun e=>hd (Nat.eq_zero_of_gcd_eq_zero_right e)
 have hgl:(nB (Nat.gcd n d)).length<=536870000:=Nat.le_trans (eC (Nat.gcd_le_right _ om)) h2;have hn:=fun w'=>mQ (nB n) (nB (Nat.gcd n d)) w' h1 hgl (by rw [dL];exact hg0)
 have hdd:=fun w'=>mQ (nB d) (nB (Nat.gcd n d)) w' h2 hgl (by rw [dL];exact hg0)
 simp only [dL] at hc hg hn hdd;rw [CN hd];refine aB [(0,.bool s),(1,.string (bs (nB n))),(2,.string (bs (nB d)))] Tryz.func90 Tryz.ntmps90 ?_;by_cases c1:n=0
 ·subst c1
  rw [if_pos rfl];have c2:nB 0=[]:=fJ;repeat' first|(refine gp ?_;and_intros<;>first|exact trivial|repeat first|intro(Bk:Nat)|intro h)|(apply G.eqlStr;rfl;rfl;rfl;rfl;rfl;all_goals intro h;all_goals try (first|exact absurd h (by assumption)|exact absurd (by assumption) h))|(apply G.cV (g:=135);rfl;rfl;exact fun w' _=>hc w')
  all_goals exact aA Tryz.func90 Tryz.results90 rfl
 ·rw [if_neg c1]
  have c2:nB n≠[]:=fun e=>c1 (lJ.1 e)
  repeat' first|(refine gp ?_;and_intros<;>first|exact trivial|repeat first|intro(Bk:Nat)|intro h)|(apply G.eqlStr;rfl;rfl;rfl;rfl;rfl;all_goals intro h;all_goals try (first|exact absurd h (by assumption)|exact absurd (by assumption) h))|(apply G.cV (g:=135);rfl;rfl;exact fun w' _=>hc w')|(apply G.cV (g:=132);rfl;rfl;exact fun w' _=>hg w')|(apply G.cV (g:=136) (vs:=[.string (bs (nB n)),.string (bs (nB (Nat.gcd n d)))]);rfl;rfl;exact fun w' _=>hn w')|(apply G.cV (g:=136) (vs:=[.string (bs (nB d)),.string (bs (nB (Nat.gcd n d)))]);rfl;rfl;exact fun w' _=>hdd w')
  all_goals exact aA Tryz.func90 Tryz.results90 rfl
theorem Dg (q:Rat):rQ (-q)=if (rQ q).num=[] then rQ q else ⟨!(rQ q).neg,(rQ q).num,(rQ q).den⟩:=by
 by_cases h:q.num=0
 ·have hq:q=0:=Rat.num_eq_zero.1 h
  subst hq;rfl
 ·have h1:(rQ q).num≠[]:=by
   rw [rQ,if_neg h];exact fun e=>h (Int.natAbs_eq_zero.1 (lJ.1 e))
  rw [if_neg h1,rQ,rQ,if_neg h,if_neg (by rw [Rat.neg_num];omega)]
  simp only [Rat.neg_num,Rat.neg_den,Int.natAbs_neg];congr 1;by_cases h2:q.num < 0
  ·rw [dT h2,dF om];rfl
  ·rw [dF h2,dT om];rfl
theorem Ny (q:Rat):dR q=if (rQ q).num=[] then 0 else if (rQ q).neg=true then -1 else 1:=by
 rw [dR];by_cases h:q.num=0
 ·have hq:q=0:=Rat.num_eq_zero.1 h
  subst hq;rfl
 ·have h1:(rQ q).num≠[]:=by
   rw [rQ,if_neg h];exact fun e=>h (Int.natAbs_eq_zero.1 (lJ.1 e))
  have h3:q≠0:=fun e=>h (by rw [e];rfl)
  rw [if_neg h3,if_neg h1,rQ,if_neg h];have h4:q < 0 ↔ q.num < 0:=by rw [<- Rat.not_le,<- Rat.num_nonneg,Int.not_le]
  by_cases h2:q.num < 0
  ·rw [if_pos (h4.2 h2),if_pos (dT h2)]
  ·rw [if_neg (fun e=>h2 (h4.1 e)),if_neg (fun e=>h2 (of_decide_eq_true e))]
theorem FB (a:Q3) (w:World) (h1:a.num.length<=536870000) (h2:a.den.length<=536870000) :
  CR 139 #[qA a] w (qA (rQ (-qR a))):=by
 have hc:=fun w'=>eA a w' h1 h2
 rw [Dg];generalize rQ (qR a)=c at *;obtain ⟨s,n,d⟩:=c;dsimp only;refine aB [(0,qA a)] Tryz.func139 Tryz.ntmps139 ?_;by_cases h:n=[]
 ·rw [if_pos h]
  repeat' first|(refine gp ?_;and_intros<;>first|exact trivial|repeat first|intro(Bk:Nat)|intro h)|(apply G.neqStr;rfl;rfl;rfl;rfl;rfl;all_goals intro h;all_goals try (first|exact absurd h (by assumption)|exact absurd (by assumption) h))|(apply G.cV (g:=87);rfl;rfl;exact fun w' _=>hc w')
  all_goals exact aA Tryz.func139 Tryz.results139 rfl
 ·rw [if_neg h]
  cases s;all_goals skip
  repeat' first|(refine gp ?_;and_intros<;>first|exact trivial|repeat first|intro(Bk:Nat)|intro h)|(apply G.neqStr;rfl;rfl;rfl;rfl;rfl;all_goals intro h;all_goals try (first|exact absurd h (by assumption)|exact absurd (by assumption) h))|(apply G.cV (g:=87);rfl;rfl;exact fun w' _=>hc w')
  all_goals exact aA Tryz.func139 Tryz.results139 rfl
theorem oC (a b:Q3) (w:World) (h1:a.num.length<=134217000) (h2:a.den.length<=134217000) (h3:b.num.length<=134217000) (h4:b.den.length<=134217000) :
  CR 47 #[qA a,qA b] w (qA (rQ (qR a+qR b))):=by
 obtain ⟨l1,l2⟩:=eL h1 h2 dc;obtain ⟨l3,l4⟩:=eL h3 h4 dc;obtain ⟨e1,d1⟩:=eK a;obtain ⟨e2,d2⟩:=eK b;obtain ⟨e3,d3⟩:=mZ (s:=(bE a).1) (t:=(bE b).1) (n:=(bE a).2.1) (m:=(bE b).2.1) d1 d2;rw [e1,e2] at e3;rw [<- e3,lK];clear e1 e2 e3 d3;have ca:=fun w'=>eA a w' om om
 have cb:=fun w'=>eA b w' om om
 have pa:=fun w'=>kV (rQ (qR a)) w'
 have pb:=fun w'=>kV (rQ (qR b)) w'
 obtain ⟨na,fa⟩:=oB a;obtain ⟨nb,fb⟩:=oB b;rw [fa] at pa;rw [fb] at pb;clear fa fb;generalize rQ (qR a)=x at *;generalize rQ (qR b)=y at *;generalize bE a=f at *;generalize bE b=g at *;obtain ⟨s,n,d⟩:=f;obtain ⟨t,m,e⟩:=g;obtain ⟨xs,xn,xd⟩:=x;obtain ⟨ys,yn,yd⟩:=y;dsimp only at *;subst na nb;have m1:=fun w'=>lL (nB n) (nB e) w' om om
 have m2:=fun w'=>lL (nB m) (nB d) w' om om
 have m3:=fun w'=>lL (nB d) (nB e) w' om om
 have k1:=iJ l1 l4;have k2:=iJ l3 l2;have k3:=iJ l2 l4;have k4:=F8 k1 k2;have ad:=fun w'=>F7 (nB (n*e)) (nB (m*d)) w' om om
 have cm:=fun w'=>tD (nB (n*e)) (nB (m*d)) w' om om
 have s1:=fun (h:n*e<=m*d) w'=>tE (nB (m*d)) (nB (n*e)) w' om om (by rw [dL,dL];exact h)
 have s2:=fun (h:m*d<=n*e) w'=>tE (nB (n*e)) (nB (m*d)) w' om om (by rw [dL,dL];exact h)
 simp only [dL] at m1 m2 m3 ad cm s1 s2;have hde:d*e≠0:=Nat.mul_ne_zero d1 d2;have lo:=fun (z:Bool) (v:Nat) (hv:(nB v).length<=536870000) w'=>mU z v (d*e) w' hv om hde
 by_cases hst:xs=ys
 ·subst hst
  rw [if_pos rfl];have lo:=fun w'=>lo xs (n*e+m*d) om w'
  clear cm s1 s2;refine aB [(0,qA a),(1,qA b)] Tryz.func47 Tryz.ntmps47 ?_;cases xs;all_goals skip
  repeat' first|(refine gp ?_;and_intros<;>first|exact trivial|repeat first|intro(Bk:Nat)|intro h)|(apply G.cV (g:=87) (vs:=[qA a]);rfl;rfl;exact fun w' _=>ca w')|(apply G.cV (g:=87) (vs:=[qA b]);rfl;rfl;exact fun w' _=>cb w')|(apply G.cV (g:=88) (vs:=[.agg #[.bool _,.string (bs xn),.string (bs xd)]]);rfl;rfl;exact fun w' _=>pa w')|(apply G.cV (g:=88) (vs:=[.agg #[.bool _,.string (bs yn),.string (bs yd)]]);rfl;rfl;exact fun w' _=>pb w')|(apply G.cV (g:=89) (vs:=[.string (bs (nB n)),.string (bs (nB e))]);rfl;rfl;exact fun w' _=>m1 w')|(apply G.cV (g:=89) (vs:=[.string (bs (nB m)),.string (bs (nB d))]);rfl;rfl;exact fun w' _=>m2 w')|(apply G.cV (g:=89) (vs:=[.string (bs (nB d)),.string (bs (nB e))]);rfl;rfl;exact fun w' _=>m3 w')|(apply G.cV (g:=91);rfl;rfl;exact fun w' _=>ad w')|(apply G.cV (g:=90);rfl;rfl;exact fun w' _=>lo w')
  all_goals exact aA Tryz.func47 Tryz.results47 rfl
 rw [if_neg hst];have ht:ys=!xs:=by cases xs<;>cases ys<;>simp_all
 subst ht;by_cases hlt:n*e < m*d
 ·rw [if_pos hlt]
  have s1:=s1 om;have lo:=fun w'=>lo (!xs) (m*d-n*e) (Nat.le_trans (eC (Nat.sub_le _ _)) om) w'
  rw [jT om] at cm;clear s2 hst;refine aB [(0,qA a),(1,qA b)] Tryz.func47 Tryz.ntmps47 ?_;cases xs;all_goals skip
  repeat' first|(refine gp ?_;and_intros<;>first|exact trivial|repeat first|intro(Bk:Nat)|intro h)|(apply G.cV (g:=87) (vs:=[qA a]);rfl;rfl;exact fun w' _=>ca w')|(apply G.cV (g:=87) (vs:=[qA b]);rfl;rfl;exact fun w' _=>cb w')|(apply G.cV (g:=88) (vs:=[.agg #[.bool _,.string (bs xn),.string (bs xd)]]);rfl;rfl;exact fun w' _=>pa w')|(apply G.cV (g:=88) (vs:=[.agg #[.bool _,.string (bs yn),.string (bs yd)]]);rfl;rfl;exact fun w' _=>pb w')|(apply G.cV (g:=89) (vs:=[.string (bs (nB n)),.string (bs (nB e))]);rfl;rfl;exact fun w' _=>m1 w')|(apply G.cV (g:=89) (vs:=[.string (bs (nB m)),.string (bs (nB d))]);rfl;rfl;exact fun w' _=>m2 w')|(apply G.cV (g:=89) (vs:=[.string (bs (nB d)),.string (bs (nB e))]);rfl;rfl;exact fun w' _=>m3 w')|(apply G.cV (g:=92);rfl;rfl;exact fun w' _=>cm w')|(apply G.cV (g:=93);rfl;rfl;exact fun w' _=>s1 w')|(apply G.cV (g:=90);rfl;rfl;exact fun w' _=>lo w')
  all_goals exact aA Tryz.func47 Tryz.results47 rfl
 ·rw [if_neg hlt]
  have s2:=s2 om;have lo:=fun w'=>lo xs (n*e-m*d) (Nat.le_trans (eC (Nat.sub_le _ _)) om) w'
  have hc0:0<=hZ ((n*e:Nat):Int) ((m*d:Nat):Int):=by
   rcases Nat.lt_or_ge (m*d) (n*e) with h|h
   ·rw [gJ om];decide
   ·rw [show n*e=m*d by omega,iE];decide
  generalize hZ ((n*e:Nat):Int) ((m*d:Nat):Int)=cc at *;clear s1 hst;refine aB [(0,qA a),(1,qA b)] Tryz.func47 Tryz.ntmps47 ?_;cases xs;all_goals skip
  repeat' first|(refine gp ?_;and_intros<;>first|exact trivial|repeat first|intro(Bk:Nat)|intro h)|(apply G.cV (g:=87) (vs:=[qA a]);rfl;rfl;exact fun w' _=>ca w')|(apply G.cV (g:=87) (vs:=[qA b]);rfl;rfl;exact fun w' _=>cb w')|(apply G.cV (g:=88) (vs:=[.agg #[.bool _,.string (bs xn),.string (bs xd)]]);rfl;rfl;exact fun w' _=>pa w')|(apply G.cV (g:=88) (vs:=[.agg #[.bool _,.string (bs yn),.string (bs yd)]]);rfl;rfl;exact fun w' _=>pb w')|(apply G.cV (g:=89) (vs:=[.string (bs (nB n)),.string (bs (nB e))]);rfl;rfl;exact fun w' _=>m1 w')|(apply G.cV (g:=89) (vs:=[.string (bs (nB m)),.string (bs (nB d))]);rfl;rfl;exact fun w' _=>m2 w')|(apply G.cV (g:=89) (vs:=[.string (bs (nB d)),.string (bs (nB e))]);rfl;rfl;exact fun w' _=>m3 w')|(apply G.cV (g:=92);rfl;rfl;exact fun w' _=>cm w')|(apply G.cV (g:=93);rfl;rfl;exact fun w' _=>s2 w')|(apply G.cV (g:=90);rfl;rfl;exact fun w' _=>lo w')
  all_goals exact aA Tryz.func47 Tryz.results47 rfl
theorem zY (a b:Q3) (w:World) (h1:a.num.length<=134217000) (h2:a.den.length<=134217000) (h3:b.num.length<=134217000) (h4:b.den.length<=134217000) (h5:(rQ (qR b)).num.length<=134217000) (h6:(rQ (qR b)).den.length<=134217000) :
  CR 99 #[qA a,qA b] w (qA (rQ (qR a-qR b))):=by
 have hn:=fun w'=>FB b w' om om
 have ha:=fun w'=>oC a (rQ (-qR b)) w' h1 h2 (by rw [Dg];split<;>exact h5) (by rw [Dg];split<;>exact h6)
 rw [bR,<- Rat.sub_eq_add_neg] at ha;refine aB [(0,qA a),(1,qA b)] Tryz.func99 Tryz.ntmps99 ?_;repeat' first|(refine gp ?_;and_intros<;>first|exact trivial|repeat first|intro(Bk:Nat)|intro h)|(apply G.cV (g:=139);rfl;rfl;exact fun w' _=>hn w')|(apply G.cV (g:=47);rfl;rfl;exact fun w' _=>ha w')
 all_goals exact aA Tryz.func99 Tryz.results99 rfl
theorem oD (a b:Q3) (w:World) (h1:a.num.length<=134217000) (h2:a.den.length<=134217000) (h3:b.num.length<=134217000) (h4:b.den.length<=134217000) (h5:(rQ (qR b)).num.length<=134217000) (h6:(rQ (qR b)).den.length<=134217000) :
  CR 51 #[qA a,qA b] w (.int .i64 (dR (qR a-qR b))):=by
 have hs:=fun w'=>zY a b w' h1 h2 h3 h4 h5 h6
 rw [Ny];generalize rQ (qR a-qR b)=r at *;obtain ⟨s,n,d⟩:=r;dsimp only;by_cases h:n=[]
 ·rw [if_pos h]
  refine aB [(0,qA a),(1,qA b)] Tryz.func51 Tryz.ntmps51 ?_;repeat' first|(refine gp ?_;and_intros<;>first|exact trivial|repeat first|intro(Bk:Nat)|intro h)|(apply G.eqlStr;rfl;rfl;rfl;rfl;rfl;all_goals intro h;all_goals try (first|exact absurd h (by assumption)|exact absurd (by assumption) h))|(apply G.cV (g:=99);rfl;rfl;exact fun w' _=>hs w')
  all_goals exact aA Tryz.func51 Tryz.results51 rfl
 ·rw [if_neg h]
  refine aB [(0,qA a),(1,qA b)] Tryz.func51 Tryz.ntmps51 ?_;cases s;all_goals skip
  repeat' first|(refine gp ?_;and_intros<;>first|exact trivial|repeat first|intro(Bk:Nat)|intro h)|(apply G.eqlStr;rfl;rfl;rfl;rfl;rfl;all_goals intro h;all_goals try (first|exact absurd h (by assumption)|exact absurd (by assumption) h))|(apply G.cV (g:=99);rfl;rfl;exact fun w' _=>hs w')
  all_goals exact aA Tryz.func51 Tryz.results51 rfl
def aH (k:Nat) (a:Q3):Prop:=a.num.length<=k/\a.den.length<=k
theorem Cb {a:Q3}{k:Nat} (h:aH k a):(rQ (qR a)).num.length<=k/\(rQ (qR a)).den.length<=k:=by
 rw [uN];split
 ·exact h
 ·exact ⟨Nat.zero_le _,Nat.zero_le _⟩
theorem aF {a:Q3}{j k:Nat} (h:aH j a) (hk:j<=k):aH k a:=⟨Nat.le_trans h.1 hk,Nat.le_trans h.2 hk⟩
theorem aE.all {w:World}{a:Option Addr}{sz:Nat}{A:Type}{f:A->List Value}{l:List A} (h:aE w a sz (l.map f)) (h0:0 < l.length):∃ b off,a=some ⟨b,off,none⟩/\∀ i (hi:i < l.length),bG w b (off+i*sz) (f l[i]):=by
 obtain ⟨b,off,h1,h2⟩:=h (by simpa using h0)
 exact ⟨b,off,h1,fun i hi=>h2 i _ (by simp [hi])⟩
def prv {A:Type} (l:List A):Nat->Option A
 | 0=>none
 | k+1=>l[k]?
theorem pW {s:Bool}{n d k:Nat} (hd:d≠0) (h1:(nB n).length<=k) (h2:(nB d).length<=k):aH k (rQ (ofF s n d)):=by
 rw [CN hd];split
 ·exact ⟨Nat.zero_le _,Nat.zero_le _⟩
 ·exact ⟨Nat.le_trans (eC (Nat.div_le_self _ _)) h1,Nat.le_trans (eC (Nat.div_le_self _ _)) h2⟩
theorem Ib {f g:Bool×Nat×Nat}{i j:Nat} (hf:fLe f i) (hg:fLe g j):fLe (lK f.1 f.2.1 f.2.2 g.1 g.2.1 g.2.2) (i+j+1):=by
 obtain ⟨s,n,d⟩:=f;obtain ⟨t,m,e⟩:=g;obtain ⟨h1,h2⟩:=hf;obtain ⟨h3,h4⟩:=hg;dsimp only at h1 h2 h3 h4;have l1:=iJ h1 h4;have l2:=iJ h3 h2;rw [Nat.add_comm j i] at l2;have l3:=iJ h2 h4;have l4:=F8 l1 l2;rw [lK];split
 ·exact ⟨l4,by dsimp only;omega⟩
 ·split
  ·exact ⟨Nat.le_trans (eC (Nat.sub_le _ _)) (Nat.le_trans l2 om),by dsimp only;omega⟩
  ·exact ⟨Nat.le_trans (eC (Nat.sub_le _ _)) (Nat.le_trans l1 om),by dsimp only;omega⟩
theorem eT {x y:Rat}{i j:Nat} (hx:aH i (rQ x)) (hy:aH j (rQ y)) (hi:1<=i) (hj:1<=j):aH (i+j+1) (rQ (x+y)):=by
 obtain ⟨e1,d1⟩:=eK (rQ x);obtain ⟨e2,d2⟩:=eK (rQ y);obtain ⟨e3,d3⟩:=mZ (s:=(bE (rQ x)).1) (t:=(bE (rQ y)).1) (n:=(bE (rQ x)).2.1) (m:=(bE (rQ y)).2.1) d1 d2;rw [e1,e2,bR,bR] at e3;rw [<- e3];have:=Ib (eL hx.1 hx.2 hi) (eL hy.1 hy.2 hj);exact pW d3 this.1 this.2
theorem uO {x:Rat}{i:Nat} (hx:aH i (rQ x)):aH i (rQ (-x)):=by
 rw [Dg];split<;>exact hx
theorem jX {x y:Rat}{i j:Nat} (hx:aH i (rQ x)) (hy:aH j (rQ y)) (hi:1<=i) (hj:1<=j):aH (i+j+1) (rQ (x-y)):=by
 rw [Rat.sub_eq_add_neg];exact eT hx (uO hy) hi hj
theorem fY {x y:Rat}{i j:Nat} (hx:aH i (rQ x)) (hy:aH j (rQ y)) (hi:1<=i) (hj:1<=j):aH (i+j) (rQ (x*y)):=by
 obtain ⟨e1,d1⟩:=eK (rQ x);obtain ⟨e2,d2⟩:=eK (rQ y);rw [bR] at e1 e2;have e3:ofF (eH (bE (rQ x)) (bE (rQ y))).1 (eH (bE (rQ x)) (bE (rQ y))).2.1 (eH (bE (rQ x)) (bE (rQ y))).2.2=x*y:=by
  rw [<- e1,<- e2,mY,e1,e2];rfl
 rw [<- e3];have:=rJ (eL hx.1 hx.2 hi) (eL hy.1 hy.2 hj);exact pW (Nat.mul_ne_zero d1 d2) this.1 this.2
theorem jC {n:Int} (h1:-999999999999999<=n) (h2:n<=999999999999999):aH 8 (rQ (n:Rat)):=by
 rw [<- yO];exact pW dc (pV h1 h2) wE
theorem zZ {m n:Int} (h1:-999999999999999<=m) (h2:m<=999999999999999) (h3:-999999999999999<=n) (h4:n<=999999999999999) (h0:n≠0):aH 16 (rQ ((m:Rat) / (n:Rat))):=by
 rw [<- Df m n h0];have l3:=rJ (f:=(decide (m < 0),m.natAbs,1)) (g:=(decide (n < 0),1,n.natAbs)) ⟨pV h1 h2,wE⟩ ⟨wE,pV h3 h4⟩;exact pW (Nat.mul_ne_zero (show (1:Nat)≠0 by decide) (by dsimp only;omega)) l3.1 l3.2
theorem dX {k:Nat}:aH k (rQ 0):=⟨Nat.zero_le _,Nat.zero_le _⟩
theorem cQ {a:Q3}{k:Nat} (h:aH k a):aH k (rQ (qR a)):=Cb h
def isV (s:Int):List Value:=[.int .i64 s]
theorem dE (s:Int):(isV s).length=1:=rfl
theorem jY {A:Type} (l:List A):l=[]∨∃ o p,l=o++[p]:=by
 rcases List.eq_nil_or_concat l with rfl|⟨o,p,rfl⟩
 ·exact .inl rfl
 ·exact .inr ⟨o,p,List.concat_eq_append⟩
theorem Nz {w0 w:World}{M:List Row}{A:Type}{f:A->List Value}{sz b tot:Nat}{e:TypeId}{l:List A} (hw:Sat w0 M w) (hf:∀ x,(f x).length=sz) (hm:Row.blk b e (flat f l) tot∈M:=by exact mm):aE w (some ⟨b,0,none⟩) sz (l.map f)/\w0.heap.size<=b:=⟨aE.P5 hf hw hm,((hw.old _ hm).2 _ rfl).1⟩
theorem swap_perm (l:List Int) (i j:Nat) (hi:i < l.length) (hj:j < l.length):((l.set i l[j]).set j l[i]).Perm l:=by
 have h:=Array.swap_perm (xs:=l.toArray) (i:=i) (j:=j) (by simpa using hi) (by simpa using hj)
 have h2:=h.toList;simpa using h2
instance:BG Tryz.prog 107 3 3 (.int .i64 0):=⟨by kernel_rfl,fun w=>Tryz.zeroValue3 w⟩
instance tkI:vY Tryz.prog 3 (Value.int .i64):=vY.int (by kernel_rfl)
theorem Pe (n:Nat) (e:Bool) (v:Value) (w:World):(Instr.checkKey e (n+1) 3 v).run Tryz.prog w=.ok () w:=by
 rw [Instr.checkKey];simp [underlying,Tryz.underlying3]
def iv (p:Int×Int):Int×Value:=(p.1,.int .i64 p.2)
def bump (x:Int):List (Int×Int)->List (Int×Int)
 | []=>[(x,1)]
 | (y,n)::r=>if x=y then (x,n+1)::r else (y,n)::bump x r
def cnt (x:Int):List (Int×Int)->Int
 | []=>0
 | (y,n)::r=>if x=y then n else cnt x r
theorem FC (x:Int):∀ L:List (Int×Int),(jP x (L.map iv)).getD (.int .i64 0)=.int .i64 (cnt x L)
 | []=>rfl
 | (y,n)::r=>by
  rw [List.map_cons,iv,jP,cnt];split
  ·rfl
  ·exact FC x r
theorem Jx (x:Int):∀ L:List (Int×Int),gH x (.int .i64 (cnt x L+1)) (L.map iv)=(bump x L).map iv
 | []=>rfl
 | (y,n)::r=>by
  rw [List.map_cons,iv,gH,bump,cnt];split
  ·rfl
  ·rw [Jx x r];rfl
def pX (x n:Int):List (Int×Int)->List (Int×Int)
 | []=>[(x,n)]
 | (y,m)::r=>if x=y then (x,n)::r else (y,m)::pX x n r
theorem Aa (x n:Int):∀ L:List (Int×Int),gH x (.int .i64 n) (L.map iv)=(pX x n L).map iv
 | []=>rfl
 | (y,m)::r=>by
  rw [List.map_cons,iv,gH,pX];split
  ·rfl
  ·rw [Aa x n r];rfl
theorem fQ (x y n:Int):∀ L:List (Int×Int),cnt x (pX y n L)=if x=y then n else cnt x L
 | []=>rfl
 | (z,m)::r=>by
  rw [pX];by_cases h:y=z
  ·subst h
   rw [if_pos rfl,cnt,cnt];by_cases h2:x=y
   ·rw [if_pos h2,if_pos h2]
   ·rw [if_neg h2,if_neg h2,if_neg h2]
  ·rw [if_neg h,cnt,cnt,fQ x y n r]
   by_cases h2:x=z
   ·rw [if_pos h2,if_pos h2,if_neg om]
   ·rw [if_neg h2,if_neg h2]
end Go.Proofs.YtjcecdmbfmccoaaGreatDoor
/-
 How arguments read: what all chapters share.
-/
namespace Go.Proofs.YtjcecdmbfmccoaaGreatDoor
open Go.RowKit Go.Sl Go.Num Go.ChangeShapes Go.WideShapes
theorem own:ownKnob Tryz.prog.godebug=none:=by kernel_rfl
theorem OA:aK Tryz.prog 9 (fun l:List UInt8=>[.string (bs l)]) (fun _ _=>True):=(aK.string Tryz.underlying9).turn fun _ s _=>⟨s.data.toList,by rw [MD],trivial⟩
theorem MH:aK Tryz.prog 4 (fun b:Bool=>[.bool b]) (fun _ _=>True):=aK.bool Tryz.underlying4
theorem Jy:aK Tryz.prog 25 (fun a:Q3=>[.bool a.neg,.string (bs a.num),.string (bs a.den)]) (fun _ _=>True):=(aK.struct3 (n:=3) Tryz.underlying25 (by kernel_rfl) (by kernel_rfl) MH OA OA).turn fun _ a _=>⟨⟨a.1,a.2.1,a.2.2⟩,rfl,trivial⟩
end Go.Proofs.YtjcecdmbfmccoaaGreatDoor
/-
 Calls that lay rows;rows brought to the front;what later chapters share.
-/
namespace Go.Sl
open Go.RowKit
variable {C:Ctx}{st:List (Nat×Value)}{M:List Row}{k:List Item}{q q':Md}{all rest:List Oper}{d:Nat}{opn:Op}{ty:TypeId}{pos:String}{after:Array Edge}{gd:Option (Nat×Bool)}
theorem G.cX {X:Type}{g:FuncId}{args:List Operand}{vs:List Value}{at_:Array TypeId}{v:X->Value}{w:World} [hF:Fun C.P g]
  (hc:∀ w',Below w.heap.size w w'->Calls C.P g vs.toArray w' fun e w''=>∃ x,e=.returned (v x)/\Below w'.heap.size w' w'') (h:∀ x,G q' C all ((d,v x)::st) M rest k) (hw:w=C.w0:=by rfl) (ha:evL st args=some vs:=by rfl) (hs:bA all st gd d C.N q.ext=some q':=by rfl) :
  G q C all st M ({ dst:=some d,op:=.call { callee:=.value (.func g),args:=args.toArray,argTypes:=at_ },type:=ty,pos,after,guard:=gd }::rest) k:=by
 subst hw;obtain ⟨g1,g2,g3⟩:=aJ hs;exact G.call0 (X:=X) (v:=v) (Mn:=fun _=>[]) g1 g2 g3 ha (fun w hw=>(hc w hw.below).mono fun e w' ⟨x,h1,h2⟩=>⟨x,h1,hw.ext h2⟩) h
theorem G.cR {X:Type}{g:FuncId}{args:List Operand}{vs:List Value}{at_:Array TypeId}{v:X->Value}{Mn:X->List Row} (ha:evL st args=some vs) (hs:bA all st gd d C.N q.ext=some q') [hF:Fun C.P g]
  (hc:∀ w,Sat C.w0 M w->Calls C.P g vs.toArray w fun e w'=>∃ x,e=.returned (v x)/\Sat C.w0 (Mn x++M) w') (h:∀ x,G q' C all ((d,v x)::st) (Mn x++M) rest k) :
  G q C all st M ({ dst:=some d,op:=.call { callee:=.value (.func g),args:=args.toArray,argTypes:=at_ },type:=ty,pos,after,guard:=gd }::rest) k:=by
 obtain ⟨g1,g2,g3⟩:=aJ hs;exact G.call0 g1 g2 g3 ha hc h
theorem J.Qp {r1 r2 r3:Row}{M1 M2 M3:List Row} (p1:eS r1 M M1) (p2:eS r2 M1 M2) (p3:eS r3 M2 M3) (h:J C st (r1::r2::r3::M3) k):J C st M k :=
 J.perm (p1.perm.trans (List.Perm.cons _ (p2.perm.trans (List.Perm.cons _ p3.perm)))) h
end Go.Sl
namespace Go.Sl
theorem J.QG {C:Ctx}{st:List (Nat×Value)}{M:List Row}{k:List Item}{i:Item}{X:Type} (stF:X->List (Nat×Value)) (MF:X->List Row) (h:(∀ x,J C (stF x) (MF x) k)->J C st M (i::k)) (hk:∀ x,J C (stF x) (MF x) k):J C st M (i::k):=h hk
end Go.Sl
namespace Go.Sl
open Go.RowKit
theorem G.ownForm {C:Ctx}{st:List (Nat×Value)}{M:List Row}{k:List Item}{all rest:List Oper}{base E size n i:Nat}{v:Value}{xs:List Value} (hm:M[i]?=some (.own base v E size n xs)) (h:∀ a c,v=.slice a n c->G .seq C all st M rest k):G .seq C all st M rest k :=
 ⟨fun a w hf hd hw=>by
  obtain ⟨hl,hv⟩:=hw.hold _ (List.mem_of_getElem? hm);rcases hv with ⟨rfl,rfl⟩|⟨g,cap,cur,rfl,_⟩
  ·exact (h _ _ rfl).go a w hf hd hw
  ·exact (h _ _ rfl).go a w hf hd hw⟩
end Go.Sl
namespace Go.Sl
open Go.RowKit Go.ChangeShapes Go.WideShapes
end Go.Sl
namespace Go.Sl
open Go.RowKit
variable {C:Ctx}{st:List (Nat×Value)}{M:List Row}{k:List Item}{q q':Md}{all rest:List Oper}{d:Nat}{opn:Op}{ty:TypeId}{pos:String}{after:Array Edge}{gd:Option (Nat×Bool)}
theorem G.nilOwn {E size:Nat} (h:G .seq C all st (.own 0 (.slice none 0 0) E size 0 []::M) rest k):G .seq C all st M rest k :=
 ⟨fun a w hf hd hw=>h.go a w hf hd (hw.new (Below.refl _ _) ⟨by simp,.inl ⟨rfl,rfl⟩⟩ (Nat.zero_le _) fun b hb=>by simp [Row.sup,Value.ownBlock] at hb)⟩
theorem G.RD {g:FuncId}{args:List Operand}{vs:List Value}{at_:Array TypeId}{sz:Nat} (Q:Option Addr->Nat->Prop) (v:Option Addr->Nat->Value) (L:List (List Value)) (ha:evL st args=some vs) (hs:bA all st gd d C.N q.ext=some q') [hF:Fun C.P g]
  (hc:∀ w,Sat C.w0 M w->Calls C.P g vs.toArray w fun e w'=>∃ a' c',e=.returned (v a' c')/\aE w' a' sz L/\(∀ p,a'=some p->w.heap.size<=p.block)/\Below w.heap.size w w'/\Q a' c')
  (h:∀ a' c',(0 < L.length->∃ b off,a'=some ⟨b,off,none⟩)->(∀ p,a'=some p->C.w0.heap.size<=p.block)->Q a' c'->G q' C all ((d,v a' c')::st) (aL C.w0.heap.size a' sz L::M) rest k) :
  G q C all st M ({ dst:=some d,op:=.call { callee:=.value (.func g),args:=args.toArray,argTypes:=at_ },type:=ty,pos,after,guard:=gd }::rest) k:=by
 obtain ⟨g1,g2,g3⟩:=aJ hs;refine G.call0 (X:={ x:Option Addr×Nat // (0 < L.length->∃ b off,x.1=some ⟨b,off,none⟩)/\(∀ p,x.1=some p->C.w0.heap.size<=p.block)/\Q x.1 x.2 }) (v:=fun x=>v x.1.1 x.1.2) (Mn:=fun x=>[aL C.w0.heap.size x.1.1 sz L]) g1 g2 g3 ha (fun w hw=>(hc w hw).mono fun e w' he=>?_) fun x=>h x.1.1 x.1.2 x.2.1 x.2.2.1 x.2.2.2
 obtain ⟨a',c',rfl,h1,h2,h3,hQ⟩:=he;refine ⟨⟨(a',c'),fun h0=>(let ⟨b,off,e,_⟩:=h1 h0;⟨b,off,e⟩),fun p hp=>Nat.le_trans hw.size (h2 p hp),hQ⟩,rfl,(hw.ext h3).addFact (Nat.le_refl _) h1 fun b hb=>?_⟩
 obtain ⟨h0,p,h5,h6,h7⟩:=hb;dsimp only at h5;obtain ⟨b',off,h8,hr⟩:=h1 h0;have hlt:=(hr 0 _ (gE h0)).1;have:=h2 p h5;rw [h5] at h8;cases h8;simp only at h6 this;subst h6;exact ⟨h7,hlt,hw.free (.inr (.inl this)) h7⟩
theorem G.blkCut {A:Type}{f:A->List Value}{g cap E size:Nat}{l l':List A} (m:Nat) {F:Row->List Row} (hf:∀ x,(f x).length=size) (hm:RAt (.blk g E (flat f l) (cap*size)) M F) (h1:m<=cap) (h2:cap<=maxLen) (h3:m<=l.length) (h4:l.take m=l') (h:G .seq C all st (F (.own 0 (.slice (some ⟨g,0,none⟩) m cap) E size m (flat f l'))) rest k):G .seq C all st M rest k :=
 ⟨fun a w hfit hd hw=>by
  obtain ⟨i,h5,h6⟩:=hm.idx;obtain ⟨rs,h7,h8⟩:=hw.hold _ (List.mem_of_getElem? h5);rw [<- h6] at h
  refine h.go a w hfit hd (hw.swap h5 (r':=.own 0 (.slice (some ⟨g,0,none⟩) m cap) E size m (flat f l')) ?_ rfl fun b hb=>?_)
  ·subst h4
   have h9:m*size<=(flat f l).length:=by rw [aO hf];exact Nat.mul_le_mul_right _ h3
   refine ⟨by rw [aO hf,List.length_take,Nat.min_eq_left h3],.inr ⟨g,cap,_,rfl,Nat.zero_le _,h7,h1,h2,by simp [h8],?_⟩⟩
   rw [<- wA hf l m,List.take_append_of_le_length h9]
  ·cases hb;rfl⟩
structure Jz {A:Type} (f:A->List Value) (sz:Nat) (adr:A->Option Addr) (sz2:Nat) (F2:A->List (List Value)) (w:World) (a:Option Addr) (L:List A):Prop where
 out:aE w a sz (L.map f)
 inn:∀ r∈L,aE w (adr r) sz2 (F2 r)
section
variable {A:Type}{f:A->List Value}{sz:Nat}{adr:A->Option Addr}{sz2:Nat}{F2:A->List (List Value)}
theorem Jz.below {w w':World}{a:Option Addr}{L:List A} (h:Jz f sz adr sz2 F2 w a L) (hb:Below w.heap.size w w'):Jz f sz adr sz2 F2 w' a L:=⟨h.out.below hb,fun r hr=>(h.inn r hr).below hb⟩
theorem Sat.supN {C:Ctx}{w w':World}{sz:Nat}{a:Option Addr}{L:List (List Value)}{b:Nat} (hw:Sat C.w0 M w) (h1:aE w' a sz L) (h2:∀ p,a=some p->w.heap.size<=p.block) (hb:sP C.w0.heap.size a L b):C.w0.heap.size<=b/\b < w'.heap.size/\∀ r∈M,¬ r.lock b:=by
 obtain ⟨h0,p,h5,h6,h7⟩:=hb;obtain ⟨b',off,h8,hr⟩:=h1 h0;have hlt:=(hr 0 _ (gE h0)).1;have:=h2 p h5;rw [h5] at h8;cases h8;simp only at h6 this;subst h6;exact ⟨h7,hlt,hw.free (.inr (.inl this)) h7⟩
end
end Go.Sl
