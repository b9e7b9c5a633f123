/-
  The arguments of a law: what their reading tells of their cells.
-/
import Derived.Test.YtjcecdmbfmccoaaGreatDoorCW
import Derived.Test.YtjcecdmbfmccoaaGreatDoorCK
import Derived.Test.YtjcecdmbfmccoaaGreatDoorCT
import Derived.ProofKit
import Derived.OpenShut
import Derived.ShutString
import Derived.ChangeOld
import Derived.Below
import Derived.Carry
import Derived.Test.YtjcecdmbfmccoaaGreatDoorProg
import Derived.Test.YtjcecdmbfmccoaaGreatDoorRows
set_option linter.unusedVariables false
set_option linter.unusedSimpArgs false
set_option linter.unusedSectionVars false
namespace Go.Sl
open Go.RowKit Go.ChangeShapes Go.WideShapes
variable {P:Program}{T E:TypeId}
theorem Fc {A:Type}{l:List A} (h:l.length=5):∃ a b c d e,l=[a,b,c,d,e]:=by
 match l,h with
 | [a,b,c,d,e],_=>exact ⟨a,b,c,d,e,rfl⟩
section
variable {A1 A2 A3 A4 A5 A6:Type}{f1:A1->List Value}{f2:A2->List Value}{f3:A3->List Value}{f4:A4->List Value}{f5:A5->List Value}{f6:A6->List Value}{G1:World->A1->Prop}{G2:World->A2->Prop}{G3:World->A3->Prop}{G4:World->A4->Prop}{G5:World->A5->Prop}{G6:World->A6->Prop}{d1 d2 d3 d4 d5 d6:Field}{n:Nat}
theorem aK.struct5 (ht:P.underlying T=some (.struct #[d1,d2,d3,d4,d5])) (hn:P.cellsOf T=n) (hT:xF P #[d1,d2,d3,d4,d5] n=true) (h1:aK P d1.type f1 G1) (h2:aK P d2.type f2 G2) (h3:aK P d3.type f3 G3) (h4:aK P d4.type f4 G4) (h5:aK P d5.type f5 G5) :
  aK P T (fun a:A1×A2×A3×A4×A5=>f1 a.1++(f2 a.2.1++(f3 a.2.2.1++(f4 a.2.2.2.1++f5 a.2.2.2.2)))) (fun w a=>G1 w a.1/\G2 w a.2.1/\G3 w a.2.2.1/\G4 w a.2.2.2.1/\G5 w a.2.2.2.2):=.mk fun enc w fuel cs x hx=>by
 obtain ⟨hj,hl,hf⟩:=aK.struct ht hn hT hx;obtain ⟨p1,p2,p3,p4,p5,hp⟩:=Fc hl;rw [hp] at hj hf;obtain ⟨_,_,r1⟩:=hf 0 d1 p1 rfl rfl;obtain ⟨_,_,r2⟩:=hf 1 d2 p2 rfl rfl;obtain ⟨_,_,r3⟩:=hf 2 d3 p3 rfl rfl;obtain ⟨_,_,r4⟩:=hf 3 d4 p4 rfl rfl;obtain ⟨_,_,r5⟩:=hf 4 d5 p5 rfl rfl;obtain ⟨a1,rfl,g1⟩:=h1.go enc w _ _ _ r1;obtain ⟨a2,rfl,g2⟩:=h2.go enc w _ _ _ r2;obtain ⟨a3,rfl,g3⟩:=h3.go enc w _ _ _ r3;obtain ⟨a4,rfl,g4⟩:=h4.go enc w _ _ _ r4;obtain ⟨a5,rfl,g5⟩:=h5.go enc w _ _ _ r5;exact ⟨(a1,a2,a3,a4,a5),by rw [hj];simp,g1,g2,g3,g4,g5⟩
end
theorem aK.argSlice {A:Type}{G:World->Sld A->Prop} (h:aK P T (fun s:Sld A=>[s.v]) G) (ht:P.underlying T=some (.slice E)) {H:Type}{enc:TypeId×Value->H}{W:World}{r:Reach}{base:Nat}{v:Value}{d:DataW H}{ps:List MemPlace} (hk:Value.okWide P W r base T v) (hv:DataW.Trod enc P W 0 (fun _=>true) true T v d ps):∃ s,v=s.v/\G W s:=by
 obtain ⟨a,n,c,rfl⟩:=okWide_slice ht hk;obtain ⟨s,h1,h2⟩:=h.arg hv;refine ⟨s,?_,h2⟩;simpa [Value.cells] using h1
end Go.Sl
/-
 Numbers of every kind: wrapping sums,quotients,shifts,bits,conversions.
-/
namespace Go.Sl
open Go.RowKit
variable {C:Ctx}{st:List (Nat×Value)}{M:List Row}{k:List Item}{q q':Md}{all rest:List Oper}{d:Nat}{ty:TypeId}{pos:String}{after:Array Edge}{gd:Option (Nat×Bool)}
theorem LdV.p0 {T:TypeId} [hT:gZ C.P T 2] {b tot:Nat}{e:TypeId}{x y:Value}{r:List Value} (hm:Row.blk b e (x::y::r) tot∈M):LdV C M T ⟨b,0,none⟩ (.agg #[x,y]) :=
 LdV.agg (vs:=[x,y]) rfl ⟨aC.blk hm rfl,aC.blk hm rfl,trivial⟩
end Go.Sl
/-
 The types and functions of this seat,as the small logic of memory takes them.
-/
namespace Go.Proofs
open Go.Sl
instance:bN Tryz.prog 37 31 1:=⟨Tryz.underlying37,Tryz.sizeOf31⟩
instance:cZ Tryz.prog 37 31 (.slice none 0 0) 1 24:=⟨Tryz.underlying37,by kernel_rfl,rfl,by decide⟩
instance:bN Tryz.prog 38 4 1:=⟨Tryz.underlying38,Tryz.sizeOf4⟩
instance:cZ Tryz.prog 38 4 (.bool false) 1 1:=⟨Tryz.underlying38,by kernel_rfl,rfl,by decide⟩
instance:eV Tryz.prog 39:=⟨Tryz.isAgg39⟩
instance:gZ Tryz.prog 43 4:=⟨Tryz.isAgg43,Tryz.sizeOf43⟩
instance:cP Tryz.prog 43 4:=⟨Tryz.sizeOf43⟩
instance:fW Tryz.prog 43 [.bool false,.string ⟨#[]⟩,.string ⟨#[]⟩,.int .i64 0]:=⟨fun w=>⟨_,Tryz.zeroValue43 w,rfl⟩⟩
instance:aV Tryz.prog 43 0 0:=aM (n:=3) Tryz.runUnderlying43 rfl Tryz.sizeOf25 dc rfl
instance:aV Tryz.prog 43 1 3:=aM (n:=1) Tryz.runUnderlying43 rfl Tryz.sizeOf39 dc rfl
instance:dN Tryz.prog 43 [.bool false,.string ⟨#[]⟩,.string ⟨#[]⟩,.int .i64 0] [(0,3),(3,1)]:=⟨fun parts out w h=>by simp [Instr.build,Tryz.zeroValue43,Tryz.runUnderlying43,Tryz.sizeOf25,Tryz.sizeOf39,Value.cells,h]⟩
instance:gZ Tryz.prog 98 2:=⟨Tryz.isAgg98,Tryz.sizeOf98⟩
instance:cP Tryz.prog 98 2:=⟨Tryz.sizeOf98⟩
instance:fW Tryz.prog 98 [.slice none 0 0,.int .i64 0]:=⟨fun w=>⟨_,Tryz.zeroValue98 w,rfl⟩⟩
instance:dN Tryz.prog 98 [.slice none 0 0,.int .i64 0] [(0,1),(1,1)]:=⟨fun parts out w h=>by simp [Instr.build,Tryz.zeroValue98,Tryz.runUnderlying98,Tryz.sizeOf39,Tryz.sizeOf82,Value.cells,h]⟩
instance:gZ Tryz.prog 103 4:=⟨Tryz.isAgg103,Tryz.sizeOf103⟩
instance:cP Tryz.prog 103 4:=⟨Tryz.sizeOf103⟩
instance:fW Tryz.prog 103 [.bool false,.string ⟨#[]⟩,.string ⟨#[]⟩,.int .i64 0]:=⟨fun w=>⟨_,Tryz.zeroValue103 w,rfl⟩⟩
instance:aV Tryz.prog 103 0 0:=aM (n:=3) Tryz.runUnderlying103 rfl Tryz.sizeOf25 dc rfl
instance:aV Tryz.prog 103 1 3:=aM (n:=1) Tryz.runUnderlying103 rfl Tryz.sizeOf39 dc rfl
instance:dN Tryz.prog 103 [.bool false,.string ⟨#[]⟩,.string ⟨#[]⟩,.int .i64 0] [(0,3),(3,1)]:=⟨fun parts out w h=>by simp [Instr.build,Tryz.zeroValue103,Tryz.runUnderlying103,Tryz.sizeOf25,Tryz.sizeOf39,Value.cells,h]⟩
instance:gZ Tryz.prog 187 4:=⟨Tryz.isAgg187,Tryz.sizeOf187⟩
instance:cP Tryz.prog 187 4:=⟨Tryz.sizeOf187⟩
instance:fW Tryz.prog 187 [.bool false,.string ⟨#[]⟩,.string ⟨#[]⟩,.int .i64 0]:=⟨fun w=>⟨_,Tryz.zeroValue187 w,rfl⟩⟩
instance:aV Tryz.prog 187 0 0:=aM (n:=3) Tryz.runUnderlying187 rfl Tryz.sizeOf25 dc rfl
instance:dN Tryz.prog 187 [.bool false,.string ⟨#[]⟩,.string ⟨#[]⟩,.int .i64 0] [(0,3),(3,1)]:=⟨fun parts out w h=>by simp [Instr.build,Tryz.zeroValue187,Tryz.runUnderlying187,Tryz.sizeOf25,Tryz.sizeOf39,Value.cells,h]⟩
instance:Fun Tryz.prog 8:=⟨Tryz.call8⟩
instance:Fun Tryz.prog 9:=⟨Tryz.call9⟩
instance:Fun Tryz.prog 10:=⟨Tryz.call10⟩
instance:Fun Tryz.prog 12:=⟨Tryz.call12⟩
instance:Fun Tryz.prog 14:=⟨Tryz.call14⟩
instance:Fun Tryz.prog 16:=⟨Tryz.call16⟩
instance:Fun Tryz.prog 18:=⟨Tryz.call18⟩
instance:Fun Tryz.prog 19:=⟨Tryz.call19⟩
instance:Fun Tryz.prog 31:=⟨Tryz.call31⟩
instance:Fun Tryz.prog 32:=⟨Tryz.call32⟩
instance:Fun Tryz.prog 44:=⟨Tryz.call44⟩
instance:Fun Tryz.prog 45:=⟨Tryz.call45⟩
instance:Fun Tryz.prog 46:=⟨Tryz.call46⟩
instance:Fun Tryz.prog 48:=⟨Tryz.call48⟩
instance:Fun Tryz.prog 49:=⟨Tryz.call49⟩
instance:Fun Tryz.prog 50:=⟨Tryz.call50⟩
instance:Fun Tryz.prog 52:=⟨Tryz.call52⟩
instance:Fun Tryz.prog 53:=⟨Tryz.call53⟩
instance:Fun Tryz.prog 71:=⟨Tryz.call71⟩
instance:Fun Tryz.prog 72:=⟨Tryz.call72⟩
instance:Fun Tryz.prog 85:=⟨Tryz.call85⟩
instance:Fun Tryz.prog 94:=⟨Tryz.call94⟩
instance:Fun Tryz.prog 95:=⟨Tryz.call95⟩
instance:Fun Tryz.prog 96:=⟨Tryz.call96⟩
instance:Fun Tryz.prog 97:=⟨Tryz.call97⟩
instance:Fun Tryz.prog 98:=⟨Tryz.call98⟩
instance:Fun Tryz.prog 100:=⟨Tryz.call100⟩
instance:Fun Tryz.prog 101:=⟨Tryz.call101⟩
instance:Fun Tryz.prog 102:=⟨Tryz.call102⟩
instance:Fun Tryz.prog 103:=⟨Tryz.call103⟩
instance:Fun Tryz.prog 130:=⟨Tryz.call130⟩
instance:Fun Tryz.prog 137:=⟨Tryz.call137⟩
instance:Fun Tryz.prog 138:=⟨Tryz.call138⟩
instance:Fun Tryz.prog 140:=⟨Tryz.call140⟩
instance:Fun Tryz.prog 163:=⟨Tryz.call163⟩
instance:Fun Tryz.prog 164:=⟨Tryz.call164⟩
instance:Fun Tryz.prog 165:=⟨Tryz.call165⟩
instance:Fun Tryz.prog 166:=⟨Tryz.call166⟩
instance:Fun Tryz.prog 174:=⟨Tryz.call174⟩
end Go.Proofs
/-
 Fields of struct values.
-/
namespace Go.Sl
open Go.RowKit
variable {C:Ctx}{st:List (Nat×Value)}{M:List Row}{k:List Item}{q q':Md}{all rest:List Oper}{d:Nat}{opn:Op}{ty:TypeId}{pos:String}{after:Array Edge}{gd:Option (Nat×Bool)}
theorem KR {P:Program}{T f off n:Nat}{fields:Array Field}{fd:Field} (hu:∀ w,(underlying T).run P w=.ok (.struct fields) w) (hf:fields[f]?=some fd) (ha:∀ w,(isAgg fd.type).run P w=.ok true w) (hs:∀ w,(sizeOf fd.type).run P w=.ok n w) (ho:fd.offset=off):xK P T f off n true :=
 ⟨fun cs v w h=>by
  subst ho;simp only [Jh,Option.some.injEq] at h
  subst h;have e:cs.toArray.extract fd.offset (fd.offset+n)=((cs.drop fd.offset).take n).toArray:=by simp
  simp [Instr.field,hu,hf,part,ha,hs,asAgg]⟩
end Go.Sl
/-
 Structs of a bool and two strings that are compared;bools that are compared;calls of method values.
-/
namespace Go.Sl
open Go.RowKit Go.Num
variable {C:Ctx}{st:List (Nat×Value)}{M:List Row}{k:List Item}{q q':Md}{all rest:List Oper}{d:Nat}{opn:Op}{ty:TypeId}{pos:String}{after:Array Edge}{gd:Option (Nat×Bool)}
theorem G.neR {T:TypeId}{x y:Operand}{yt:TypeId} (a b:Q3) (hx:evS st x=some (qA a)) (hy:evS st y=some (qA b)) [hT:Ji C.P T] (hs:bA all st gd d C.N q.calm=some q') (h1:a=b->G q' C all ((d,.bool false)::st) M rest k) (h2:a≠b->G q' C all ((d,.bool true)::st) M rest k) :
  G q C all st M ({ dst:=some d,op:=.binOp .neq T x y yt,type:=ty,pos,after,guard:=gd }::rest) k:=by
 obtain ⟨g1,g2,g3⟩:=aJ hs;refine G.PC (p:=¬ a=b) (OpV.of fun ac w hf _ dst pos after guard=>?_) g1 rfl g2 g3 h2 (fun h=>h1 (Decidable.not_not.1 h))
 have e:(binOp .neq T (qA a) (qA b)).run C.P w=.ok (.bool (decide (¬ a=b))) w:=by
  show ((Op.equal T _ _).bind fun b=>Sem.pure (Value.bool (!b))).run C.P w=_
  rw [Sem.run_bind',hT.h,pM,decide_not];rfl
 simp only [execOp,hf.eval hx,hf.eval hy,Sem.run_bind,tB,e,Result.andThen_ok];rfl
end Go.Sl
/-
 The fields of this seat's structs.
-/
namespace Go.Proofs
open Go.Sl
instance:xK Tryz.prog 98 0 0 1 false:=uE Tryz.runUnderlying98 rfl Tryz.isAgg82 rfl
instance:xK Tryz.prog 187 0 0 3 true:=KR Tryz.runUnderlying187 rfl Tryz.isAgg25 Tryz.sizeOf25 rfl
end Go.Proofs
/-
 Contracts of the specification of natural numbers: DivMod,Gcd,Int.
-/
namespace Go.Proofs.YtjcecdmbfmccoaaGreatDoor
open Go.RowKit Go.Sl Go.Num
theorem M4 {m:Nat} (h:m≠0):nB m=nB (m / 256)++[UInt8.ofNat (m % 256)]:=by
 rw [nB,iW dc h,List.map_cons,List.reverse_cons];rfl
theorem Gy (n:Nat) (w:World) (h:n < 9223372036854775808):CR 174 #[.int .i64 n] w (.agg #[.string (bs (nB n)),.int .i64 0]):=by
 refine aB [(0,.int .i64 n)] Tryz.func174 Tryz.ntmps174 ?_;all_goals (refine go ?_;and_intros<;>first|exact trivial|repeat first|intro(Bk:Nat)|intro h)
 refine J.loop (c:=_) ((n,[]):Nat×List UInt8) (fun s=>s.1) (fun s=>[(0,.int .i64 s.1),(2,.pointer (some ⟨Bk,0,none⟩)),(3,.string (bs s.2))]) (fun s=>[.blk Bk 151 [.string (bs []),.int .i64 0] 2]) (fun s=>s.1<=n/\nB s.1++s.2=nB n) ?_ sbT sbL ?_
 ·exact ⟨Nat.le_refl _,by simp⟩
 intro ⟨m,l⟩ ⟨h1,h2⟩ ih;dsimp only at h1 h2 ⊢;by_cases hm:m=0
 ·subst hm
  rw [fJ,List.nil_append] at h2;rw [<- h2];all_goals (refine go ?_;and_intros<;>first|exact trivial|repeat first|intro(Bk:Nat)|intro h)
  all_goals exact aA Tryz.func174 Tryz.results174 rfl
 ·have hu8:=Ju (c:=m % 256) (Nat.mod_lt _ dc)
  have hlt:m / 256 < m:=Nat.div_lt_self om dc;have hll:l.length<=8:=by
   have h3:=congrArg List.length h2;rw [List.length_append] at h3;have h4:(nB n).length<=8:=iY om;omega
  have c1:(m:Int).tmod 256=((m % 256:Nat):Int):=Jt (b:=256);have c2:IntKind.i64.wrap ((m:Int).tdiv 256)=((m / 256:Nat):Int):=De (b:=256) om;repeat' (first|(apply G.Qr;rfl;rfl;decide;exact c1;rfl;rfl;rfl)|(apply G.Qg;rfl;rfl;decide;exact c2;rfl;rfl;rfl)|(apply G.Pu;rfl;rfl;rfl;rfl;rfl;rfl;rfl;rfl;intro Bs)|(apply G.PJ (E:=5) (l:=[UInt8.ofNat (m % 256)]);rfl;rfl;exact fun w' hw=>aE.P5 (fun _=>rfl) hw (by (rw [hu8];exact .head _));rfl;rfl;rfl)|(apply G.Qb;rfl;rfl;(rw [List.length_singleton];omega);rfl;rfl;rfl)|(apply G.pu;rfl;rfl;first|exact trivial|omega)|(apply J.ct;rfl)|(apply G.nil;rfl)|(apply G.cm;rfl;rfl;all_goals intro h;all_goals try (exfalso;omega))|(apply G.fa;rfl;rfl)|(apply G.ld;rfl;(first|(apply LdV.one;(first|exact aC.P0 (by assumption) rfl|exact aC.rowS (by assumption) rfl|exact aC.Px (by assumption) rfl|(apply aC.blk;exact mm;rfl)))|(apply LdV.Pw;exact mm;rfl)|(apply LdV.part;exact mm;rfl;rfl)|(apply LdV.Pv;assumption;rfl)|(apply LdV.Ps;assumption;rfl;rfl));rfl)|(apply G.sk;rfl)|(apply G.ls;rfl;rfl)|(apply G.ix;rfl;rfl;rfl;omega;rfl)|(apply G.ix;rfl;rfl;(first|exact bU _|exact bJ _);omega;rfl)|(apply G.lt;rfl;rfl)|(apply G.bu;rfl;rfl;rfl)|(apply G.fd;rfl;rfl;rfl)|(apply G.cv;rfl;rfl;rfl;omega)|(apply G.beq;rfl;rfl;rfl)|(apply G.P9;rfl;rfl;rfl)|(apply G.mm;rfl;rfl)|(apply G.mf;rfl;rfl)|(apply G.mx;rfl;rfl;rfl)|(apply G.mn;rfl;rfl;rfl)|(apply G.bx;rfl;rfl;rfl;intro Bk)|(apply G.al;rfl;intro Bk)|(apply G.so;rfl;rfl;(repeat (first|exact RAt.head|apply RAt.tail));rfl;rfl)|(apply G.ss;rfl;rfl;(repeat (first|exact RAt.head|apply RAt.tail));rfl;rfl)|(apply J.Pz;exact Tryz.Pr;decide +kernel)|(apply J.P4;exact Tryz.Pr;decide +kernel)|apply J.PA)
  exact J.fin (ih (m / 256,[UInt8.ofNat (m % 256)]++l) ⟨by dsimp only;omega,by dsimp only;rw [<- List.append_assoc,<- M4 hm];exact h2⟩ hlt)
theorem tU (a b:Q3) (w:World) (h1:a.num.length<=134217000) (h2:a.den.length<=134217000) (h3:b.num.length<=134217000) (h4:b.den.length<=134217000) :
  CR 97 #[qA a,qA b] w (qA (rQ (qR a*qR b))):=by
 obtain ⟨l1,l2⟩:=eL h1 h2 dc;obtain ⟨l3,l4⟩:=eL h3 h4 dc;obtain ⟨e1,d1⟩:=eK a;obtain ⟨e2,d2⟩:=eK b;have e3:ofF (eH (bE a) (bE b)).1 (eH (bE a) (bE b)).2.1 (eH (bE a) (bE b)).2.2=qR a*qR b:=by
  rw [<- e1,<- e2,mY];rfl
 rw [<- e3,eH];clear e1 e2 e3;have ca:=fun w'=>eA a w' om om
 have cb:=fun w'=>eA b w' om om
 have pa:=fun w'=>kV (rQ (qR a)) w'
 have pb:=fun w'=>kV (rQ (qR b)) w'
 obtain ⟨na,fa⟩:=oB a;obtain ⟨nb,fb⟩:=oB b;rw [fa] at pa;rw [fb] at pb;clear fa fb;generalize rQ (qR a)=x at *;generalize rQ (qR b)=y at *;generalize bE a=f at *;generalize bE b=g at *;obtain ⟨s,n,d⟩:=f;obtain ⟨t,m,e⟩:=g;obtain ⟨xs,xn,xd⟩:=x;obtain ⟨ys,yn,yd⟩:=y;dsimp only at *;subst na nb;have m1:=fun w'=>lL (nB n) (nB m) w' om om
 have m2:=fun w'=>lL (nB d) (nB e) w' om om
 have k1:=iJ l1 l3;simp only [dL] at m1 m2;have hde:d*e≠0:=Nat.mul_ne_zero d1 d2;have lo:=fun (z:Bool) w'=>mU z (n*m) (d*e) w' om (by have:=iJ l2 l4;omega) hde
 refine aB [(0,qA a),(1,qA b)] Tryz.func97 Tryz.ntmps97 ?_;repeat' first|(refine gp ?_;and_intros<;>first|exact trivial|repeat first|intro(Bk:Nat)|intro h)|(apply G.cV (g:=87) (vs:=[qA a]);rfl;rfl;exact fun w' _=>ca w')|(apply G.cV (g:=87) (vs:=[qA b]);rfl;rfl;exact fun w' _=>cb w')|(apply G.cV (g:=88) (vs:=[.agg #[.bool _,.string (bs xn),.string (bs xd)]]);rfl;rfl;exact fun w' _=>pa w')|(apply G.cV (g:=88) (vs:=[.agg #[.bool _,.string (bs yn),.string (bs yd)]]);rfl;rfl;exact fun w' _=>pb w')|(apply G.cV (g:=89) (vs:=[.string (bs (nB n)),.string (bs (nB m))]);rfl;rfl;exact fun w' _=>m1 w')|(apply G.cV (g:=89) (vs:=[.string (bs (nB d)),.string (bs (nB e))]);rfl;rfl;exact fun w' _=>m2 w')|(apply G.cV (g:=90);rfl;rfl;exact fun w' _=>lo _ w')
 all_goals exact aA Tryz.func97 Tryz.results97 rfl
theorem sS (n:Int) (w:World):CR 165 #[.int .i64 n] w (.bool (rK n)):=by
 refine aB [(0,.int .i64 n)] Tryz.func165 Tryz.ntmps165 ?_;all_goals (refine go ?_;and_intros<;>first|exact trivial|repeat first|intro(Bk:Nat)|intro h)
 all_goals refine aA Tryz.func165 Tryz.results165 ?_
 all_goals exact bL (by rw [rK];first|(rw [dT om,dT om];rfl)|(rw [dF om];rfl)|(rw [dT om,dF om];rfl))
theorem sU (n:Int) (w:World) (h1:-999999999999999<=n) (h2:n<=999999999999999) :
  CR 166 #[.int .i64 n] w (.string (bs (nB n.natAbs))):=by
 have hi:=fun w'=>Gy n.natAbs w' om
 by_cases h:n < 0
 ·obtain ⟨m,rfl⟩:∃ m:Nat,n=-(m:Int):=⟨n.natAbs,by omega⟩
  rw [Int.natAbs_neg,Int.natAbs_natCast] at *;refine aB [(0,.int .i64 (-(m:Int)))] Tryz.func166 Tryz.ntmps166 ?_;repeat' first|(refine gp ?_;and_intros<;>first|exact trivial|repeat first|intro(Bk:Nat)|intro h)|(apply G.cV (g:=174) (v:=.agg #[.string (bs (nB m)),.int .i64 0]);rfl;rfl;exact fun w' _=>by rw [Int.neg_neg];exact hi w')
  all_goals exact aA Tryz.func166 Tryz.results166 rfl
 ·obtain ⟨m,rfl⟩:∃ m:Nat,n=(m:Int):=⟨n.natAbs,by omega⟩
  rw [Int.natAbs_natCast] at *;refine aB [(0,.int .i64 m)] Tryz.func166 Tryz.ntmps166 ?_;repeat' first|(refine gp ?_;and_intros<;>first|exact trivial|repeat first|intro(Bk:Nat)|intro h)|(apply G.cV (g:=174);rfl;rfl;exact fun w' _=>hi w')
  all_goals exact aA Tryz.func166 Tryz.results166 rfl
theorem yF (m n:Int) (w:World) (h1:-999999999999999<=m) (h2:m<=999999999999999) (h3:-999999999999999<=n) (h4:n<=999999999999999) (h0:n≠0) :
  CR 138 #[.int .i64 m,.int .i64 n] w (.agg #[.bool (rQ ((m:Rat) / (n:Rat))).neg,.string (bs (rQ ((m:Rat) / (n:Rat))).num),.string (bs (rQ ((m:Rat) / (n:Rat))).den),.int .i64 0]):=by
 have i1:=fun w'=>sU m w' h1 h2
 have i2:=fun w'=>sU n w' h3 h4
 have b1:=fun w'=>sS m w'
 have b2:=fun w'=>sS n w'
 rw [jB h1 h2] at b1;rw [jB h3 h4] at b2;have l1:=pV h1 h2;have l2:=pV h3 h4;have lo:=fun w'=>mU (decide (m < 0) != decide (n < 0)) m.natAbs n.natAbs w' om om om
 have e:=Df m n h0;simp only [eH,Nat.mul_one,Nat.one_mul] at e;rw [e] at lo;clear e;generalize rQ ((m:Rat) / (n:Rat))=r at *;generalize nB m.natAbs=f1 at *;generalize nB n.natAbs=f2 at *;have hlt1:m < 0/\decide (m < 0)=true∨¬ m < 0/\decide (m < 0)=false:=by by_cases h:m < 0<;>simp [h]
 have hlt2:n < 0/\decide (n < 0)=true∨¬ n < 0/\decide (n < 0)=false:=by by_cases h:n < 0<;>simp [h]
 refine aB [(0,.int .i64 m),(1,.int .i64 n)] Tryz.func138 Tryz.ntmps138 ?_;rcases hlt1 with ⟨j1,j2⟩|⟨j1,j2⟩<;>rcases hlt2 with ⟨j3,j4⟩|⟨j3,j4⟩
 all_goals rw [j2,j4] at lo
 repeat' first|(refine gp ?_;and_intros<;>first|exact trivial|repeat first|intro(Bk:Nat)|intro h)|(apply G.cV (g:=165) (vs:=[.int .i64 m]);rfl;rfl;exact fun w' _=>b1 w')|(apply G.cV (g:=165) (vs:=[.int .i64 n]);rfl;rfl;exact fun w' _=>b2 w')|(apply G.cV (g:=166) (vs:=[.int .i64 m]);rfl;rfl;exact fun w' _=>i1 w')|(apply G.cV (g:=166) (vs:=[.int .i64 n]);rfl;rfl;exact fun w' _=>i2 w')|(apply G.cV (g:=90);rfl;rfl;exact fun w' _=>lo w')
 all_goals exact aA Tryz.func138 Tryz.results138 rfl
theorem Gz (n:Int) (w:World) (h1:-999999999999999<=n) (h2:n<=999999999999999) :
  CR 98 #[.int .i64 n] w (qA (rQ (n:Rat))):=by
 have hm:=fun w'=>yF n 1 w' h1 h2 dc dc dc
 rw [show (n:Rat) / ((1:Int):Rat)=(n:Rat) by rw [show ((1:Int):Rat)=1 from rfl];grind] at hm
 generalize rQ (n:Rat)=r at *;refine aB [(0,.int .i64 n)] Tryz.func98 Tryz.ntmps98 ?_;repeat' first|(refine gp ?_;and_intros<;>first|exact trivial|repeat first|intro(Bk:Nat)|intro h)|(apply G.cV (g:=138);rfl;rfl;exact fun w' _=>hm w')
 all_goals exact aA Tryz.func98 Tryz.results98 rfl
end Go.Proofs.YtjcecdmbfmccoaaGreatDoor
/-
 How arguments read: what all chapters share.
-/
namespace Go.Proofs.YtjcecdmbfmccoaaGreatDoor
open Go.RowKit Go.Sl Go.Num Go.ChangeShapes Go.WideShapes
theorem DT:laidOutB Tryz.prog=true:=by kernel_rfl
theorem mA:aK Tryz.prog 3 isV (fun _ _=>True):=(aK.int Tryz.underlying3).mono fun _ _ _=>trivial
theorem OV:aK Tryz.prog 28 (fun s:Sld Int=>[s.v]) (fun w s=>aE w s.ad 1 (s.l.map isV)/\s.l.length<=s.cap):=(aK.slice (sz:=1) Tryz.underlying28 (by kernel_rfl) dc mA).mono fun _ _ h=>⟨h.1,h.2.1⟩
abbrev vN:List (String×DataW Unit):=[("unicode/utf8.acceptRanges",Rows.laid_unicode_utf8_acceptRanges),("unicode/utf8.first",Rows.laid_unicode_utf8_first)]
end Go.Proofs.YtjcecdmbfmccoaaGreatDoor
/-
 Calls that lay rows;rows brought to the front;what later chapters share.
-/
namespace Go.Sl
open Go.RowKit
variable {C:Ctx}{st:List (Nat×Value)}{M:List Row}{k:List Item}{q q':Md}{all rest:List Oper}{d:Nat}{opn:Op}{ty:TypeId}{pos:String}{after:Array Edge}{gd:Option (Nat×Bool)}
end Go.Sl
namespace Go.Sl
end Go.Sl
namespace Go.Sl
open Go.RowKit
end Go.Sl
namespace Go.Sl
open Go.RowKit Go.ChangeShapes Go.WideShapes
theorem KS {A:Type}{l:List A} (h:l.length=1):∃ a,l=[a]:=by
 match l,h with
 | [a],_=>exact ⟨a,rfl⟩
theorem aK.struct1 {P:Program}{T:TypeId}{A1:Type}{f1:A1->List Value}{G1:World->A1->Prop}{d1:Field}{n:Nat} (ht:P.underlying T=some (.struct #[d1])) (hn:P.cellsOf T=n) (hT:xF P #[d1] n=true) (h1:aK P d1.type f1 G1) :
  aK P T f1 G1:=.mk fun enc w fuel cs x hx=>by
 obtain ⟨hj,hl,hf⟩:=aK.struct ht hn hT hx;obtain ⟨p1,hp⟩:=KS hl;rw [hp] at hj hf;obtain ⟨_,_,r1⟩:=hf 0 d1 p1 rfl rfl;obtain ⟨a1,rfl,g1⟩:=h1.go enc w _ _ _ r1;exact ⟨a1,by rw [hj];simp,g1⟩
end Go.Sl
namespace Go.Sl
open Go.RowKit
variable {C:Ctx}{st:List (Nat×Value)}{M:List Row}{k:List Item}{q q':Md}{all rest:List Oper}{d:Nat}{opn:Op}{ty:TypeId}{pos:String}{after:Array Edge}{gd:Option (Nat×Bool)}
section
variable {A:Type}{f:A->List Value}{sz:Nat}{adr:A->Option Addr}{sz2:Nat}{F2:A->List (List Value)}
end
end Go.Sl
/-
 The flow of a curve: plain laws,and the contracts of the program and of the specification.
-/
namespace Go.Proofs.YtjcecdmbfmccoaaGreatDoor
open Go.RowKit Go.Sl Go.Num
theorem IH (a:Option Addr) (l:List Pnt) (c:Nat) (t:Int) (w:World) (hA:aE w a 4 (l.map ptV)) (hr:oE l) (hf:iK l) (hs1:-100000<=t) (hs2:t<=100000) :
  CR 164 #[.agg #[.slice a l.length c],.int .i64 t] w (qA (rQ (cG l t))):=by
 have hl:=hr.len;have hle:=xR l t;obtain ⟨ba,oa,ha,hrow⟩:=aE.all hA om;subst ha;refine aB [(0,.agg #[.slice (some ⟨ba,oa,none⟩) l.length c]),(1,.int .i64 t)] Tryz.func164 Tryz.ntmps164 ?_;all_goals (refine go ?_;and_intros<;>first|exact trivial|repeat first|intro(Bk:Nat)|intro h)
 refine J.loop (c:=_) ((0,aY):Nat×Q3) (fun s=>l.length-s.1) (fun s=>[(1,.int .i64 t),(2,.pointer (some ⟨_,0,none⟩)),(4,.pointer (some ⟨_,0,none⟩)),(5,.pointer (some ⟨_,0,none⟩)),(6,.int .i64 s.1)]) (fun s=>[.blk _ 25 (qV s.2) 3,.blk _ 25 (qV aY) 3,.blk _ 117 [.slice (some ⟨ba,oa,none⟩) l.length c] 1]) (fun s=>s.1<=nx l t/\(s.1=nx l t->s.2=rQ (cG l t))) ?_ sbT sbL ?_
 ·exact ⟨Nat.zero_le _,fun e=>by rw [oF e.symm];rfl⟩
 intro ⟨k,o⟩ ⟨h1,h2⟩ ih;dsimp only at h1 h2 ⊢;by_cases hk:k=nx l t
 ·have h2:=h2 hk
  subst h2;generalize rQ (cG l t)=R at *;obtain ⟨rn,rm,rd⟩:=R;rcases Nat.lt_or_ge k l.length with h3|h3
  ·have hp:=hrow k h3
   have q2:=Ha hr (s:=t) (i:=k) om h3;generalize l[k]=p at *;obtain ⟨ps,p⟩:=p;dsimp only [ptV,qV] at *;all_goals (refine go ?_;and_intros<;>first|exact trivial|repeat first|intro(Bk:Nat)|intro h)
   all_goals exact aA Tryz.func164 Tryz.results164 rfl
  ·dsimp only [ptV,qV] at *
   all_goals (refine go ?_;and_intros<;>first|exact trivial|repeat first|intro(Bk:Nat)|intro h)
   all_goals exact aA Tryz.func164 Tryz.results164 rfl
 ·have hkn:k < nx l t:=by omega
  have hp:=hrow k om;have q1:=xS hkn;have m1:=hr.mem k om;have v1:=hf.2 _ (gM (show k < l.length by omega))
  by_cases hlast:k+1=l.length
  ·have hn:nx l t=k+1:=by omega
   have hcv:=oG hn hlast;generalize l[k]=p at *;obtain ⟨ps,pn,pm,pd⟩:=p;dsimp only [ptV] at *;all_goals (refine go ?_;and_intros<;>first|exact trivial|repeat first|intro(Bk:Nat)|intro h)
   exact J.fin (ih (k+1,⟨pn,pm,pd⟩) ⟨by dsimp only;omega,fun _=>by rw [hcv,Je m1.2.2]⟩ (by dsimp only;omega))
  have hq:=hrow (k+1) om;have m2:=hr.mem (k+1) om;have v2:=hf.2 _ (gM (show k+1 < l.length by omega))
  by_cases hn:nx l t=k+1
  ·have q2:t < (l[k+1]'om).1:=Ha hr om om
   have hcv:=pY hn om;rw [jD] at hcv;generalize l[k]=p at *;generalize l[k+1]=q at *;obtain ⟨ps,p⟩:=p;obtain ⟨qs,q⟩:=q;dsimp only [ptV] at *;obtain ⟨m1,m1',m1''⟩:=m1;obtain ⟨m2,m2',m2''⟩:=m2;have mk:=fun w'=>yF (t-ps) (qs-ps) w' om om om om om
   have z1:=zZ (m:=t-ps) (n:=qs-ps) om om om om om;have sb:=fun w'=>zY q p w' (aF v2 dc).1 (aF v2 dc).2 (aF v1 dc).1 (aF v1 dc).2 (aF (cQ v1) dc).1 (aF (cQ v1) dc).2
   have z2:=jX (cQ v2) (cQ v1) dc dc;generalize ((t-ps:Int):Rat) / ((qs-ps:Int):Rat)=X at *;generalize qR q-qR p=D at *;have ml:=fun w'=>tU (rQ X) (rQ D) w' (aF z1 dc).1 (aF z1 dc).2 (aF z2 dc).1 (aF z2 dc).2
   have z3:=fY z1 z2 dc dc;rw [bR,bR] at ml;have ad:=fun w'=>oC p (rQ (X*D)) w' (aF v1 dc).1 (aF v1 dc).2 (aF z3 dc).1 (aF z3 dc).2
   rw [bR] at ad;rw [<- hcv] at ad;generalize rQ (cG l t)=R at *;generalize rQ (X*D)=XD at *;generalize rQ X=X at *;generalize rQ D=D at *;obtain ⟨pn,pm,pd⟩:=p;obtain ⟨qn,qm,qd⟩:=q;repeat' first|(refine gp ?_;and_intros<;>first|exact trivial|repeat first|intro(Bk:Nat)|intro h)|(apply G.cV (g:=138);rfl;rfl;exact fun w' _=>mk w')|(apply G.cV (g:=99);rfl;rfl;exact fun w' _=>sb w')|(apply G.cV (g:=97);rfl;rfl;exact fun w' _=>ml w')|(apply G.cV (g:=47);rfl;rfl;exact fun w' _=>ad w')
   exact J.fin (ih (k+1,R) ⟨by dsimp only;omega,fun _=>rfl⟩ (by dsimp only;omega))
  ·have q2:=xS (l:=l) (s:=t) (i:=k+1) om
   generalize l[k]=p at *;generalize l[k+1]=q at *;obtain ⟨ps,pn,pm,pd⟩:=p;obtain ⟨qs,q⟩:=q;dsimp only [ptV] at *;all_goals (refine go ?_;and_intros<;>first|exact trivial|repeat first|intro(Bk:Nat)|intro h)
   exact J.fin (ih (k+1,⟨pn,pm,pd⟩) ⟨by dsimp only;omega,fun e=>absurd e.symm hn⟩ (by dsimp only;omega))
theorem DU (s:Spn) (w:World) (hA:lM w s) (hf:fewS s) :
  CR 130 #[spA s] w (.bool (decide (aQ s))):=by
 have hv:=fun w'=>kU s.wt w' (aF hf.2 dc).1 (aF hf.2 dc).2
 have hc:=fun w' (hb:Below w.heap.size w w')=>Ad s.adr s.pts s.cap w' (aE.below hA hb) hf.1
 have hR:aQ s ↔ (0<=s.from_/\s.from_ < s.to_/\s.to_<=1402560/\-1000<=s.dat/\s.dat<=1000)/\aP s.wt/\bM s.pts=0:=Iff.rfl;generalize hb:decide (aQ s)=b;have hb:b=true ↔ (0<=s.from_/\s.from_ < s.to_/\s.to_<=1402560/\-1000<=s.dat/\s.dat<=1000)/\aP s.wt/\bM s.pts=0:=by rw [<- hb,decide_eq_true_iff,hR]
 clear hA hf hR;obtain ⟨f,t,wt,d,pts,adr,cap⟩:=s;dsimp only [spA] at *;generalize bM pts=E at *;generalize hV:decide (aP wt)=V at *;have hV:aP wt ↔ V=true:=by rw [<- hV,decide_eq_true_iff]
 rw [hV] at hb;clear hV;refine aB [(0,.agg #[.int .i64 f,.int .i64 t,.bool wt.neg,.string (bs wt.num),.string (bs wt.den),.int .i64 d,.slice adr pts.length cap])] Tryz.func130 Tryz.ntmps130 ?_;cases V<;>cases b
 all_goals simp only [true_iff,false_iff,iff_false,iff_true,and_false,false_and,reduceCtorEq,true_and,eq_self] at hb
 repeat' first|(refine gp ?_;and_intros<;>first|exact trivial|repeat first|intro(Bk:Nat)|intro h)|(apply G.cV (g:=86);rfl;rfl;exact fun w' _=>hv w')|(apply G.cV (g:=163);rfl;rfl;exact fun w' hw=>hc w' hw.below)
 all_goals refine aA Tryz.func130 Tryz.results130 ?_
 all_goals (first|rfl|(exfalso;simp at hb;done)|(exfalso;omega))
theorem vO (a:Option Addr) (l:List Spn) (c:Nat) (w:World) (hA:aN w a l) (hf:∀ s∈l,fewS s) :
  CR 85 #[.slice a l.length c] w (.int .i64 (aZ l)):=by
 refine aB [(0,.slice a l.length c)] Tryz.func85 Tryz.ntmps85 ?_;rw [aZ];by_cases hl:400 < l.length
 ·rw [if_pos hl]
  all_goals (refine go ?_;and_intros<;>first|exact trivial|repeat first|intro(Bk:Nat)|intro h)
  all_goals exact aA Tryz.func85 Tryz.results85 rfl
 rw [if_neg hl];generalize hE:mI 0 l=E;all_goals (refine go ?_;and_intros<;>first|exact trivial|repeat first|intro(Bk:Nat)|intro h)
 refine J.loop (c:=_) ((0,0):Nat×Int) (fun s=>l.length-s.1) (fun s=>[(0,.slice a l.length c),(3,.int .i64 s.1)]) (fun s=>[]) (fun s=>s.1<=l.length/\mI s.2 (l.drop s.1)=E/\s.2=match prv l s.1 with|none=>0|some q=>q.to_) ?_ sbT sbL ?_
 ·exact ⟨Nat.zero_le _,hE,rfl⟩
 clear hE;intro ⟨k,x⟩ ⟨h1,h2,h3⟩ ih;dsimp only at h1 h2 h3 ⊢;by_cases hk:k < l.length
 ·obtain ⟨ba,oa,rfl,hrow⟩:=aE.all hA.1 om
  have hr:=hrow k hk;have hm:=gM hk;have hv:=fun w' (hb:Below w.heap.size w w')=>DU l[k] w' (aE.below (hA.2 _ hm) hb) (hf _ hm)
  rw [Ae hk] at h2;clear hm;have h4:l[k].to_=match prv l (k+1) with|none=>0|some q=>q.to_:=by
   rw [prv,gE hk]
  have hR:decide (aQ l[k])=true->0<=l[k].from_:=fun e=>(of_decide_eq_true e).1.1
  generalize decide (aQ l[k])=R at *;rcases k with _|j
  ·rw [show prv l 0=none from rfl] at h3
   dsimp only at h3;subst h3;generalize l[0]=s at *;obtain ⟨f,t,wt,d,pts,adr,cap⟩:=s;dsimp only [spV,spA] at *;cases R
   ·rw [if_pos (by simp)] at h2
    subst h2;repeat' first|(refine gp ?_;and_intros<;>first|exact trivial|repeat first|intro(Bk:Nat)|intro h)|(apply G.cV (g:=130);rfl;rfl;exact fun w' hw=>hv w' hw.below)
    all_goals exact aA Tryz.func85 Tryz.results85 rfl
   ·have hR:=hR rfl
    rw [if_neg (by simp;omega)] at h2
    repeat' first|(refine gp ?_;and_intros<;>first|exact trivial|repeat first|intro(Bk:Nat)|intro h)|(apply G.cV (g:=130);rfl;rfl;exact fun w' hw=>hv w' hw.below)
    exact J.fin (ih (1,t) ⟨hk,h2,h4⟩ (by dsimp only;omega))
  ·have hp:=hrow j om
   rw [show prv l (j+1)=some l[j] from gE om] at h3
   dsimp only at h3;generalize l[j+1]=s at *;generalize l[j]=p at *;obtain ⟨f,t,wt,d,pts,adr,cap⟩:=s;obtain ⟨f2,t2,wt2,d2,pts2,adr2,cap2⟩:=p;dsimp only [spV,spA] at *;subst h3;by_cases hx:f < x
   ·rw [if_pos (by simp [hx])] at h2
    subst h2;cases R;all_goals skip
    repeat' first|(refine gp ?_;and_intros<;>first|exact trivial|repeat first|intro(Bk:Nat)|intro h)|(apply G.cV (g:=130);rfl;rfl;exact fun w' hw=>hv w' hw.below)
    all_goals exact aA Tryz.func85 Tryz.results85 rfl
   cases R
   ·rw [if_pos (by simp)] at h2
    subst h2;repeat' first|(refine gp ?_;and_intros<;>first|exact trivial|repeat first|intro(Bk:Nat)|intro h)|(apply G.cV (g:=130);rfl;rfl;exact fun w' hw=>hv w' hw.below)
    all_goals exact aA Tryz.func85 Tryz.results85 rfl
   ·rw [if_neg (by simp [hx])] at h2
    repeat' first|(refine gp ?_;and_intros<;>first|exact trivial|repeat first|intro(Bk:Nat)|intro h)|(apply G.cV (g:=130);rfl;rfl;exact fun w' hw=>hv w' hw.below)
    exact J.fin (ih (j+2,t) ⟨hk,h2,h4⟩ (by dsimp only;omega))
 ·rw [show k=l.length by omega,List.drop_length] at h2
  subst h2;all_goals (refine go ?_;and_intros<;>first|exact trivial|repeat first|intro(Bk:Nat)|intro h)
  all_goals exact aA Tryz.func85 Tryz.results85 rfl
theorem vQ (s:Spn) (t:Int) (w:World) (hA:lM w s) (hf:fewS s) (hR:aQ s) (h1:0<=t) (h2:t<=1000) :
  CR 137 #[spA s,.int .i64 t] w (qA (rQ (bC s t))):=by
 obtain ⟨hR,_,hR2⟩:=hR;have hc:=fun w' (hb:Below w.heap.size w w')=>IH s.adr s.pts s.cap (t+s.dat) w' (aE.below hA hb) (Dh hR2) hf.1 om om
 have hfl:=wG (s:=t+s.dat) hf.1 om om;rw [show cG s.pts (t+s.dat)=dO s.pts (t+s.dat) by rw [dO,if_pos hR2]] at hc
 have ml:=fun w'=>tU s.wt (rQ (dO s.pts (t+s.dat))) w' (aF hf.2 dc).1 (aF hf.2 dc).2 (aF hfl dc).1 (aF hfl dc).2
 rw [bR] at ml;rw [bC];clear hA hf hfl hR2;obtain ⟨f,u,wt,d,pts,adr,cap⟩:=s;dsimp only [spA] at *;generalize rQ (qR wt*dO pts (t+d))=R at *;generalize rQ (dO pts (t+d))=F at *;refine aB [(0,.agg #[.int .i64 f,.int .i64 u,.bool wt.neg,.string (bs wt.num),.string (bs wt.den),.int .i64 d,.slice adr pts.length cap]),(1,.int .i64 t)] Tryz.func137 Tryz.ntmps137 ?_;repeat' first|(refine gp ?_;and_intros<;>first|exact trivial|repeat first|intro(Bk:Nat)|intro h)|(apply G.cV (g:=164);rfl;rfl;exact fun w' hw=>hc w' hw.below)|(apply G.cV (g:=97);rfl;rfl;exact fun w' _=>ml w')
 all_goals exact aA Tryz.func137 Tryz.results137 rfl
theorem kK (a:Option Addr) (l:List Pnt) (c:Nat) (w:World) (hA:aE w a 4 (l.map ptV)) :
  CR 72 #[.agg #[.slice a l.length c]] w (.bool (decide (iK l))):=by
 refine aB [(0,.agg #[.slice a l.length c])] Tryz.func72 Tryz.ntmps72 ?_;by_cases hl:20 < l.length
 ·rw [dF (fun h=>absurd h.1 om)]
  all_goals (refine go ?_;and_intros<;>first|exact trivial|repeat first|intro(Bk:Nat)|intro h)
  all_goals exact aA Tryz.func72 Tryz.results72 rfl
 all_goals (refine go ?_;and_intros<;>first|exact trivial|repeat first|intro(Bk:Nat)|intro h)
 refine J.loop (c:=_) (0:Nat) (fun s=>l.length-s) (fun s=>[(1,.pointer (some ⟨_,0,none⟩)),(3,.int .i64 s)]) (fun s=>[.blk _ 117 [.slice a l.length c] 1]) (fun s=>s<=l.length/\∀ i (h:i < l.length),i < s->aH 12 l[i].2) ?_ sbT sbL ?_
 ·exact ⟨Nat.zero_le _,fun i h h2=>absurd h2 (Nat.not_lt_zero _)⟩
 intro k ⟨h1,h2⟩ ih;by_cases hk:k < l.length
 ·obtain ⟨ba,oa,rfl,hra⟩:=aE.all hA om
  have hr:=hra k hk;by_cases hq:aH 12 l[k].2
  ·have h2:∀ i (h:i < l.length),i < k+1->aH 12 l[i].2:=fun i h h3=>by
    rcases Nat.lt_or_ge i k with h4|h4
    ·exact h2 i h h4
    ·obtain rfl:i=k:=by omega
     exact hq
   obtain ⟨hq1,hq2⟩:=hq;generalize l[k]=p at *;obtain ⟨s,p⟩:=p;dsimp only [ptV] at *;all_goals (refine go ?_;and_intros<;>first|exact trivial|repeat first|intro(Bk:Nat)|intro h)
   exact J.fin (ih (k+1) ⟨hk,h2⟩ om)
  ·rw [dF (fun h=>hq (h.2 _ (gM hk)))]
   rw [aH] at hq;generalize l[k]=p at *;obtain ⟨s,p⟩:=p;dsimp only [ptV] at *;all_goals (refine go ?_;and_intros<;>first|exact trivial|repeat first|intro(Bk:Nat)|intro h)
   all_goals exact aA Tryz.func72 Tryz.results72 rfl
 ·rw [dT ⟨by omega,fun p hp=>by
   obtain ⟨i,h3,rfl⟩:=List.getElem_of_mem hp;exact h2 i h3 om⟩]
  all_goals (refine go ?_;and_intros<;>first|exact trivial|repeat first|intro(Bk:Nat)|intro h)
  all_goals exact aA Tryz.func72 Tryz.results72 rfl
theorem wZ (a:Option Addr) (l:List Spn) (c most:Nat) (w:World) (hA:aN w a l) :
  CR 32 #[.slice a l.length c,.int .i64 most] w (.bool (decide (kH most l))):=by
 refine aB [(0,.slice a l.length c),(1,.int .i64 most)] Tryz.func32 Tryz.ntmps32 ?_;by_cases hl:most < l.length/\l.length<=400∨410 < l.length
 ·rw [dF (fun h=>h.1 hl)]
  all_goals (refine go ?_;and_intros<;>first|exact trivial|repeat first|intro(Bk:Nat)|intro h)
  all_goals exact aA Tryz.func32 Tryz.results32 rfl
 all_goals (refine go ?_;and_intros<;>first|exact trivial|repeat first|intro(Bk:Nat)|intro h)
 all_goals
  refine J.loop (c:=_) (0:Nat) (fun s=>l.length-s) (fun s=>[(0,.slice a l.length c),(5,.int .i64 s)]) (fun s=>[]) (fun s=>s<=l.length/\∀ i (h:i < l.length),i < s->wH l[i]) ?_ sbT sbL ?_
  ·exact ⟨Nat.zero_le _,fun i h h2=>absurd h2 (Nat.not_lt_zero _)⟩
  intro k ⟨h1,h2⟩ ih;by_cases hk:k < l.length
  ·obtain ⟨ba,oa,rfl,hra⟩:=aE.all hA.1 om
   have hr:=hra k hk;have hp:=hA.2 _ (gM hk);have hc:=fun w' (hb:Below w.heap.size w w')=>kK l[k].adr l[k].pts l[k].cap w' (aE.below hp hb)
   have h2:wH l[k]->∀ i (h:i < l.length),i < k+1->wH l[i]:=fun hq i h h3=>by
    rcases Nat.lt_or_ge i k with h4|h4
    ·exact h2 i h h4
    ·obtain rfl:i=k:=by omega
     exact hq
   have h3:¬ wH l[k]->decide (kH most l)=false:=fun hq=>dF (fun h=>hq (h.2 _ (gM hk)))
   generalize l[k]=s at *;obtain ⟨f,t,wt,dt,pts,adr,cap⟩:=s;dsimp only [spV,wH] at *;by_cases hq:iK pts
   ·rw [dT hq] at hc
    by_cases hq2:aH 40 wt
    ·have h2:=h2 ⟨hq,hq2⟩
     obtain ⟨q1,q2⟩:=hq2;repeat' first|(refine gp ?_;and_intros<;>first|exact trivial|repeat first|intro(Bk:Nat)|intro h)|(apply G.cV (g:=72);rfl;rfl;exact fun w' hw=>hc w' hw.below)
     exact J.fin (ih (k+1) ⟨hk,h2⟩ om)
    ·rw [h3 (fun e=>hq2 e.2)]
     rw [aH] at hq2;repeat' first|(refine gp ?_;and_intros<;>first|exact trivial|repeat first|intro(Bk:Nat)|intro h)|(apply G.cV (g:=72);rfl;rfl;exact fun w' hw=>hc w' hw.below)
     all_goals exact aA Tryz.func32 Tryz.results32 rfl
   ·rw [dF hq] at hc
    rw [h3 (fun e=>hq e.1)]
    repeat' first|(refine gp ?_;and_intros<;>first|exact trivial|repeat first|intro(Bk:Nat)|intro h)|(apply G.cV (g:=72);rfl;rfl;exact fun w' hw=>hc w' hw.below)
    all_goals exact aA Tryz.func32 Tryz.results32 rfl
  ·rw [dT ⟨hl,fun p hp=>by
    obtain ⟨i,h3,rfl⟩:=List.getElem_of_mem hp;exact h2 i h3 om⟩]
   all_goals (refine go ?_;and_intros<;>first|exact trivial|repeat first|intro(Bk:Nat)|intro h)
   all_goals exact aA Tryz.func32 Tryz.results32 rfl
theorem II {l:List Spn}{t:Int}{i:Nat} (h:i < bW l t):inS t (l[i]'(Nat.lt_of_lt_of_le h (lE l t)))=false:=by
 have:=List.not_of_lt_findIdx h;simpa using this
theorem IJ (a:Option Addr) (l:List Spn) (c:Nat) (t:Int) (w:World) (hA:aE w a 7 (l.map spV)) (hl:l.length<=1000000) :
  CR 140 #[.slice a l.length c,.int .i64 t] w (.int .i64 (bO l t)):=by
 refine aB [(0,.slice a l.length c),(1,.int .i64 t)] Tryz.func140 Tryz.ntmps140 ?_;all_goals (refine go ?_;and_intros<;>first|exact trivial|repeat first|intro(Bk:Nat)|intro h)
 refine J.loop (c:=_) (0:Nat) (fun s=>l.length-s) (fun s=>[(0,.slice a l.length c),(1,.int .i64 t),(5,.int .i64 s)]) (fun s=>[]) (fun s=>s<=bW l t) ?_ sbT sbL ?_
 ·exact Nat.zero_le _
 intro k h1 ih;have hle:=lE l t;by_cases hk:k < l.length
 ·obtain ⟨ba,oa,rfl,hra⟩:=aE.all hA om
  have hr:=hra k hk;by_cases hq:bW l t=k
  ·have hp:inS t l[k]=true:=by
    have:=wI (l:=l) (t:=t) om;simpa only [hq] using this
   rw [bO,if_pos om,hq];generalize l[k]=s at *;obtain ⟨f,u,wt,dt,pts,adr,cap⟩:=s;simp only [inS,Bool.and_eq_true,decide_eq_true_eq] at hp;dsimp only [spV] at *;all_goals (refine go ?_;and_intros<;>first|exact trivial|repeat first|intro(Bk:Nat)|intro h)
   all_goals exact aA Tryz.func140 Tryz.results140 rfl
  ·have hp:=II (l:=l) (t:=t) (i:=k) om
   generalize l[k]=s at *;obtain ⟨f,u,wt,dt,pts,adr,cap⟩:=s;simp only [inS,Bool.and_eq_false_iff,decide_eq_false_iff_not] at hp;dsimp only [spV] at *;all_goals (refine go ?_;and_intros<;>first|exact trivial|repeat first|intro(Bk:Nat)|intro h)
   all_goals exact J.fin (ih (k+1) om om)
 ·rw [bO,if_neg om]
  all_goals (refine go ?_;and_intros<;>first|exact trivial|repeat first|intro(Bk:Nat)|intro h)
  all_goals exact aA Tryz.func140 Tryz.results140 rfl
theorem Fd (a:Option Addr) (l:List Spn) (c:Nat) (t st:Int) (w:World) (hA:aN w a l) (hf:∀ s∈l,fewS s) (hR:∀ s∈l,aQ s) (hl:l.length<=1000000) (h1:0<=st) (h2:st<=1000) :
  CR 103 #[.slice a l.length c,.int .i64 t,.int .i64 st] w (qA (rQ (bH l t st))):=by
 have hat:=fun w' (hb:Below w.heap.size w w')=>IJ a l c t w' (hA.1.below hb) hl
 rw [bH];rw [bO] at hat;by_cases hk:bW l t < l.length
 ·rw [if_pos hk] at hat
  generalize bW l t=k at *;rw [gE hk];dsimp only;obtain ⟨ba,oa,rfl,hra⟩:=aE.all hA.1 om;have hr:=hra k hk;have hm:=gM hk;have hrt:=fun w' (hb:Below w.heap.size w w')=>vQ l[k] st w' (aE.below (hA.2 _ hm) hb) (hf _ hm) (hR _ hm) h1 h2
  clear hm;generalize rQ (bC l[k] st)=R at *;generalize l[k]=s at *;obtain ⟨f,u,wt,dt,pts,adr,cap⟩:=s;dsimp only [spV,spA] at *;refine aB [(0,.slice (some ⟨ba,oa,none⟩) l.length c),(1,.int .i64 t),(2,.int .i64 st)] Tryz.func103 Tryz.ntmps103 ?_;repeat' first|(refine gp ?_;and_intros<;>first|exact trivial|repeat first|intro(Bk:Nat)|intro h)|(apply G.cV (g:=140);rfl;rfl;exact fun w' hw=>hat w' hw.below)|(apply G.cV (g:=137);rfl;rfl;exact fun w' hw=>hrt w' hw.below)
  all_goals exact aA Tryz.func103 Tryz.results103 rfl
 ·rw [if_neg hk] at hat
  rw [List.getElem?_eq_none om];refine aB [(0,.slice a l.length c),(1,.int .i64 t),(2,.int .i64 st)] Tryz.func103 Tryz.ntmps103 ?_;repeat' first|(refine gp ?_;and_intros<;>first|exact trivial|repeat first|intro(Bk:Nat)|intro h)|(apply G.cV (g:=140);rfl;rfl;exact fun w' hw=>hat w' hw.below)
  all_goals exact aA Tryz.func103 Tryz.results103 rfl
theorem vR (f:Int) (a:Option Addr) (l:List Int) (c:Nat) (w:World) (hA:aE w a 1 (l.map isV)) (hl:l.length<=9223372036854775807) :
  CR 100 #[.agg #[.int .i64 f,.slice a l.length c]] w (.bool (dK f l)):=by
 rw [dK];refine aB [(0,.agg #[.int .i64 f,.slice a l.length c])] Tryz.func100 Tryz.ntmps100 ?_;by_cases h1:l.length<=40000/\0<=f/\f<=1402560-l.length
 ·rw [dT h1]
  all_goals (refine go ?_;and_intros<;>first|exact trivial|repeat first|intro(Bk:Nat)|intro h)
  refine J.loop (c:=_) (0:Nat) (fun s=>l.length-s) (fun s=>[(1,.pointer (some ⟨_,0,none⟩)),(3,.int .i64 s)]) (fun s=>[.blk _ 30 [.int .i64 f,.slice a l.length c] 2]) (fun s=>s<=l.length/\∀ i (h:i < l.length),i < s->jM l[i]=false) ?_ sbT sbL ?_
  ·exact ⟨Nat.zero_le _,fun i h h2=>absurd h2 (Nat.not_lt_zero _)⟩
  intro k ⟨h3,h2⟩ ih;by_cases hk:k < l.length
  ·obtain ⟨ba,oa,rfl,hra⟩:=aE.all hA om
   have hr:=hra k hk;by_cases hq:jM l[k]=true
   ·rw [show l.any jM=true from List.any_eq_true.2 ⟨_,gM hk,hq⟩]
    rw [jM,Bool.not_eq_true',decide_eq_false_iff_not] at hq;generalize l[k]=s at *;dsimp only [isV] at *;all_goals (refine go ?_;and_intros<;>first|exact trivial|repeat first|intro(Bk:Nat)|intro h)
    all_goals exact aA Tryz.func100 Tryz.results100 rfl
   ·have hq2:jM l[k]=false:=by simpa using hq
    have h2:∀ i (h:i < l.length),i < k+1->jM l[i]=false:=fun i h h3=>by
     rcases Nat.lt_or_ge i k with h4|h4
     ·exact h2 i h h4
     ·obtain rfl:i=k:=by omega
      exact hq2
    rw [jM,Bool.not_eq_false',decide_eq_true_eq] at hq2;generalize l[k]=s at *;dsimp only [isV] at *;all_goals (refine go ?_;and_intros<;>first|exact trivial|repeat first|intro(Bk:Nat)|intro h)
    exact J.fin (ih (k+1) ⟨by omega,h2⟩ om)
  ·rw [show l.any jM=false from List.any_eq_false.2 fun x hx=>by
    obtain ⟨i,h4,rfl⟩:=List.getElem_of_mem hx;rw [h2 i h4 om];decide]
   all_goals (refine go ?_;and_intros<;>first|exact trivial|repeat first|intro(Bk:Nat)|intro h)
   all_goals exact aA Tryz.func100 Tryz.results100 rfl
 ·rw [dF h1]
  all_goals (refine go ?_;and_intros<;>first|exact trivial|repeat first|intro(Bk:Nat)|intro h)
  all_goals exact aA Tryz.func100 Tryz.results100 rfl
theorem vS (f:Int) (a b:Option Addr) (hs:List Int) (l:List Spn) (c d:Nat) (w:World) (hA:aE w a 1 (hs.map isV)) (hB:aN w b l) (hf:∀ s∈l,fewS s) (hl:hs.length<=1000000000) :
  CR 53 #[.agg #[.int .i64 f,.slice a hs.length c],.slice b l.length d] w (nE (kI f hs l)):=by
 have hc:=fun w' (hb:Below w.heap.size w w')=>vO b l d w' (hB.below hb) hf
 have hr:=fun w' (hb:Below w.heap.size w w')=>vR f a hs c w' (hA.below hb) om
 rw [kI];by_cases h1:aZ l=0
 ·rw [if_neg (fun e=>e h1)]
  have ⟨k1,k2⟩:=cT h1;rw [h1] at hc;by_cases h2:dK f hs=false
  ·rw [if_pos h2]
   rw [h2] at hr;refine aB [(0,.agg #[.int .i64 f,.slice a hs.length c]),(1,.slice b l.length d)] Tryz.func53 Tryz.ntmps53 ?_;repeat' first|(refine gp ?_;and_intros<;>first|exact trivial|repeat first|intro(Bk:Nat)|intro h)|(apply G.cV (g:=85);rfl;rfl;exact fun w' hw=>hc w' hw.below)|(apply G.cV (g:=100);rfl;rfl;exact fun w' hw=>hr w' hw.below)
   all_goals exact aA Tryz.func53 Tryz.results53 rfl
  ·rw [if_neg h2]
   have h2:dK f hs=true:=by simpa using h2
   rw [h2] at hr;obtain ⟨k3,k4⟩:=nF h2;refine aB [(0,.agg #[.int .i64 f,.slice a hs.length c]),(1,.slice b l.length d)] Tryz.func53 Tryz.ntmps53 ?_;repeat' first|(refine gp ?_;and_intros<;>first|exact trivial|repeat first|intro(Bk:Nat)|intro h)|(apply G.cV (g:=85);rfl;rfl;exact fun w' hw=>hc w' hw.below)|(apply G.cV (g:=100);rfl;rfl;exact fun w' hw=>hr w' hw.below)
   refine J.loop (c:=_) (0:Nat) (fun s=>l.length-s) (fun s=>[(1,.slice b l.length d),(2,.pointer (some ⟨_,0,none⟩)),(4,.pointer (some ⟨_,0,none⟩)),(7,.int .i64 s)]) (fun s=>[.blk _ 103 [.bool false,.string (bs []),.string (bs []),.int .i64 0] 4,.blk _ 30 [.int .i64 f,.slice a hs.length c] 2]) (fun s=>s<=l.length/\∀ i (hi:i < l.length),i < s->pZ f hs.length l[i]=false) ?_ sbT sbL ?_
   ·exact ⟨Nat.zero_le _,fun i h h2=>absurd h2 (Nat.not_lt_zero _)⟩
   intro k ⟨h3,h4⟩ ih;by_cases hk:k < l.length
   ·obtain ⟨bb,ob,rfl,hrb⟩:=aE.all hB.1 om
    have hrk:=hrb k hk;by_cases hq:pZ f hs.length l[k]=true
    ·rw [if_pos (List.any_eq_true.2 ⟨_,gM hk,hq⟩)]
     simp only [pZ,Bool.or_eq_true,decide_eq_true_eq] at hq;clear ih h4;generalize l[k]=s at *;obtain ⟨x,y,wt,dt,pts,adr,cap⟩:=s;dsimp only [spV] at *;all_goals (refine go ?_;and_intros<;>first|exact trivial|repeat first|intro(Bk:Nat)|intro h)
     all_goals exact aA Tryz.func53 Tryz.results53 rfl
    ·have hq2:pZ f hs.length l[k]=false:=by simpa using hq
     have h4:∀ i (hi:i < l.length),i < k+1->pZ f hs.length l[i]=false:=fun i hi h5=>by
      rcases Nat.lt_or_ge i k with h6|h6
      ·exact h4 i hi h6
      ·obtain rfl:i=k:=by omega
       exact hq2
     simp only [pZ,Bool.or_eq_false_iff,decide_eq_false_iff_not] at hq2;clear hq;generalize l[k]=s at *;obtain ⟨x,y,wt,dt,pts,adr,cap⟩:=s;dsimp only [spV] at *;all_goals (refine go ?_;and_intros<;>first|exact trivial|repeat first|intro(Bk:Nat)|intro h)
     exact J.fin (ih (k+1) ⟨by omega,h4⟩ om)
   ·rw [show l.any (pZ f hs.length)=false from List.any_eq_false.2 fun x hx=>by
     obtain ⟨i,h5,rfl⟩:=List.getElem_of_mem hx;rw [h4 i h5 om];decide]
    rw [if_neg dc];clear ih h4;generalize hS:aI l f hs=S;all_goals (refine go ?_;and_intros<;>first|exact trivial|repeat first|intro(Bk:Nat)|intro h)
    clear hk h3;refine J.loop (c:=_) ((0,0):Nat×Rat) (fun s=>hs.length-s.1) (fun s=>[(1,.slice b l.length d),(2,.pointer (some ⟨_,0,none⟩)),(4,.pointer (some ⟨_,0,none⟩)),(8,.pointer (some ⟨_,0,none⟩)),(9,.int .i64 s.1)]) (fun s=>[.blk _ 25 (qV (rQ s.2)) 3,.blk _ 103 [.bool false,.string (bs []),.string (bs []),.int .i64 0] 4,.blk _ 30 [.int .i64 f,.slice a hs.length c] 2]) (fun s=>s.1<=hs.length/\aH (1+141*s.1) (rQ s.2)/\s.2+aI l (f+s.1) (hs.drop s.1)=S) ?_ sbT sbL ?_
    ·exact ⟨Nat.zero_le _,dX,by rw [Rat.zero_add];simpa using hS⟩
    clear hS;intro ⟨k,x⟩ ⟨h3,h4,h5⟩ ih;dsimp only at h3 h4 h5 ⊢;by_cases hk:k < hs.length
    ·obtain ⟨ba,oa,rfl,hra⟩:=aE.all hA om
     have hrk:=hra k hk;have ⟨k5,k6⟩:=k4 k hk;rw [List.drop_eq_getElem_cons hk,aI,<- Rat.add_assoc] at h5;have hwo:=fun w' (hb:Below w.heap.size w w')=>Fd b l d (f+k) hs[k] w' (hB.below hb) hf k2 om k5 k6
     have hfw:=Af (t:=f+k) hf k2 k5 k6;generalize hs[k]=t at *;generalize bH l (f+k) t=W at *;have had:=fun w'=>oC (rQ x) (rQ W) w' (aF h4 om).1 (aF h4 om).2 (aF hfw dc).1 (aF hfw dc).2
     rw [bR,bR] at had;have h6:=eT h4 hfw om dc;generalize hX:x+W=X at *;dsimp only [isV,qV] at *;repeat' first|(refine gp ?_;and_intros<;>first|exact trivial|repeat first|intro(Bk:Nat)|intro h)|(apply G.cV (g:=103);rfl;rfl;exact fun w' hw=>hwo w' hw.below)|(apply G.cV (g:=47);rfl;rfl;exact fun w' _=>had w')
     exact J.fin (ih (k+1,X) ⟨hk,aF h6 (by dsimp only;omega),by dsimp only;rw [<- h5,show f+((k+1:Nat):Int)=f+k+1 by omega]⟩ (by dsimp only;omega))
    ·rw [show k=hs.length by omega,List.drop_length,aI,Rat.add_zero] at h5
     subst h5;generalize rQ x=X at *;dsimp only [qV] at *;all_goals (refine go ?_;and_intros<;>first|exact trivial|repeat first|intro(Bk:Nat)|intro h)
     all_goals exact aA Tryz.func53 Tryz.results53 rfl
 ·rw [if_pos h1]
  generalize aZ l=E at *;refine aB [(0,.agg #[.int .i64 f,.slice a hs.length c]),(1,.slice b l.length d)] Tryz.func53 Tryz.ntmps53 ?_;repeat' first|(refine gp ?_;and_intros<;>first|exact trivial|repeat first|intro(Bk:Nat)|intro h)|(apply G.cV (g:=85);rfl;rfl;exact fun w' hw=>hc w' hw.below)|(apply G.cV (g:=100);rfl;rfl;exact fun w' hw=>hr w' hw.below)
  all_goals exact aA Tryz.func53 Tryz.results53 rfl
theorem tV (a:Option Addr) (l:List Rn) (c m t:Nat) (w:World) (hA:aW w a l) (hm:m<=1000) :
  CR 31 #[.slice a l.length c,.int .i64 m,.int .i64 t] w (.bool (decide (jE m t l))):=by
 refine aB [(0,.slice a l.length c),(1,.int .i64 m),(2,.int .i64 t)] Tryz.func31 Tryz.ntmps31 ?_;by_cases hl:m < l.length
 ·rw [dF (fun h=>absurd h.1 om)]
  all_goals (refine go ?_;and_intros<;>first|exact trivial|repeat first|intro(Bk:Nat)|intro h)
  all_goals exact aA Tryz.func31 Tryz.results31 rfl
 all_goals (refine go ?_;and_intros<;>first|exact trivial|repeat first|intro(Bk:Nat)|intro h)
 refine J.loop (c:=_) (0:Nat) (fun s=>l.length-s) (fun s=>[(0,.slice a l.length c),(2,.int .i64 t),(7,.int .i64 s)]) (fun s=>[]) (fun s=>s<=l.length/\∀ i (h:i < l.length),i < s->l[i].tab.length<=20) ?_ sbT sbL ?_
 ·exact ⟨Nat.zero_le _,fun i h h2=>absurd h2 (Nat.not_lt_zero _)⟩
 intro k ⟨h1,h2⟩ ih;by_cases hk:k < l.length
 ·obtain ⟨ba,oa,rfl,hra⟩:=aE.all hA.1 om
  have hr:=hra k hk;have h2:l[k].tab.length<=20->∀ i (h:i < l.length),i < k+1->l[i].tab.length<=20:=fun hq i h h3=>by
   rcases Nat.lt_or_ge i k with h4|h4
   ·exact h2 i h h4
   ·obtain rfl:i=k:=by omega
    exact hq
  have h3:¬ l[k].tab.length<=20->decide (jE m t l)=false:=fun hq=>dF (fun h=>hq (h.2.1 _ (gM hk)))
  generalize l[k]=s at *;obtain ⟨f,u,tab,adr,cap,lo,hi⟩:=s;dsimp only [rnV] at *;by_cases hq:tab.length<=20
  ·have h2:=h2 hq
   all_goals (refine go ?_;and_intros<;>first|exact trivial|repeat first|intro(Bk:Nat)|intro h)
   exact J.fin (ih (k+1) ⟨hk,h2⟩ om)
  ·rw [h3 hq]
   all_goals (refine go ?_;and_intros<;>first|exact trivial|repeat first|intro(Bk:Nat)|intro h)
   all_goals exact aA Tryz.func31 Tryz.results31 rfl
 clear ih;have h2:∀ r∈l,r.tab.length<=20:=fun p hp=>by
  obtain ⟨i,h3,rfl⟩:=List.getElem_of_mem hp;exact h2 i h3 om
 have hc:=fun w' (hb:Below w.heap.size w w')=>mK a l c w' (hA.below hb) (fun r hr=>Nat.le_trans (h2 r hr) dc)
 have hF:jE m t l ↔ (aX l≠0∨l.length=0∨pA l<=t):=⟨fun h=>h.2.2,fun h=>⟨by omega,h2,h⟩⟩
 by_cases he:aX l=0
 ·have ⟨_,k2,k3⟩:=jQ he
  rw [he] at hc;rcases Nat.eq_zero_or_pos l.length with h0|h0
  ·rw [dT (hF.2 (.inr (.inl h0)))]
   repeat' first|(refine gp ?_;and_intros<;>first|exact trivial|repeat first|intro(Bk:Nat)|intro h)|(apply G.cV (g:=71);rfl;rfl;exact fun w' hw=>hc w' hw.below)
   all_goals exact aA Tryz.func31 Tryz.results31 rfl
  ·obtain ⟨ba,oa,rfl,hra⟩:=aE.all hA.1 om
   have r1:=hra 0 h0;have r2:=hra (l.length-1) om;have i1:=k2 _ (gM h0);have i2:=k2 _ (gM (show l.length-1 < l.length by omega))
   have hz:(l.length:Int)-1=((l.length-1:Nat):Int):=by omega
   have hL:pA l=l[l.length-1].to_-l[0].from_:=by rw [pA,gE h0,gE (show l.length-1 < l.length by omega)]
   rw [inT,decide_eq_true_eq] at i1 i2;by_cases ht:pA l<=t
   ·rw [dT (hF.2 (.inr (.inr ht)))]
    rw [hL] at ht;clear hL hF k2 h2;generalize l[0]=x at *;generalize l[l.length-1]=y at *;obtain ⟨f,u,tab,adr,cap,lo,hi⟩:=x;obtain ⟨f2,u2,tab2,adr2,cap2,lo2,hi2⟩:=y;dsimp only [rnV] at *;repeat' first|(refine gp ?_;and_intros<;>first|exact trivial|repeat first|intro(Bk:Nat)|intro h)|(apply G.cV (g:=71);rfl;rfl;exact fun w' hw=>hc w' hw.below)|(apply G.ix;rfl;rfl;exact hz;omega;rfl)|(apply G.ix (i:=0);rfl;rfl;exact rfl;omega;rfl)
    all_goals exact aA Tryz.func31 Tryz.results31 rfl
   ·rw [dF (fun h=>by rcases hF.1 h with h|h|h;exact h he;omega;exact ht h)]
    rw [hL] at ht;clear hL hF k2 h2;generalize l[0]=x at *;generalize l[l.length-1]=y at *;obtain ⟨f,u,tab,adr,cap,lo,hi⟩:=x;obtain ⟨f2,u2,tab2,adr2,cap2,lo2,hi2⟩:=y;dsimp only [rnV] at *;repeat' first|(refine gp ?_;and_intros<;>first|exact trivial|repeat first|intro(Bk:Nat)|intro h)|(apply G.cV (g:=71);rfl;rfl;exact fun w' hw=>hc w' hw.below)|(apply G.ix;rfl;rfl;exact hz;omega;rfl)|(apply G.ix (i:=0);rfl;rfl;exact rfl;omega;rfl)
    all_goals exact aA Tryz.func31 Tryz.results31 rfl
 ·rw [dT (hF.2 (.inl he))]
  generalize aX l=E at *;repeat' first|(refine gp ?_;and_intros<;>first|exact trivial|repeat first|intro(Bk:Nat)|intro h)|(apply G.cV (g:=71);rfl;rfl;exact fun w' hw=>hc w' hw.below)
  all_goals exact aA Tryz.func31 Tryz.results31 rfl
end Go.Proofs.YtjcecdmbfmccoaaGreatDoor
/-
 How the arguments of the volume laws read.
-/
namespace Go.Proofs.YtjcecdmbfmccoaaGreatDoor
open Go.RowKit Go.Sl Go.Num Go.ChangeShapes Go.WideShapes
theorem G0:aK Tryz.prog 137 ptV (fun _ _=>True):=(aK.struct2 (n:=4) Tryz.underlying137 (by kernel_rfl) (by kernel_rfl) mA Jy).turn fun _ a _=>⟨a,rfl,trivial⟩
theorem DV:aK Tryz.prog 115 (fun s:Sld Pnt=>[s.v]) (fun w s=>aE w s.ad 4 (s.l.map ptV)):=(aK.slice (sz:=4) Tryz.underlying115 (by kernel_rfl) dc G0).mono fun _ _ h=>h.1
theorem G7:aK Tryz.prog 117 (fun s:Sld Pnt=>[s.v]) (fun w s=>aE w s.ad 4 (s.l.map ptV)):=aK.struct1 (n:=1) Tryz.underlying117 (by kernel_rfl) (by kernel_rfl) DV
theorem KT:aK Tryz.prog 119 spV lM:=(aK.struct5 (n:=7) Tryz.underlying119 (by kernel_rfl) (by kernel_rfl) mA mA Jy mA G7).turn fun _ a h=>⟨⟨a.1,a.2.1,a.2.2.1,a.2.2.2.1,a.2.2.2.2.l,a.2.2.2.2.ad,a.2.2.2.2.cap⟩,rfl,h.2.2.2.2⟩
theorem G8:aK Tryz.prog 23 (fun s:Sld Spn=>[s.v]) (fun w s=>aN w s.ad s.l):=(aK.slice (sz:=7) Tryz.underlying23 (by kernel_rfl) dc KT).mono fun _ _ h=>⟨h.1,h.2.2.2⟩
theorem KU:aK Tryz.prog 95 hoV (fun _ _=>True):=(aK.struct2 (n:=2) Tryz.underlying95 (by kernel_rfl) (by kernel_rfl) mA mA).turn fun _ a _=>⟨a,rfl,trivial⟩
theorem G9:aK Tryz.prog 65 (fun s:Sld (Int×Int)=>[s.v]) (fun w s=>aE w s.ad 2 (s.l.map hoV)):=(aK.slice (sz:=2) Tryz.underlying65 (by kernel_rfl) dc KU).mono fun _ _ h=>h.1
theorem Ou:aK Tryz.prog 67 rnV mJ:=(aK.struct5 (n:=5) Tryz.underlying67 (by kernel_rfl) (by kernel_rfl) mA mA G9 mA mA).turn fun _ a h=>⟨⟨a.1,a.2.1,a.2.2.1.l,a.2.2.1.ad,a.2.2.1.cap,a.2.2.2.1,a.2.2.2.2⟩,rfl,h.2.2.1⟩
theorem OW:aK Tryz.prog 22 (fun s:Sld Rn=>[s.v]) (fun w s=>aW w s.ad s.l):=(aK.slice (sz:=5) Tryz.underlying22 (by kernel_rfl) dc Ou).mono fun _ _ h=>⟨h.1,h.2.2.2⟩
theorem MZ:aK Tryz.prog 30 (fun a:Int×Sld Int=>[.int .i64 a.1,a.2.v]) (fun w a=>aE w a.2.ad 1 (a.2.l.map isV)/\a.2.l.length<=a.2.cap):=(aK.struct2 (n:=2) Tryz.underlying30 (by kernel_rfl) (by kernel_rfl) mA OV).turn fun _ a h=>⟨a,rfl,h.2⟩
end Go.Proofs.YtjcecdmbfmccoaaGreatDoor
/-
 Plain: when a history agrees with runs.
-/
namespace Go.Proofs.YtjcecdmbfmccoaaGreatDoor
open Go.RowKit Go.Sl Go.Num
def HF (r:Rn) (seg:List Int):Bool:=seg.all fun s=>if r.tab.length=0 then decide (r.lo<=s/\s<=r.hi) else decide (nIn s seg=cnt s r.tab)
theorem IK {r:Rn}{seg:List Int} (h:OkR r) (hl:(seg.length:Int)=r.to_-r.from_):HF r seg=true ↔ AgP r seg:=by
 rw [HF,AgP,List.all_eq_true];by_cases h0:r.tab.length=0
 ·simp only [if_pos h0,decide_eq_true_eq]
  exact ⟨fun h=>⟨by omega,h⟩,fun h=>h.2⟩
 ·obtain ⟨h2,h3,h4,_⟩:=fR h.2 h0
  simp only [if_neg h0,decide_eq_true_eq];constructor
  ·intro h5
   refine Du ?_ fun x=>?_
   ·have:=nH _ fun x hx=>(h2 x hx).2.1
    omega
   ·rw [yS h h0]
    by_cases hx:x∈seg
    ·rw [h5 x hx];exact Int.le_refl _
    ·have:=oJ x seg
     have h6:¬ 0 < nIn x seg:=fun h=>hx (Ds.1 h)
     have:=JG (fun p hp=>(h2 p hp).2.1) x
     omega
  ·intro h5 x _
   rw [<- yS h h0,uT h5]
theorem M5 {r:Rn}{seg:List Int} (h:OkR r) (hl:(seg.length:Int)=r.to_-r.from_):agr1 r seg=HF r seg:=by
 rw [Bool.eq_iff_iff,EC h hl,IK h hl]
end Go.Proofs.YtjcecdmbfmccoaaGreatDoor
/-
 Contract: run.Join.
-/
namespace Go.Sl
open Go.RowKit Go.Proofs.YtjcecdmbfmccoaaGreatDoor
variable {C:Ctx}{st:List (Nat×Value)}{M:List Row}{k:List Item}
end Go.Sl
namespace Go.Proofs.YtjcecdmbfmccoaaGreatDoor
open Go.RowKit Go.Sl Go.Num
theorem KV {l:List Rn} (h:0 < l.length):bI l=l[0]:=by cases l with
 | nil=>exact absurd h (Nat.lt_irrefl _)
 | cons r t=>rfl
theorem KW {l:List Rn} (h:0 < l.length):bX l=l[l.length-1]:=by
 rw [bX,List.getLast?_eq_getElem?,gE om];rfl
theorem DW (a:Option Addr) (t:List (Int×Int)) (c:Nat) (x:Int) (w:World) (hA:aE w a 2 (t.map hoV)) (hl:t.length<=1000000) :
  CR 102 #[.slice a t.length c,.int .i64 x] w (.int .i64 (cnt x t)):=by
 generalize hT:cnt x t=T;refine aB [(0,.slice a t.length c),(1,.int .i64 x)] Tryz.func102 Tryz.ntmps102 ?_;all_goals (refine go ?_;and_intros<;>first|exact trivial|repeat first|intro(Bk:Nat)|intro h)
 refine J.loop (c:=_) (0:Nat) (fun s=>t.length-s) (fun s=>[(0,.slice a t.length c),(1,.int .i64 x),(5,.int .i64 s)]) (fun s=>[]) (fun s=>s<=t.length/\cnt x (t.drop s)=T) ?_ sbT sbL ?_
 ·exact ⟨Nat.zero_le _,hT⟩
 clear hT;intro k ⟨h1,h2⟩ ih;by_cases hk:k < t.length
 ·obtain ⟨ba,oa,rfl,hra⟩:=aE.all hA om
  have hr:=hra k hk;rw [List.drop_eq_getElem_cons hk] at h2;clear hra;generalize t[k]=z at *;obtain ⟨y,n⟩:=z;dsimp only [hoV] at hr;rw [cnt] at h2;by_cases hx:x=y
  ·rw [if_pos hx] at h2
   subst h2;clear ih;all_goals (refine go ?_;and_intros<;>first|exact trivial|repeat first|intro(Bk:Nat)|intro h)
   all_goals exact aA Tryz.func102 Tryz.results102 rfl
  ·rw [if_neg hx] at h2
   all_goals (refine go ?_;and_intros<;>first|exact trivial|repeat first|intro(Bk:Nat)|intro h)
   exact J.fin (ih (k+1) ⟨hk,h2⟩ om)
 ·rw [List.drop_eq_nil_of_le om,cnt] at h2
  subst h2;clear ih;all_goals (refine go ?_;and_intros<;>first|exact trivial|repeat first|intro(Bk:Nat)|intro h)
  all_goals exact aA Tryz.func102 Tryz.results102 rfl
theorem BO (a:Option Addr) (l:List Int) (c:Nat) (x:Int) (w:World) (hA:aE w a 1 (l.map isV)) (hl:l.length<=1000000) :
  CR 101 #[.slice a l.length c,.int .i64 x] w (.int .i64 (nIn x l)):=by
 generalize hT:nIn x l=T;refine aB [(0,.slice a l.length c),(1,.int .i64 x)] Tryz.func101 Tryz.ntmps101 ?_;all_goals (refine go ?_;and_intros<;>first|exact trivial|repeat first|intro(Bk:Nat)|intro h)
 refine J.loop (c:=_) ((0,0):Nat×Int) (fun s=>l.length-s.1) (fun s=>[(0,.slice a l.length c),(1,.int .i64 x),(5,.int .i64 s.2),(6,.int .i64 s.1)]) (fun s=>[]) (fun s=>s.1<=l.length/\s.2+nIn x (l.drop s.1)=T/\0<=s.2/\s.2<=s.1) ?_ sbT sbL ?_
 ·exact ⟨Nat.zero_le _,by rw [Int.zero_add];exact hT,Int.le_refl _,Int.le_refl _⟩
 clear hT;intro ⟨k,n⟩ ⟨h1,h2,h3,h4⟩ ih;dsimp only at h1 h2 h3 h4 ⊢;by_cases hk:k < l.length
 ·obtain ⟨ba,oa,rfl,hra⟩:=aE.all hA om
  have hr:=hra k hk;rw [List.drop_eq_getElem_cons hk,nIn] at h2;clear hra;generalize l[k]=y at *;dsimp only [isV] at hr;by_cases hx:y=x
  ·rw [if_pos hx] at h2
   all_goals (refine go ?_;and_intros<;>first|exact trivial|repeat first|intro(Bk:Nat)|intro h)
   exact J.fin (ih (k+1,n+1) ⟨hk,by dsimp only;omega,by dsimp only;omega,by dsimp only;omega⟩ (by dsimp only;omega))
  ·rw [if_neg hx,Int.zero_add] at h2
   all_goals (refine go ?_;and_intros<;>first|exact trivial|repeat first|intro(Bk:Nat)|intro h)
   exact J.fin (ih (k+1,n) ⟨hk,h2,h3,by dsimp only;omega⟩ (by dsimp only;omega))
 ·rw [List.drop_eq_nil_of_le om,nIn,Int.add_zero] at h2
  subst h2;clear ih;all_goals (refine go ?_;and_intros<;>first|exact trivial|repeat first|intro(Bk:Nat)|intro h)
  all_goals exact aA Tryz.func101 Tryz.results101 rfl
set_option maxHeartbeats 4000000 in
theorem vT (a b:Option Addr) (rs:List Rn) (f:Int) (hs:List Int) (c d:Nat) (w:World) (hA:aW w a rs) (hB:aE w b 1 (hs.map isV)) (hfr:∀ r∈rs,r.tab.length<=64) (hcap:hs.length<=d) (hl:hs.length<=100000) :
  CR 52 #[.slice a rs.length c,.agg #[.int .i64 f,.slice b hs.length d]] w (.bool (dP rs f hs)):=by
 have hc:=fun w' (hb:Below w.heap.size w w')=>mK a rs c w' (hA.below hb) hfr
 have hr:=fun w' (hb:Below w.heap.size w w')=>vR f b hs d w' (hB.below hb) om
 rw [dP];by_cases h1:¬ aX rs=0
 ·rw [if_pos (.inl h1)]
  generalize aX rs=E at *;cases h2:dK f hs<;>rw [h2] at hr
  all_goals
   refine aB [(0,.slice _ rs.length c),(1,.agg #[.int .i64 f,.slice b hs.length d])] Tryz.func52 Tryz.ntmps52 ?_;repeat' first|(refine gp ?_;and_intros<;>first|exact trivial|repeat first|intro(Bk:Nat)|intro h)|(apply G.cV (g:=71);rfl;rfl;exact fun w' hw'=>hc w' hw'.below)|(apply G.cV (g:=100);rfl;rfl;exact fun w' hw'=>hr w' hw'.below)|fail
   all_goals exact aA Tryz.func52 Tryz.results52 rfl
 rw [Decidable.not_not] at h1;obtain ⟨ho,hl2,hcn⟩:=gK h1;by_cases h2:dK f hs=false
 ·rw [if_pos (.inr h2)]
  rw [h1] at hc;rw [h2] at hr;refine aB [(0,.slice _ rs.length c),(1,.agg #[.int .i64 f,.slice b hs.length d])] Tryz.func52 Tryz.ntmps52 ?_;repeat' first|(refine gp ?_;and_intros<;>first|exact trivial|repeat first|intro(Bk:Nat)|intro h)|(apply G.cV (g:=71);rfl;rfl;exact fun w' hw'=>hc w' hw'.below)|(apply G.cV (g:=100);rfl;rfl;exact fun w' hw'=>hr w' hw'.below)|fail
  all_goals exact aA Tryz.func52 Tryz.results52 rfl
 rw [if_neg (by rw [h1];simp [h2])]
 rw [Bool.not_eq_false] at h2;rw [h1] at hc;rw [h2] at hr;obtain ⟨k3,k4⟩:=nF h2;clear h1 h2;rcases Nat.eq_zero_or_pos rs.length with h0|h0
 ·rw [List.getElem?_eq_none om]
  show Calls _ _ _ _ fun e w'=>e=.returned (.bool (decide (hs.length=0)))/\Below w.heap.size w w'
  by_cases h3:hs.length=0
  ·rw [dT h3]
   refine aB [(0,.slice _ rs.length c),(1,.agg #[.int .i64 f,.slice b hs.length d])] Tryz.func52 Tryz.ntmps52 ?_;repeat' first|(refine gp ?_;and_intros<;>first|exact trivial|repeat first|intro(Bk:Nat)|intro h)|(apply G.cV (g:=71);rfl;rfl;exact fun w' hw'=>hc w' hw'.below)|(apply G.cV (g:=100);rfl;rfl;exact fun w' hw'=>hr w' hw'.below)|fail
   all_goals refine aA Tryz.func52 Tryz.results52 ?_
   all_goals exact bL (by first|(rw [dT om])|rfl)
  ·rw [dF h3]
   refine aB [(0,.slice _ rs.length c),(1,.agg #[.int .i64 f,.slice b hs.length d])] Tryz.func52 Tryz.ntmps52 ?_;repeat' first|(refine gp ?_;and_intros<;>first|exact trivial|repeat first|intro(Bk:Nat)|intro h)|(apply G.cV (g:=71);rfl;rfl;exact fun w' hw'=>hc w' hw'.below)|(apply G.cV (g:=100);rfl;rfl;exact fun w' hw'=>hr w' hw'.below)|fail
   all_goals refine aA Tryz.func52 Tryz.results52 ?_
   all_goals exact bL (by first|(rw [dF om])|rfl)
 rw [gE h0,gE (show rs.length-1 < rs.length by omega)]
 dsimp only;have hcn:=(hcn (fun e=>by rw [e] at h0;exact absurd h0 (Nat.lt_irrefl _))).1
 rw [KW h0,KV h0] at hcn;have hz:(rs.length:Int)-1=((rs.length-1:Nat):Int):=by omega
 obtain ⟨ba,oa,rfl,hra⟩:=aE.all hA.1 om;have r1:=hra 0 h0;have r2:=hra (rs.length-1) om;have i1:=(ho _ (gM h0)).rng;have i2:=(ho _ (gM (show rs.length-1 < rs.length by omega))).rng
 have r1':=r1;have r2':=r2;rw [show rnV rs[0]=[.int .i64 rs[0].from_,.int .i64 rs[0].to_,.slice rs[0].adr rs[0].tab.length rs[0].cap,.int .i64 rs[0].lo,.int .i64 rs[0].hi] from rfl] at r1'
 rw [show rnV rs[rs.length-1]=[.int .i64 (rs[rs.length-1]).from_,.int .i64 (rs[rs.length-1]).to_,.slice (rs[rs.length-1]).adr (rs[rs.length-1]).tab.length (rs[rs.length-1]).cap,.int .i64 (rs[rs.length-1]).lo,.int .i64 (rs[rs.length-1]).hi] from rfl] at r2'
 by_cases h3:f≠rs[0].from_∨(hs.length:Int)≠(rs[rs.length-1]).to_-f
 ·rw [if_pos h3]
  clear hcn hA hB hra;generalize rs[0]=x at *;generalize rs[rs.length-1]=y at *;obtain ⟨f1,u,tab,adr,cap,lo,hi⟩:=x;obtain ⟨f2,u2,tab2,adr2,cap2,lo2,hi2⟩:=y;dsimp only [rnV] at *;rcases Decidable.em (f=f1) with h4|h4
  ·have h5:(hs.length:Int)≠u2-f:=h3.elim (fun h=>absurd h4 h) id
   clear h3;refine aB [(0,.slice _ rs.length c),(1,.agg #[.int .i64 f,.slice b hs.length d])] Tryz.func52 Tryz.ntmps52 ?_;repeat' first|(refine gp ?_;and_intros<;>first|exact trivial|repeat first|intro(Bk:Nat)|intro h)|(apply G.cV (g:=71);rfl;rfl;exact fun w' hw'=>hc w' hw'.below)|(apply G.cV (g:=100);rfl;rfl;exact fun w' hw'=>hr w' hw'.below)|(apply G.ix (i:=rs.length-1);rfl;rfl;exact hz;omega;rfl)|(apply G.ix (i:=0);rfl;rfl;exact rfl;omega;rfl)
   all_goals
    all_goals exact aA Tryz.func52 Tryz.results52 rfl
  ·clear h3
   refine aB [(0,.slice _ rs.length c),(1,.agg #[.int .i64 f,.slice b hs.length d])] Tryz.func52 Tryz.ntmps52 ?_;repeat' first|(refine gp ?_;and_intros<;>first|exact trivial|repeat first|intro(Bk:Nat)|intro h)|(apply G.cV (g:=71);rfl;rfl;exact fun w' hw'=>hc w' hw'.below)|(apply G.cV (g:=100);rfl;rfl;exact fun w' hw'=>hr w' hw'.below)|(apply G.ix (i:=rs.length-1);rfl;rfl;exact hz;omega;rfl)|(apply G.ix (i:=0);rfl;rfl;exact rfl;omega;rfl)
   all_goals
    all_goals exact aA Tryz.func52 Tryz.results52 rfl
 rw [if_neg h3];rw [not_or,Decidable.not_not,Decidable.not_not] at h3;obtain ⟨h3,h4⟩:=h3;have hin:∀ (k:Nat) (hk:k < rs.length),f<=rs[k].from_/\rs[k].to_<=f+hs.length:=fun k hk=>by
  have hcn2:Cn rs[0].from_ (rs.take k++rs.drop k) (rs[rs.length-1]).to_:=by rw [List.take_append_drop];exact hcn
  obtain ⟨m,e1,e2⟩:=Cn.app.1 hcn2;rw [List.drop_eq_getElem_cons hk] at e2;have e3:=e1.le fun x hx=>ho x (List.mem_of_mem_take hx)
  have e4:=e2.2.le fun x hx=>ho x (List.mem_of_mem_drop hx)
  have:=e2.1;omega
 generalize hT:agrL f hs rs=T;refine aB [(0,.slice _ rs.length c),(1,.agg #[.int .i64 f,.slice b hs.length d])] Tryz.func52 Tryz.ntmps52 ?_;repeat' first|(refine gp ?_;and_intros<;>first|exact trivial|repeat first|intro(Bk:Nat)|intro h)|(apply G.cV (g:=71);rfl;rfl;exact fun w' hw'=>hc w' hw'.below)|(apply G.cV (g:=100);rfl;rfl;exact fun w' hw'=>hr w' hw'.below)|(apply G.ix (i:=rs.length-1);rfl;rfl;exact hz;omega;rfl)|(apply G.ix (i:=0);rfl;rfl;exact rfl;omega;rfl)
 clear hc hr r1 r2 r1' r2' i1 i2 hcn;refine J.loop (c:=_) (0:Nat) (fun s=>rs.length-s) (fun s=>[(0,.slice (some ⟨ba,oa,none⟩) rs.length c),(3,.pointer (some ⟨_,0,none⟩)),(6,.int .i64 s)]) (fun s=>[.blk _ 30 [.int .i64 f,.slice b hs.length d] 2]) (fun s=>s<=rs.length/\agrL f hs (rs.drop s)=T) ?_ sbT sbL ?_
 ·exact ⟨Nat.zero_le _,hT⟩
 clear hT;intro k ⟨e1,e2⟩ ih;by_cases hk:k < rs.length
 ·have hrk:=hra k hk
  have htk:=hA.2 _ (gM hk);have hik:=hin k hk;have hok:=ho _ (gM hk);have hlk:=hfr _ (gM hk);rw [List.drop_eq_getElem_cons hk,agrL] at e2;have ih':=ih (k+1);clear hra hin ho ih hA hfr;generalize hV:agrL f hs (rs.drop (k+1))=V at *;generalize rs[k]=r at *;have hrg:=hok.rng;obtain ⟨p,hp⟩:∃ p:Nat,r.from_=f+p:=⟨(r.from_-f).toNat,by omega⟩
  obtain ⟨n,hn⟩:∃ n:Nat,r.to_=r.from_+n:=⟨(r.to_-r.from_).toNat,by omega⟩
  rw [show (r.from_-f).toNat=p by omega,show (r.to_-r.from_).toNat=n by omega] at e2
  have hlen:((hs.drop p).take n).length=n:=by rw [List.length_take,List.length_drop];omega
  rw [M5 hok (by rw [hlen];omega),HF] at e2
  have hseg:∀ i,i < n->((hs.drop p).take n)[i]?=hs[p+i]?:=fun i hi=>by rw [List.getElem?_take,if_pos hi,List.getElem?_drop]
  by_cases hn0:hs.length=0
  ·exfalso;omega
  obtain ⟨bb,ob,rfl,hrb⟩:=aE.all hB om;have hsl:∀ {w':World},Below w.heap.size w w'->aE w' (some ⟨bb,ob+p*1,none⟩) 1 (((hs.drop p).take n).map isV):=fun {w'} hb=>(aE.seg hrb p n om).below hb
  have ham:=fun w' (hb:Below w.heap.size w w') x cc=>by
   have:=BO (some ⟨bb,ob+p*1,none⟩) ((hs.drop p).take n) cc x w' (hsl hb) om;rw [hlen] at this;exact this
  have hhe:=fun w' (hb:Below w.heap.size w w') x=>DW r.adr r.tab r.cap x w' (aE.below htk hb) om
  generalize hsg:(hs.drop p).take n=sg at *;obtain ⟨fr,to,tab,adr,cap,lo,hi⟩:=r;dsimp only [rnV] at *;subst hn;subst hp;clear hB hok;repeat' first|(refine gp ?_;and_intros<;>first|exact trivial|repeat first|intro(Bk:Nat)|intro h)|(apply G.Q8 (l:=p) (h:=p+n) (off:=ob+p*1) (len:=n);rfl;rfl;rfl;omega;omega;omega;omega;omega;rfl;omega;rfl)
  clear hrk;refine J.loop (c:=_) (0:Nat) (fun s=>n-s) (fun s=>[(0,.slice (some ⟨ba,oa,none⟩) rs.length c),(3,.pointer (some ⟨_,0,none⟩)),(6,.int .i64 k),(7,.pointer (some ⟨_,0,none⟩)),(8,.slice (some ⟨bb,ob+p*1,none⟩) n _),(9,.int .i64 s)]) (fun s=>[.blk _ 67 [.int .i64 (f+p),.int .i64 (f+p+n),.slice adr tab.length cap,.int .i64 lo,.int .i64 hi] 5,.blk _ 30 [.int .i64 f,.slice (some ⟨bb,ob,none⟩) hs.length d] 2]) (fun s=>s<=n/\∀ i (hj:i < sg.length),i < s->(if tab.length=0 then decide (lo<=sg[i]/\sg[i]<=hi) else decide (nIn sg[i] sg=cnt sg[i] tab))=true) ?_ sbT sbL ?_
  ·exact ⟨Nat.zero_le _,fun i hj h=>absurd h (Nat.not_lt_zero _)⟩
  intro i ⟨c1,c2⟩ ih2;by_cases hi2:i < n
  ·have hr1:bG w bb (ob+p*1+i*1) [.int .i64 sg[i]]:=by
    have:=hrb (p+i) om;have h6:=hseg i hi2;rw [gE om,gE om] at h6;rw [show ob+p*1+i*1=ob+(p+i)*1 by omega,Option.some.inj h6];exact this
   have ih3:=fun (h:(if tab.length=0 then decide (lo<=sg[i]/\sg[i]<=hi) else decide (nIn sg[i] sg=cnt sg[i] tab))=true)=>ih2 (i+1) ⟨hi2,fun j hj h5=>by
    rcases Nat.lt_or_ge j i with h6|h6
    ·exact c2 j hj h6
    ·obtain rfl:j=i:=by omega
     exact h⟩ om
   have hbad:(if tab.length=0 then decide (lo<=sg[i]/\sg[i]<=hi) else decide (nIn sg[i] sg=cnt sg[i] tab))=false->T=false:=fun h=>by
    rw [<- e2]
    have:(sg.all fun s=>if tab.length=0 then decide (lo<=s/\s<=hi) else decide (nIn s sg=cnt s tab))=false:=List.all_eq_false.2 ⟨_,gM (l:=sg) (n:=i) om,by rw [h];decide⟩
    rw [this];rfl
   clear hrb ih2 c2 e2 ih' hsl hseg;have ham:=fun w' hb cc=>ham w' hb sg[i] cc
   have hhe:=fun w' hb=>hhe w' hb sg[i]
   have hnb:=oJ sg[i] sg;generalize nIn sg[i] sg=N1 at *;generalize cnt sg[i] tab=N2 at *;generalize sg[i]=z at *;by_cases hgp:tab.length=0
   ·rw [if_pos hgp] at ih3 hbad
    by_cases hwi:lo<=z/\z<=hi
    ·have ih4:=ih3 (dT hwi)
     clear ih3 hbad ham hhe;all_goals (refine go ?_;and_intros<;>first|exact trivial|repeat first|intro(Bk:Nat)|intro h)
     exact J.fin ih4
    ·rw [hbad (dF hwi)]
     clear ih3 hbad ham hhe;by_cases hw2:z < lo
     ·skip
      all_goals (refine go ?_;and_intros<;>first|exact trivial|repeat first|intro(Bk:Nat)|intro h)
      all_goals exact aA Tryz.func52 Tryz.results52 rfl
     ·have hw3:hi < z:=by omega
      clear hwi;all_goals (refine go ?_;and_intros<;>first|exact trivial|repeat first|intro(Bk:Nat)|intro h)
      all_goals exact aA Tryz.func52 Tryz.results52 rfl
   ·rw [if_neg hgp] at ih3 hbad
    by_cases hc0:N1=N2
    ·have ih4:=ih3 (dT hc0)
     clear ih3 hbad;repeat' first|(refine gp ?_;and_intros<;>first|exact trivial|repeat first|intro(Bk:Nat)|intro h)|(apply G.cV (g:=101);rfl;rfl;exact fun w' hw'=>ham w' hw'.below _)|(apply G.cV (g:=102);rfl;rfl;exact fun w' hw'=>hhe w' hw'.below)
     exact J.fin ih4
    ·rw [hbad (dF hc0)]
     clear ih3 hbad;repeat' first|(refine gp ?_;and_intros<;>first|exact trivial|repeat first|intro(Bk:Nat)|intro h)|(apply G.cV (g:=101);rfl;rfl;exact fun w' hw'=>ham w' hw'.below _)|(apply G.cV (g:=102);rfl;rfl;exact fun w' hw'=>hhe w' hw'.below)
     all_goals exact aA Tryz.func52 Tryz.results52 rfl
  ·obtain rfl:i=n:=by omega
   have hall:(sg.all fun s=>if tab.length=0 then decide (lo<=s/\s<=hi) else decide (nIn s sg=cnt s tab))=true:=List.all_eq_true.2 fun x hx=>by
    obtain ⟨j,hj,rfl⟩:=List.getElem_of_mem hx;exact c2 j hj om
   rw [hall,Bool.true_and] at e2;clear ih2 c2;all_goals (refine go ?_;and_intros<;>first|exact trivial|repeat first|intro(Bk:Nat)|intro h)
   exact J.fin (ih' ⟨hk,e2⟩ om)
 ·rw [List.drop_eq_nil_of_le om,agrL] at e2
  subst e2;clear ih;all_goals (refine go ?_;and_intros<;>first|exact trivial|repeat first|intro(Bk:Nat)|intro h)
  all_goals exact aA Tryz.func52 Tryz.results52 rfl
theorem Fe {x y:Rat} (hx:big x) (hy:big y) (w:World):CR 47 #[qA (rQ x),qA (rQ y)] w (qA (rQ (x+y))):=by
 have h:=oC (rQ x) (rQ y) w hx.a.1 hx.a.2 hy.a.1 hy.a.2
 rwa [bR,bR] at h
theorem OX {x y:Rat} (hx:big x) (hy:big y) (w:World):CR 97 #[qA (rQ x),qA (rQ y)] w (qA (rQ (x*y))):=by
 have h:=tU (rQ x) (rQ y) w hx.a.1 hx.a.2 hy.a.1 hy.a.2
 rwa [bR,bR] at h
theorem KX {x y:Rat} (hx:big x) (hy:big y) (w:World):CR 51 #[qA (rQ x),qA (rQ y)] w (.int .i64 (dR (x-y))):=by
 have h:=oD (rQ x) (rQ y) w hx.a.1 hx.a.2 hy.a.1 hy.a.2 (by rw [bR];exact hy.a.1) (by rw [bR];exact hy.a.2)
 rwa [bR,bR] at h
theorem tW (a:Option Addr) (rs:List Rn) (c:Nat) (b:Option Addr) (l:List Spn) (d:Nat) (w:World) (hA:aW w a rs) (hf:∀ r∈rs,r.tab.length<=64) (hB:aN w b l) (hg:∀ s∈l,fewS s) :
  CR 44 #[.slice a rs.length c,.slice b l.length d] w (.int .i64 (cU rs l)):=by
 have hc1:=fun w' (hb:Below w.heap.size w w')=>mK a rs c w' (hA.below hb) hf
 have hc2:=fun w' (hb:Below w.heap.size w w')=>vO b l d w' (hB.below hb) hg
 unfold cU;by_cases h1:aX rs=0
 ·rw [if_neg (fun h=>h h1)]
  have n1:=(jQ h1).1;rw [h1] at hc1;by_cases h2:aZ l=0
  ·rw [if_neg (fun h=>h h2)]
   have n2:=(cT h2).1;rw [h2] at hc2;by_cases h3:l.length=0
   ·rw [if_neg om]
    refine aB [(0,.slice a rs.length c),(1,.slice b l.length d)] Tryz.func44 Tryz.ntmps44 ?_;repeat' first|(refine gp ?_;and_intros<;>first|exact trivial|repeat first|intro(Bk:Nat)|intro h)|(apply G.cV (g:=71);rfl;rfl;exact fun w' hw=>hc1 w' hw.below)|(apply G.cV (g:=85);rfl;rfl;exact fun w' hw=>hc2 w' hw.below)
    all_goals exact aA Tryz.func44 Tryz.results44 rfl
   ·by_cases h4:rs.length=0
    ·rw [if_pos ⟨by omega,.inl h4⟩]
     refine aB [(0,.slice a rs.length c),(1,.slice b l.length d)] Tryz.func44 Tryz.ntmps44 ?_;repeat' first|(refine gp ?_;and_intros<;>first|exact trivial|repeat first|intro(Bk:Nat)|intro h)|(apply G.cV (g:=71);rfl;rfl;exact fun w' hw=>hc1 w' hw.below)|(apply G.cV (g:=85);rfl;rfl;exact fun w' hw=>hc2 w' hw.below)
     all_goals exact aA Tryz.func44 Tryz.results44 rfl
    ·obtain ⟨e1,e2,e3,e4⟩:=Kq (rs:=rs) (l:=l) om om
     rw [e1,e2,e3,e4];obtain ⟨ba,oa,rfl,hra⟩:=aE.all hA.1 om;obtain ⟨bb,ob,rfl,hrb⟩:=aE.all hB.1 om;have r0:=hra 0 om;have r1:=hra (rs.length-1) om;have s0:=hrb 0 om;have s1:=hrb (l.length-1) om;clear hra hrb e1 e2 e3 e4 hA hB hf hg;generalize rs[0]=x0 at *;generalize rs[rs.length-1]=x1 at *;generalize l[0]=y0 at *;generalize l[l.length-1]=y1 at *;dsimp only [rnV,spV] at r0 r1 s0 s1;refine aB [(0,.slice (some ⟨ba,oa,none⟩) rs.length c),(1,.slice (some ⟨bb,ob,none⟩) l.length d)] Tryz.func44 Tryz.ntmps44 ?_;repeat' first|(refine gp ?_;and_intros<;>first|exact trivial|repeat first|intro(Bk:Nat)|intro h)|(apply G.cV (g:=71);rfl;rfl;exact fun w' hw=>hc1 w' hw.below)|(apply G.cV (g:=85);rfl;rfl;exact fun w' hw=>hc2 w' hw.below)|(apply G.ix (i:=l.length-1);rfl;rfl;omega;omega;rfl)|(apply G.ix (i:=rs.length-1);rfl;rfl;omega;omega;rfl)
     all_goals refine aA Tryz.func44 Tryz.results44 ?_
     all_goals (first|rfl|(rw [if_pos om];done)|(rw [if_neg om];done))
  ·rw [if_pos h2]
   refine aB [(0,.slice a rs.length c),(1,.slice b l.length d)] Tryz.func44 Tryz.ntmps44 ?_;repeat' first|(refine gp ?_;and_intros<;>first|exact trivial|repeat first|intro(Bk:Nat)|intro h)|(apply G.cV (g:=71);rfl;rfl;exact fun w' hw=>hc1 w' hw.below)|(apply G.cV (g:=85);rfl;rfl;exact fun w' hw=>hc2 w' hw.below)
   all_goals exact aA Tryz.func44 Tryz.results44 rfl
 ·rw [if_pos h1]
  refine aB [(0,.slice a rs.length c),(1,.slice b l.length d)] Tryz.func44 Tryz.ntmps44 ?_;repeat' first|(refine gp ?_;and_intros<;>first|exact trivial|repeat first|intro(Bk:Nat)|intro h)|(apply G.cV (g:=71);rfl;rfl;exact fun w' hw=>hc1 w' hw.below)
  all_goals exact aA Tryz.func44 Tryz.results44 rfl
theorem Pl {x y:Rat} (hx:big x) (hy:big y) (w:World):CR 95 #[qA (rQ x),qA (rQ y)] w (qA (rQ (if y < x then y else x))):=by
 have ax:=hx.a;have ay:=hy.a;have hof:=fun w'=>eA (rQ x) w' om om
 have hog:=fun w'=>eA (rQ y) w' om om
 have hc:=KX hx hy;rw [bR] at hof hog;have hsg:=CP (x:=x) (y:=y);generalize dR (x-y)=sg at *;by_cases h:y < x
 ·rw [if_pos h]
  have h2:¬ sg<=0:=fun hs=>hsg.1 hs h
  clear hsg h;generalize rQ x=q1 at *;generalize rQ y=q2 at *;obtain ⟨s1,u1,v1⟩:=q1;obtain ⟨s2,u2,v2⟩:=q2;dsimp only [qA] at *;refine aB [(0,.agg #[.bool s1,.string (bs u1),.string (bs v1)]),(1,.agg #[.bool s2,.string (bs u2),.string (bs v2)])] Tryz.func95 Tryz.ntmps95 ?_;repeat' first|(refine gp ?_;and_intros<;>first|exact trivial|repeat first|intro(Bk:Nat)|intro h)|(apply G.cV (g:=51);rfl;rfl;exact fun w' _=>hc w')|(apply G.cV (g:=87);rfl;rfl;exact fun w' _=>hog w')
  all_goals exact aA Tryz.func95 Tryz.results95 rfl
 ·rw [if_neg h]
  have h2:sg<=0:=hsg.2 h;clear hsg h;generalize rQ x=q1 at *;generalize rQ y=q2 at *;obtain ⟨s1,u1,v1⟩:=q1;obtain ⟨s2,u2,v2⟩:=q2;dsimp only [qA] at *;refine aB [(0,.agg #[.bool s1,.string (bs u1),.string (bs v1)]),(1,.agg #[.bool s2,.string (bs u2),.string (bs v2)])] Tryz.func95 Tryz.ntmps95 ?_;repeat' first|(refine gp ?_;and_intros<;>first|exact trivial|repeat first|intro(Bk:Nat)|intro h)|(apply G.cV (g:=51);rfl;rfl;exact fun w' _=>hc w')|(apply G.cV (g:=87);rfl;rfl;exact fun w' _=>hof w')
  all_goals exact aA Tryz.func95 Tryz.results95 rfl
theorem Pm {x y:Rat} (hx:big x) (hy:big y) (w:World):CR 96 #[qA (rQ x),qA (rQ y)] w (qA (rQ (if x < y then y else x))):=by
 have ax:=hx.a;have ay:=hy.a;have hof:=fun w'=>eA (rQ x) w' om om
 have hog:=fun w'=>eA (rQ y) w' om om
 have hc:=KX hx hy;rw [bR] at hof hog;have hsg:=oS (x:=x) (y:=y);generalize dR (x-y)=sg at *;by_cases h:x < y
 ·rw [if_pos h]
  have h2:¬ 0<=sg:=fun hs=>hsg.1 hs h
  clear hsg h;generalize rQ x=q1 at *;generalize rQ y=q2 at *;obtain ⟨s1,u1,v1⟩:=q1;obtain ⟨s2,u2,v2⟩:=q2;dsimp only [qA] at *;refine aB [(0,.agg #[.bool s1,.string (bs u1),.string (bs v1)]),(1,.agg #[.bool s2,.string (bs u2),.string (bs v2)])] Tryz.func96 Tryz.ntmps96 ?_;repeat' first|(refine gp ?_;and_intros<;>first|exact trivial|repeat first|intro(Bk:Nat)|intro h)|(apply G.cV (g:=51);rfl;rfl;exact fun w' _=>hc w')|(apply G.cV (g:=87);rfl;rfl;exact fun w' _=>hog w')
  all_goals exact aA Tryz.func96 Tryz.results96 rfl
 ·rw [if_neg h]
  have h2:0<=sg:=hsg.2 h;clear hsg h;generalize rQ x=q1 at *;generalize rQ y=q2 at *;obtain ⟨s1,u1,v1⟩:=q1;obtain ⟨s2,u2,v2⟩:=q2;dsimp only [qA] at *;refine aB [(0,.agg #[.bool s1,.string (bs u1),.string (bs v1)]),(1,.agg #[.bool s2,.string (bs u2),.string (bs v2)])] Tryz.func96 Tryz.ntmps96 ?_;repeat' first|(refine gp ?_;and_intros<;>first|exact trivial|repeat first|intro(Bk:Nat)|intro h)|(apply G.cV (g:=51);rfl;rfl;exact fun w' _=>hc w')|(apply G.cV (g:=87);rfl;rfl;exact fun w' _=>hof w')
  all_goals exact aA Tryz.func96 Tryz.results96 rfl
theorem OY {n:Int} (h1:-999999999999999<=n) (h2:n<=999999999999999) (w:World):CR 98 #[.int .i64 n] w (qA (rQ (n:Rat))):=Gz n w h1 h2
theorem tX {n:Int}{x:Rat} (h1:-999999999999999<=n) (h2:n<=999999999999999) (hx:big x) (w:World) :
  CR 50 #[.int .i64 n,qA (rQ x)] w (qA (rQ ((n:Rat)*x))):=by
 have hi:=OY h1 h2;have hm:=OX (aH.big (jC h1 h2) dc) hx;generalize rQ ((n:Rat)*x)=r at *;generalize rQ x=q at *;generalize rQ (n:Rat)=m at *;obtain ⟨n1,u1,d1⟩:=q;obtain ⟨n2,u2,d2⟩:=m;obtain ⟨n3,u3,d3⟩:=r;dsimp only [qA] at *;refine aB [(0,.int .i64 n),(1,.agg #[.bool n1,.string (bs u1),.string (bs d1)])] Tryz.func50 Tryz.ntmps50 ?_;repeat' first|(refine gp ?_;and_intros<;>first|exact trivial|repeat first|intro(Bk:Nat)|intro h)|(apply G.cV (g:=98);rfl;rfl;exact fun w' _=>hi w')|(apply G.cV (g:=97);rfl;rfl;exact fun w' _=>hm w')
 all_goals exact aA Tryz.func50 Tryz.results50 rfl
theorem BA (a:Option Addr) (rs:List Rn) (c:Nat) (b:Option Addr) (l:List Spn) (d:Nat) (k:Nat) (w:World) (hA:aW w a rs) (hf:∀ r∈rs,r.tab.length<=64) (hB:aN w b l) (hg:∀ s∈l,fewS s) (h0:cU rs l=0) (hk:k < rs.length) :
  Calls Tryz.prog 45 #[.slice a rs.length c,.slice b l.length d,.int .i64 k] w (NwL 2 hoV (fun v=>.agg #[v,.int .i64 0]) w (aD rs[k] l)):=by
 have hc:=fun w' (hb:Below w.heap.size w w')=>tW a rs c b l d w' (hA.below hb) hf (hB.below hb) hg
 rw [h0] at hc;obtain ⟨q1,q2,q3,q4,q5⟩:=dY h0;have hr:=(q5 _ (gM hk)).rng;obtain ⟨ba,oa,rfl,hra⟩:=aE.all hA.1 om;have hrk:=hra k hk;clear hra q5 hA hf hg h0;generalize rs[k]=r at *;dsimp only [rnV] at hrk;refine aB [(0,.slice (some ⟨ba,oa,none⟩) rs.length c),(1,.slice b l.length d),(2,.int .i64 k)] Tryz.func45 Tryz.ntmps45 ?_;repeat' first|(refine gp ?_;and_intros<;>first|exact trivial|repeat first|intro(Bk:Nat)|intro h)|(apply G.cV (g:=36);rfl;rfl;exact fun w' hw=>hc w' hw.below)|(apply G.cV (g:=44);rfl;rfl;exact fun w' hw=>hc w' hw.below)
 apply J.nilOwn (E:=90) (size:=2);refine J.loop (c:=_) ((0,r.to_-r.from_,.slice none 0 0,[]):Nat×Int×Value×List (Int×Int)) (fun s=>l.length-s.1) (fun s=>[(0,.slice (some ⟨ba,oa,none⟩) rs.length c),(1,.slice b l.length d),(2,.int .i64 k),(6,.pointer (some ⟨_,0,none⟩)),(8,s.2.2.1),(9,.int .i64 s.2.1),(10,.int .i64 s.1)]) (fun s=>[.own 0 s.2.2.1 90 2 s.2.2.2.length (flat hoV s.2.2.2),.blk _ 98 [.slice none 0 0,.int .i64 0] 2]) (fun s=>s.1<=l.length/\s.2.2.2=iA r l s.1/\s.2.1=r.to_-r.from_-gU s.2.2.2/\-(1402560*(s.1:Int))<=s.2.1/\s.2.1<=1402560) ?_ sbT sbL ?_
 ·exact ⟨Nat.zero_le _,rfl,by show _=_-gU [];rw [gU,Int.sub_zero],by dsimp only;omega,by dsimp only;omega⟩
 intro ⟨i,z,u,o⟩ ⟨h1,h3,h4,h5,h6⟩ ih;dsimp only at h1 h3 h4 h5 h6 ⊢;have hle:=vF r l i;rw [<- h3] at hle;by_cases hi:i < l.length
 ·obtain ⟨bb,ob,rfl,hrb⟩:=aE.all hB.1 om
  have hri:=hrb i hi;have hft:=q1.lt hi;have hrr:=(q3 _ (gM hi)).1;by_cases hov:0 < ovC r l[i]
  ·have hst:iA r l (i+1)=o++[((i:Int),ovC r l[i])]:=by
    rw [iA,gE hi,<- h3];dsimp only;rw [if_pos hov]
   have hz:z-ovC r l[i]=r.to_-r.from_-gU (o++[((i:Int),ovC r l[i])]):=by
    rw [nN,gU,gU];dsimp only;omega
   have hov1:ovC r l[i]<=1402560:=by unfold ovC;omega
   have ih:=fun u=>ih (i+1,z-ovC r l[i],u,o++[((i:Int),ovC r l[i])]) ⟨hi,hst.symm,hz,by dsimp only;omega,by dsimp only;omega⟩ (by dsimp only;omega)
   clear hrb hst hz q3 hB hc;simp only [List.length_append,List.length_singleton] at ih;unfold ovC at ih hov hov1;generalize l[i]=s at *;dsimp only [spV] at hri;repeat' first|(refine gp ?_;and_intros<;>first|exact trivial|repeat first|intro(Bk:Nat)|intro h)|(apply G.Pu;rfl;rfl;rfl;rfl;rfl;rfl;rfl;rfl;intro Bs)|(apply G.ap;rfl;rfl;rfl;(repeat (first|exact RAt.head|apply RAt.tail));exact cB.blk (by exact mm) rfl rfl;exact jV hoV o (_,_);omega;omega;intro v2)
   exact J.fin (ih v2)
  ·have hst:iA r l (i+1)=o:=by
    rw [iA,gE hi,<- h3];dsimp only;rw [if_neg hov,List.append_nil]
   have ih:=ih (i+1,z,u,o) ⟨hi,hst.symm,h4,by dsimp only;omega,by dsimp only;omega⟩ (by dsimp only;omega)
   clear hrb hst q3 hB hc;unfold ovC at hov;generalize l[i]=s at *;dsimp only [spV] at hri;all_goals (refine go ?_;and_intros<;>first|exact trivial|repeat first|intro(Bk:Nat)|intro h)
   exact J.fin ih
 ·have hend:iA r l l.length=o:=by rw [h3,show i=l.length by omega]
  have hz:z=jI r l:=by rw [h4,jI,hend]
  have hcl:aD r l=o++if 0 < z then [(-1,z)] else []:=by rw [aD,hend,<- hz]
  rw [hcl];clear ih hcl h4 hz hend hc q3 hB;have fin:∀ (w':World) (M:List Row) (v:Value) (x:List (Int×Int)) (i E:Nat),Sat w M w'->M[i]?=some (Row.own 0 v E 2 x.length (flat hoV x))->NwL 2 hoV (fun v=>.agg #[v,.int .i64 0]) w x (.returned (.agg #[v,.int .i64 0])) w':=fun w' M v x i E hw hm=>NR Hf hw hm rfl fun v=>.agg #[v,.int .i64 0]
  by_cases hz0:0 < z
  ·rw [if_pos hz0]
   repeat' first|(refine gp ?_;and_intros<;>first|exact trivial|repeat first|intro(Bk:Nat)|intro h)|(apply G.Pu;rfl;rfl;rfl;rfl;rfl;rfl;rfl;rfl;intro Bs)|(apply G.ap;rfl;rfl;rfl;(repeat (first|exact RAt.head|apply RAt.tail));exact cB.blk (by exact mm) rfl rfl;exact jV hoV o ((-1:Int),z);omega;omega;intro v2;apply G.ownForm (i:=1) rfl;intro a2 c2 hu2;subst hu2)
   all_goals
    (refine kE Tryz.func45 Tryz.results45 ?_;intro w' hw)
    exact fin _ _ _ _ 1 _ hw (by rw [List.length_append];rfl)
  ·rw [if_neg hz0,List.append_nil]
   apply J.ownForm (i:=0) rfl;intro a2 c2 hu2;subst hu2;all_goals (refine go ?_;and_intros<;>first|exact trivial|repeat first|intro(Bk:Nat)|intro h)
   all_goals
    (refine kE Tryz.func45 Tryz.results45 ?_;intro w' hw)
    exact fin _ _ _ _ 0 _ hw rfl
theorem qW0:qW 0=[.bool false,.string (bs []),.string (bs [])]:=by rfl
end Go.Proofs.YtjcecdmbfmccoaaGreatDoor
namespace Go.Sl
open Go.RowKit Go.Proofs.YtjcecdmbfmccoaaGreatDoor
variable {C:Ctx}{M:List Row}{st:List (Nat×Value)}{k:List Item}{q q':Md}{all rest:List Oper}{d:Nat}{ty:TypeId}{pos:String}{after:Array Edge}{gd:Option (Nat×Bool)}
end Go.Sl
/-
 Contracts of proofs: the rate of a stage in a class,the better end of a gap,well-formed elements.
-/
namespace Go.Proofs.YtjcecdmbfmccoaaGreatDoor
open Go.RowKit Go.Sl Go.Num
theorem rA (p T st:Int) (b:Option Addr) (l:List Spn) (d:Nat) (w:World) (hB:aN w b l) (hf:∀ s∈l,fewS s) (hR:∀ s∈l,aQ s) (hp:p < l.length) (hs:0<=st/\st<=1000) :
  CR 94 #[.slice b l.length d,.agg #[.int .i64 p,.int .i64 T],.int .i64 st] w (qA (rQ (aS l p st))):=by
  by_cases h0:p < 0
  ·rw [AY h0]
   clear hB hf hR;refine aB [(0,.slice b l.length d),(1,.agg #[.int .i64 p,.int .i64 T]),(2,.int .i64 st)] Tryz.func94 Tryz.ntmps94 ?_;all_goals (refine go ?_;and_intros<;>first|exact trivial|repeat first|intro(Bk:Nat)|intro h)
   all_goals exact aA Tryz.func94 Tryz.results94 rfl
  ·obtain ⟨i,rfl⟩:∃ i:Nat,p=i:=⟨p.toNat,by omega⟩
   have hi:i < l.length:=by omega
   have hR':=hR _ (gM hi);have hv:=fun w' (hb:Below w.heap.size w w')=>vQ l[i] st w' ((hB.2 _ (gM hi)).below hb) (hf _ (gM hi)) hR' hs.1 hs.2
   rw [D9 hi];obtain ⟨bb,ob,rfl,hrow⟩:=aE.all hB.1 om;have hri:=hrow i hi;clear hrow hB hf hR hR';generalize bC l[i] st=x at *;generalize l[i]=s at *;dsimp only [spV] at hri;unfold spA at hv;generalize rQ x=q at *;obtain ⟨n1,u1,d1⟩:=q;dsimp only [qA] at *;refine aB [(0,.slice (some ⟨bb,ob,none⟩) l.length d),(1,.agg #[.int .i64 i,.int .i64 T]),(2,.int .i64 st)] Tryz.func94 Tryz.ntmps94 ?_;repeat' first|(refine gp ?_;and_intros<;>first|exact trivial|repeat first|intro(Bk:Nat)|intro h)|(apply G.cV (g:=84);rfl;rfl;exact fun w' hw=>hv w' hw.below)|(apply G.cV (g:=137);rfl;rfl;exact fun w' hw=>hv w' hw.below)
   all_goals exact aA Tryz.func94 Tryz.results94 rfl
theorem vU (a:Option Addr) (l:List Q3) (c:Nat) (w:World) (hA:aE w a 3 (l.map qV)) (hl:l.length<=1000000000) (hf:∀ s∈l,aH 20000000 s) :
  CR 46 #[.slice a l.length c] w (.bool (l.all fun a=>decide (aP a))):=by
 refine aB [(0,.slice a l.length c)] Tryz.func46 Tryz.ntmps46 ?_;all_goals (refine go ?_;and_intros<;>first|exact trivial|repeat first|intro(Bk:Nat)|intro h)
 refine J.loop (c:=_) (0:Nat) (fun s=>l.length-s) (fun s=>[(0,.slice a l.length c),(3,.int .i64 s)]) (fun s=>[]) (fun s=>s<=l.length/\(l.all fun a=>decide (aP a))=(l.drop s).all fun a=>decide (aP a)) ?_ sbT sbL ?_
 ·exact ⟨Nat.zero_le _,rfl⟩
 intro k ⟨h1,h2⟩ ih
 try dsimp only at h1 h2
 by_cases hk:k < l.length
 ·obtain ⟨ba,oa,rfl,hra⟩:=aE.all hA om
  have hr:=hra k hk;have hfk:=hf l[k] (gM hk);have hv:=fun w'=>kU l[k] w' (Nat.le_trans hfk.1 dc) (Nat.le_trans hfk.2 dc)
  rw [List.drop_eq_getElem_cons hk,List.all_cons] at h2;clear hra hf hfk;by_cases hq:aP l[k]
  ·rw [dT hq] at hv h2
   have ih:=ih (k+1) ⟨hk,by rw [h2,Bool.true_and]⟩ om
   clear hq h2;generalize l[k]=s at *;obtain ⟨n1,u1,d1⟩:=s;dsimp only [qV,qA] at *;repeat' first|(refine gp ?_;and_intros<;>first|exact trivial|repeat first|intro(Bk:Nat)|intro h)|(apply G.cV (g:=86);rfl;rfl;exact fun w' _=>hv w')
   exact J.fin ih
  ·rw [dF hq] at hv h2
   rw [h2,Bool.false_and];clear hq h2 ih;generalize l[k]=s at *;obtain ⟨n1,u1,d1⟩:=s;dsimp only [qV,qA] at *;repeat' first|(refine gp ?_;and_intros<;>first|exact trivial|repeat first|intro(Bk:Nat)|intro h)|(apply G.cV (g:=86);rfl;rfl;exact fun w' _=>hv w')
   all_goals exact aA Tryz.func46 Tryz.results46 rfl
 ·rw [h2,List.drop_eq_nil_of_le om]
  clear hf ih h2;all_goals (refine go ?_;and_intros<;>first|exact trivial|repeat first|intro(Bk:Nat)|intro h)
  all_goals exact aA Tryz.func46 Tryz.results46 rfl
theorem KY (a b:Rat):qL false a b=if b < a then b else a:=rfl
theorem KZ (a b:Rat):qL true a b=if a < b then b else a:=by
 unfold qL;have h:(sgR true b < sgR true a) ↔ a < b:=by
  show -b < -a ↔ a < b
  constructor<;>intro h<;>grind
 by_cases h2:a < b
 ·rw [if_pos h2,if_pos (h.2 h2)]
 ·rw [if_neg h2,if_neg fun h3=>h2 (h.1 h3)]
set_option maxHeartbeats 4000000 in
theorem GA (t:Bool) (r:Rn) (b:Option Addr) (l:List Spn) (d:Nat) (ka:Option Addr) (kc:Nat) (w:World) (hB:aN w b l) (hf:∀ s∈l,fewS s) (hR:∀ s∈l,aQ s) (hK:aE w ka 2 ((aD r l).map hoV)) (hn:(aD r l).length<=100000) (hT:∀ c,c < (aD r l).length->0 < aT r l c/\aT r l c<=1402560) (h1:0<=r.lo/\r.lo<=1000) (h2:0<=r.hi/\r.hi<=1000) :
  CR 48 #[rnA r,.slice b l.length d,.slice ka (aD r l).length kc,.bool t] w (qA (rQ (sL t l r))):=by
 have hcat:=fun c h=>iH (r:=r) (l:=l) (c:=c) h
 have hclt:∀ c,c < (aD r l).length->aG r l c < l.length:=fun c h=>by
  have h1:=List.mem_of_getElem? (iH h);rcases lT.1 h1 with ⟨i,s,h2,_,h3⟩|⟨_,h3⟩
  ·have h4:=(List.getElem?_eq_some_iff.1 h2).1
   have:aG r l c=(i:Int):=congrArg Prod.fst h3;omega
  ·have:aG r l c=-1:=congrArg Prod.fst h3
   omega
 have hg:∀ c,aH 140 (rQ (gV t l r c)):=fun c=>C5 hf hR h1 h2
 have hgv:sL t l r=rS' (fun c=>(aT r l c:Rat)*gV t l r c) (aD r l).length:=rfl
 rw [hgv];have hra:∀ c,c < (aD r l).length->∀ w',Below w.heap.size w w'->CR 94 #[.slice b l.length d,.agg #[.int .i64 (aG r l c),.int .i64 (aT r l c)],.int .i64 r.lo] w' (qA (rQ (aS l (aG r l c) r.lo))):=fun c h w' hb=>rA _ _ _ b l d w' (hB.below hb) hf hR (hclt c h) h1
 have hrb:∀ c,c < (aD r l).length->∀ w',Below w.heap.size w w'->CR 94 #[.slice b l.length d,.agg #[.int .i64 (aG r l c),.int .i64 (aT r l c)],.int .i64 r.hi] w' (qA (rQ (aS l (aG r l c) r.hi))):=fun c h w' hb=>rA _ _ _ b l d w' (hB.below hb) hf hR (hclt c h) h2
 have hmn:=fun c=>Pl (x:=aS l (aG r l c) r.lo) (y:=aS l (aG r l c) r.hi) (aH.big (dH hf hR h1) dc) (aH.big (dH hf hR h2) dc)
 have hmx:=fun c=>Pm (x:=aS l (aG r l c) r.lo) (y:=aS l (aG r l c) r.hi) (aH.big (dH hf hR h1) dc) (aH.big (dH hf hR h2) dc)
 have hmn:∀ c,_:=fun c w'=>(KY _ _) ▸ hmn c w'
 have hmx:∀ c,_:=fun c w'=>(KZ _ _) ▸ hmx c w'
 have hgc:∀ c,gV t l r c=qL t (aS l (aG r l c) r.lo) (aS l (aG r l c) r.hi):=fun _=>rfl
 clear hB hf hR h1 h2 hgv;unfold rnA;have hq0:qW 0=[.bool false,.string (bs []),.string (bs [])]:=qW0;refine aB [(0,.agg #[.int .i64 r.from_,.int .i64 r.to_,.slice r.adr r.tab.length r.cap,.int .i64 r.lo,.int .i64 r.hi]),(1,.slice b l.length d),(2,.slice ka (aD r l).length kc),(3,.bool t)] Tryz.func48 Tryz.ntmps48 ?_;all_goals (refine go ?_;and_intros<;>first|exact trivial|repeat first|intro(Bk:Nat)|intro h)
 rename_i B4 B8;obtain ⟨B9,rfl⟩:∃ x,x=Bk:=⟨_,rfl⟩;refine J.loop (c:=_) ((0,0):Nat×Rat) (fun x=>(aD r l).length-x.1) (fun x=>[(1,.slice b l.length d),(2,.slice ka (aD r l).length kc),(3,.bool t),(4,.pointer (some ⟨B4,0,none⟩)),(8,.pointer (some ⟨B8,0,none⟩)),(9,.pointer (some ⟨B9,0,none⟩)),(10,.int .i64 x.1)]) (fun x=>[.blk B9 25 (qW x.2) 3,.blk B8 25 [.bool false,.string (bs []),.string (bs [])] 3,.blk B4 67 [.int .i64 r.from_,.int .i64 r.to_,.slice r.adr r.tab.length r.cap,.int .i64 r.lo,.int .i64 r.hi] 5]) (fun x=>x.1<=(aD r l).length/\x.2=rS' (fun c=>(aT r l c:Rat)*gV t l r c) x.1/\aH (8+300*x.1) (rQ x.2)) ?_ sbT sbL ?_
 ·exact ⟨Nat.zero_le _,rfl,dX⟩
 intro ⟨c,s⟩ ⟨hcn,hs,hsf⟩ ihc;dsimp only at hcn hs hsf ⊢;by_cases hcc:c < (aD r l).length
 ·obtain ⟨kb,ko,rfl,hrow⟩:=aE.all hK om
  have hrc:=hrow c hcc;rw [(List.getElem?_eq_some_iff.1 (hcat c hcc)).2] at hrc;dsimp only [hoV] at hrc;have hTc:=hT c hcc;have hra:=hra c hcc;have hrb:=hrb c hcc;have hmn:=hmn c;have hmx:=hmx c;have hgc:=hgc c;have hgf:=hg c;have hfi:=jC (n:=aT r l c) om om;have htm:=tX (n:=aT r l c) (x:=gV t l r c) om om (aH.big hgf dc);have hfm:=fY hfi hgf dc dc;have had:=Fe (aH.big hsf om) (aH.big hfm dc);have ihc:=ihc (c+1,s+(aT r l c:Rat)*gV t l r c) ⟨hcc,by dsimp only;rw [hs,rS'],aF (eT hsf hfm om dc) (by dsimp only;omega)⟩ (by dsimp only;omega)
  dsimp only at ihc;clear hrow hcat hclt hg hK hs hsf hgf hfi hfm hT;rw [hgc] at htm had ihc;clear hgc;generalize aS l (aG r l c) r.lo=x1 at *;generalize aS l (aG r l c) r.hi=x2 at *;generalize aG r l c=p at *;generalize aT r l c=T at *;dsimp only [qW,qV] at ihc ⊢;cases t with
  | false =>
   generalize qL false x1 x2=x3 at *;generalize rQ (s+(T:Rat)*x3)=q5 at *;generalize rQ ((T:Rat)*x3)=q4 at *;generalize rQ s=q0 at *;generalize rQ x1=q1 at *;generalize rQ x2=q2 at *;generalize rQ x3=q3 at *;clear hmx;obtain ⟨n0,u0,d0⟩:=q0;obtain ⟨n1,u1,d1⟩:=q1;obtain ⟨n2,u2,d2⟩:=q2;obtain ⟨n3,u3,d3⟩:=q3;obtain ⟨n4,u4,d4⟩:=q4;obtain ⟨n5,u5,d5⟩:=q5;dsimp only [qA] at hra hrb hmn htm had ihc ⊢;repeat' first|(refine gp ?_;and_intros<;>first|exact trivial|repeat first|intro(Bk:Nat)|intro h)|(apply J.Py (.q 0 <| .q 1 <| .q 2 <| .q 3 <| .q 4 <| .q 5 <| .q 6 <| .q 7 <| .e 8 <| .r 9 <| .nil);exact Tryz.Pr;decide +kernel)|(apply G.cV (g:=94) (d:=28);rfl;rfl;exact fun w' hw=>hra w' hw.below)|(apply G.cV (g:=94) (d:=36);rfl;rfl;exact fun w' hw=>hrb w' hw.below)|(apply G.cV (g:=95);rfl;rfl;exact fun w' _=>hmn w')|(apply G.cV (g:=96);rfl;rfl;exact fun w' _=>hmx w')|(apply G.cV (g:=50);rfl;rfl;exact fun w' _=>htm w')|(apply G.cV (g:=47);rfl;rfl;exact fun w' _=>had w')
   exact J.P1 ihc
  | true =>
   generalize qL true x1 x2=x3 at *;generalize qL false x1 x2=x6 at *;generalize rQ (s+(T:Rat)*x3)=q5 at *;generalize rQ ((T:Rat)*x3)=q4 at *;generalize rQ s=q0 at *;generalize rQ x1=q1 at *;generalize rQ x2=q2 at *;generalize rQ x3=q3 at *;generalize rQ x6=q6 at *;obtain ⟨n0,u0,d0⟩:=q0;obtain ⟨n1,u1,d1⟩:=q1;obtain ⟨n2,u2,d2⟩:=q2;obtain ⟨n3,u3,d3⟩:=q3;obtain ⟨n4,u4,d4⟩:=q4;obtain ⟨n5,u5,d5⟩:=q5;obtain ⟨n6,u6,d6⟩:=q6;dsimp only [qA] at hra hrb hmn hmx htm had ihc ⊢;repeat' first|(refine gp ?_;and_intros<;>first|exact trivial|repeat first|intro(Bk:Nat)|intro h)|(apply J.Py (.q 0 <| .q 1 <| .q 2 <| .q 3 <| .q 4 <| .q 5 <| .q 6 <| .q 7 <| .e 8 <| .r 9 <| .nil);exact Tryz.Pr;decide +kernel)|(apply G.cV (g:=94) (d:=28);rfl;rfl;exact fun w' hw=>hra w' hw.below)|(apply G.cV (g:=94) (d:=36);rfl;rfl;exact fun w' hw=>hrb w' hw.below)|(apply G.cV (g:=95);rfl;rfl;exact fun w' _=>hmn w')|(apply G.cV (g:=96);rfl;rfl;exact fun w' _=>hmx w')|(apply G.cV (g:=50);rfl;rfl;exact fun w' _=>htm w')|(apply G.cV (g:=47);rfl;rfl;exact fun w' _=>had w')
   exact J.P1 ihc
 ·obtain rfl:c=(aD r l).length:=by omega
  rw [<- hs];clear ihc hs hsf hra hrb hmn hmx hgc;dsimp only [qW,qV];generalize rQ s=q0;obtain ⟨n0,u0,d0⟩:=q0;all_goals (refine go ?_;and_intros<;>first|exact trivial|repeat first|intro(Bk:Nat)|intro h)
  all_goals exact aA Tryz.func48 Tryz.results48 rfl
theorem La {t:Bool}{a g:Rat}:(sgR t a<=sgR t g) ↔ (t=false->dR (a-g)<=0)/\(t=true->0<=dR (a-g)):=by
 cases t
 ·show a<=g ↔ _
  rw [CP];constructor
  ·intro h;exact ⟨fun _=>Rat.not_lt.2 h,fun h=>by cases h⟩
  ·intro h;exact Rat.not_lt.1 (h.1 rfl)
 ·show -a<=-g ↔ _
  rw [oS];constructor
  ·intro h
   exact ⟨fun h=>(by cases h),fun _=>Rat.not_lt.2 (by grind)⟩
  ·intro h
   have:=Rat.not_lt.1 (h.2 rfl);grind
set_option maxHeartbeats 4000000 in
theorem DX (t:Bool) (r:Rn) (p:Prf) (b:Option Addr) (l:List Spn) (d:Nat) (ka:Option Addr) (kc:Nat) (w:World) (hB:aN w b l) (hf:∀ s∈l,fewS s) (hR:∀ s∈l,aQ s) (hK:aE w ka 2 ((aD r l).map hoV)) (hT:aE w r.adr 2 (r.tab.map hoV)) (hP:qS w p) (hwl:bP l r p=true) (hF:EV 20000000 p) (hn:(aD r l).length<=100000) (h0:r.tab.length≠0) (htb:r.tab.length<=100000) (hts:∀ s,s < r.tab.length->0<=tbS r s/\tbS r s<=1000) :
  CR 49 #[rnA r,.slice b l.length d,.slice ka (aD r l).length kc,prA p,.bool t] w (.bool (dJ t l r p)):=by
 obtain ⟨hw1,hw2,hw3,hw4⟩:=(nT h0).1 hwl;obtain ⟨ba,oa,hadr,hrT⟩:=aE.all hT om;obtain ⟨sb,so,hsa,hrS⟩:=aE.all hP.1 om;have hci:=nQ (t:=t) (l:=l) (r:=r) (p:=p);have hgt:∀ s c,gT l r s c=aS l (aG r l c) (tbS r s):=fun _ _=>rfl
 have hra:=fun c (hc:c < (aD r l).length) s (hs:s < r.tab.length) w' (hb:Below w.heap.size w w')=>rA (aG r l c) (aT r l c) (tbS r s) b l d w' (hB.below hb) hf hR (sC hc) (hts s hs)
 have hgf:=fun c s (hs:s < r.tab.length)=>dH (l:=l) (p:=aG r l c) hf hR (hts s hs)
 clear hB hf hR hwl hT;have hwp:∀ c,c < (aD r l).length->∃ kb ko,ka=some ⟨kb,ko,none⟩/\bG w kb (ko+c*2) [.int .i64 (aG r l c),.int .i64 (aT r l c)]:=fun c hc=>by
  obtain ⟨kb,ko,e,hrow⟩:=aE.all hK om;have h1:=hrow c hc;rw [(List.getElem?_eq_some_iff.1 (iH hc)).2] at h1;exact ⟨kb,ko,e,h1⟩
 have hcp:∀ c,c < p.cl.length->∃ cb co,p.ca=some ⟨cb,co,none⟩/\bG w cb (co+c*3) (qV (rQ (vP p c))):=fun c hc=>by
  obtain ⟨cb,co,e,hrow⟩:=aE.all hP.2 om;have h1:=hrow c hc;rw [EY hc hw4] at h1;exact ⟨cb,co,e,h1⟩
 have hrT2:∀ s,s < r.tab.length->bG w ba (oa+s*2) [.int .i64 (tbS r s),.int .i64 (tbT r s)]:=fun s h=>by
  have h1:=hrT s h;rw [show r.tab[s]=(tbS r s,tbT r s) from by rw [tbS,tbT,gD,gE h];rfl] at h1
  exact h1
 have hrS2:∀ s,s < p.st.length->bG w sb (so+s*3) (qV (rQ (uP p s))):=fun s h=>by
  have h1:=hrS s h;rw [EX h hw3] at h1;exact h1
 have hfu:∀ s,s < p.st.length->aH 20000000 (rQ (uP p s)):=fun s h=>by rw [<- EX h hw3];exact hF.1 _ (gM h)
 have hfv:∀ c,c < p.cl.length->aH 20000000 (rQ (vP p c)):=fun c h=>by rw [<- EY h hw4];exact hF.2 _ (gM h)
 clear hK hP hF hrT hrS hw3 hw4;unfold rnA prA;rw [hadr,hsa];refine aB [(0,.agg #[.int .i64 r.from_,.int .i64 r.to_,.slice (some ⟨ba,oa,none⟩) r.tab.length r.cap,.int .i64 r.lo,.int .i64 r.hi]),(1,.slice b l.length d),(2,.slice ka (aD r l).length kc),(3,.agg #[.slice (some ⟨sb,so,none⟩) p.st.length p.sc,.slice p.ca p.cl.length p.cc]),(4,.bool t)] Tryz.func49 Tryz.ntmps49 ?_;all_goals (refine go ?_;and_intros<;>first|exact trivial|repeat first|intro(Bk:Nat)|intro h)
 rename_i B5;obtain ⟨B8,rfl⟩:∃ x,x=Bk:=⟨_,rfl⟩;refine J.loop (c:=_) (0:Nat) (fun x=>r.tab.length-x) (fun x=>[(1,.slice b l.length d),(2,.slice ka (aD r l).length kc),(4,.bool t),(5,.pointer (some ⟨B5,0,none⟩)),(8,.pointer (some ⟨B8,0,none⟩)),(11,.int .i64 x)]) (fun x=>[.blk B8 63 [.slice (some ⟨sb,so,none⟩) p.st.length p.sc,.slice p.ca p.cl.length p.cc] 2,.blk B5 67 [.int .i64 r.from_,.int .i64 r.to_,.slice (some ⟨ba,oa,none⟩) r.tab.length r.cap,.int .i64 r.lo,.int .i64 r.hi] 5]) (fun x=>x<=r.tab.length/\∀ s c,s < x->c < (aD r l).length->sgR t (uP p s+vP p c)<=sgR t (gT l r s c)) ?_ sbT sbL ?_
 ·exact ⟨Nat.zero_le _,fun s c h=>absurd h (Nat.not_lt_zero _)⟩
 intro s ⟨hsn,hs⟩ ihs;by_cases hss:s < r.tab.length
 ·skip
  all_goals (refine go ?_;and_intros<;>first|exact trivial|repeat first|intro(Bk:Nat)|intro h)
  refine J.loop (c:=_) (0:Nat) (fun x=>(aD r l).length-x) (fun x=>[(1,.slice b l.length d),(2,.slice ka (aD r l).length kc),(4,.bool t),(5,.pointer (some ⟨B5,0,none⟩)),(8,.pointer (some ⟨B8,0,none⟩)),(11,.int .i64 s),(12,.int .i64 x)]) (fun x=>[.blk B8 63 [.slice (some ⟨sb,so,none⟩) p.st.length p.sc,.slice p.ca p.cl.length p.cc] 2,.blk B5 67 [.int .i64 r.from_,.int .i64 r.to_,.slice (some ⟨ba,oa,none⟩) r.tab.length r.cap,.int .i64 r.lo,.int .i64 r.hi] 5]) (fun x=>x<=(aD r l).length/\∀ c,c < x->sgR t (uP p s+vP p c)<=sgR t (gT l r s c)) ?_ sbT sbL ?_
  ·exact ⟨Nat.zero_le _,fun c h=>absurd h (Nat.not_lt_zero _)⟩
  intro c ⟨hcn,hc⟩ ihc;by_cases hcc:c < (aD r l).length
  ·clear ihs
   obtain ⟨kb,ko,rfl,hrc⟩:=hwp c hcc;obtain ⟨cb,co,hca,hrv⟩:=hcp c om;have hrs:=hrS2 s om;have hrt:=hrT2 s hss;have hsc:=La (t:=t) (a:=uP p s+vP p c) (g:=gT l r s c);have hra:=hra c hcc s hss;have h1:=hfu s om;have h2:=hfv c om;have had:=Fe (aH.big h1 dc) (aH.big h2 dc);have hcm:=KX (aH.big (eT h1 h2 dc dc) dc) (aH.big (hgf c s hss) dc);rw [<- hgt] at hra hcm;have hfin:¬ sgR t (uP p s+vP p c)<=sgR t (gT l r s c)->dJ t l r p=false:=fun hno=>by
    cases hb:dJ t l r p with
    | false=>rfl
    | true=>exact absurd (hci.1 hb h0 s c hss hcc) hno
   have ihc:=fun h=>ihc (c+1) ⟨hcc,fun c' h'=>by
    by_cases e:c'=c
    ·subst e;exact h
    ·exact hc c' om⟩ om
   rw [hca] at ihc ⊢;clear hwp hcp hrS2 hrT2 hgf hfu hfv hci hgt h1 h2 hs hc;by_cases hok:sgR t (uP p s+vP p c)<=sgR t (gT l r s c)
   ·have ihc:=ihc hok
    have hsc:=hsc.1 hok;clear hfin hok;generalize dR (uP p s+vP p c-gT l r s c)=sg at *;generalize rQ (uP p s+vP p c)=q3 at *;generalize rQ (uP p s)=q1 at *;generalize rQ (vP p c)=q2 at *;generalize rQ (gT l r s c)=q4 at *;obtain ⟨n1,u1,d1⟩:=q1;obtain ⟨n2,u2,d2⟩:=q2;obtain ⟨n3,u3,d3⟩:=q3;obtain ⟨n4,u4,d4⟩:=q4;dsimp only [qA,qV] at *;cases t with
    | false =>
     have hsg:=hsc.1 rfl;repeat' first|(refine gp ?_;and_intros<;>first|exact trivial|repeat first|intro(Bk:Nat)|intro h)|(apply J.Py (.q 0 <| .q 1 <| .q 2 <| .q 3 <| .q 4 <| .q 5 <| .q 6 <| .q 7 <| .q 8 <| .q 9 <| .q 10 <| .e 11 <| .r 12 <| .nil);exact Tryz.Pr;decide +kernel)|(apply G.cV (g:=47);rfl;rfl;exact fun w' _=>had w')|(apply G.cV (g:=94);rfl;rfl;exact fun w' hw=>hra w' hw.below)|(apply G.cV (g:=51);rfl;rfl;exact fun w' _=>hcm w')
     all_goals exact J.P1 ihc
    | true =>
     have hsg:=hsc.2 rfl;repeat' first|(refine gp ?_;and_intros<;>first|exact trivial|repeat first|intro(Bk:Nat)|intro h)|(apply J.Py (.q 0 <| .q 1 <| .q 2 <| .q 3 <| .q 4 <| .q 5 <| .q 6 <| .q 7 <| .q 8 <| .q 9 <| .q 10 <| .e 11 <| .r 12 <| .nil);exact Tryz.Pr;decide +kernel)|(apply G.cV (g:=47);rfl;rfl;exact fun w' _=>had w')|(apply G.cV (g:=94);rfl;rfl;exact fun w' hw=>hra w' hw.below)|(apply G.cV (g:=51);rfl;rfl;exact fun w' _=>hcm w')
     all_goals exact J.P1 ihc
   ·rw [hfin hok]
    clear ihc hfin;have hsc:¬ ((t=false->dR (uP p s+vP p c-gT l r s c)<=0)/\(t=true->0<=dR (uP p s+vP p c-gT l r s c))):=fun h=>hok (hsc.2 h)
    clear hok;generalize dR (uP p s+vP p c-gT l r s c)=sg at *;generalize rQ (uP p s+vP p c)=q3 at *;generalize rQ (uP p s)=q1 at *;generalize rQ (vP p c)=q2 at *;generalize rQ (gT l r s c)=q4 at *;obtain ⟨n1,u1,d1⟩:=q1;obtain ⟨n2,u2,d2⟩:=q2;obtain ⟨n3,u3,d3⟩:=q3;obtain ⟨n4,u4,d4⟩:=q4;dsimp only [qA,qV] at *;cases t with
    | false =>
     have hsg:0 < sg:=Int.not_le.1 fun h=>hsc ⟨fun _=>h,fun h=>by cases h⟩
     repeat' first|(refine gp ?_;and_intros<;>first|exact trivial|repeat first|intro(Bk:Nat)|intro h)|(apply J.Py (.q 0 <| .q 1 <| .q 2 <| .q 3 <| .q 4 <| .q 5 <| .q 6 <| .q 7 <| .q 8 <| .q 9 <| .q 10 <| .e 11 <| .r 12 <| .nil);exact Tryz.Pr;decide +kernel)|(apply G.cV (g:=47);rfl;rfl;exact fun w' _=>had w')|(apply G.cV (g:=94);rfl;rfl;exact fun w' hw=>hra w' hw.below)|(apply G.cV (g:=51);rfl;rfl;exact fun w' _=>hcm w')
     all_goals exact aA Tryz.func49 Tryz.results49 rfl
    | true =>
     have hsg:sg < 0:=Int.not_le.1 fun h=>hsc ⟨fun h=>(by cases h),fun _=>h⟩
     repeat' first|(refine gp ?_;and_intros<;>first|exact trivial|repeat first|intro(Bk:Nat)|intro h)|(apply J.Py (.q 0 <| .q 1 <| .q 2 <| .q 3 <| .q 4 <| .q 5 <| .q 6 <| .q 7 <| .q 8 <| .q 9 <| .q 10 <| .e 11 <| .r 12 <| .nil);exact Tryz.Pr;decide +kernel)|(apply G.cV (g:=47);rfl;rfl;exact fun w' _=>had w')|(apply G.cV (g:=94);rfl;rfl;exact fun w' hw=>hra w' hw.below)|(apply G.cV (g:=51);rfl;rfl;exact fun w' _=>hcm w')
     all_goals exact aA Tryz.func49 Tryz.results49 rfl
  ·obtain rfl:c=(aD r l).length:=by omega
   clear ihc;have ihs:=ihs (s+1) ⟨hss,fun s' c h1 h2=>by
    by_cases e:s'=s
    ·subst e;exact hc c h2
    ·exact hs s' c om h2⟩ om
   all_goals (refine go ?_;and_intros<;>first|exact trivial|repeat first|intro(Bk:Nat)|intro h)
   exact J.P1 ihs
 ·obtain rfl:s=r.tab.length:=by omega
  clear ihs;rw [hci.2 fun _ s c h1 h2=>hs s c h1 h2]
  all_goals (refine go ?_;and_intros<;>first|exact trivial|repeat first|intro(Bk:Nat)|intro h)
  all_goals exact aA Tryz.func49 Tryz.results49 rfl
end Go.Proofs.YtjcecdmbfmccoaaGreatDoor
