/-
  A region that draws its order and whose operations have effects: one walk in a chosen order serves every order.
-/
import Derived.Test.YtjcecdmbfmccoaaGreatDoorCW
import Derived.Test.YtjcecdmbfmccoaaGreatDoorCK
import Derived.Test.YtjcecdmbfmccoaaGreatDoorCT
import Derived.Maps.AppendAt
import Derived.OwnWalk
import Derived.Laws.MakeOwn
import Derived.Great.BuildSlice
import Derived.ProofKit
import Derived.OpenShut
import Derived.ShutString
import Derived.ChangeOld
import Derived.Below
import Derived.Carry
import Derived.Test.YtjcecdmbfmccoaaGreatDoorProg
import Derived.Test.YtjcecdmbfmccoaaGreatDoorRows
import Derived.JoinedCond
import Derived.LaidMore
import Derived.Lay
set_option linter.unusedVariables false
set_option linter.unusedSimpArgs false
set_option linter.unusedSectionVars false
namespace Go.Sl
open Go.RowKit
section
variable {P:Program}{ops:Array Oper}{Q:Act->World->Prop}{S:World->Prop}{lt:Nat->Bool}
end
variable {C:Ctx}{st:List (Nat×Value)}{M:List Row}{k:List Item}{q q':Md}{all rest:List Oper}{d:Nat}{opn:Op}{ty:TypeId}{pos:String}{after:Array Edge}{gd:Option (Nat×Bool)}
theorem J.QF {id:Nat}{l:List Oper} (n:Nat) (L:List Nat) (p:Pt) (hm:C.P.follows .mixedOrders=true)
  (hB:(decide (p.size=l.length) && (xD L l.toArray (Array.replicate l.length false) p && (Region.noSelect l.toArray && jS l)))=true)
  (h:G (.anyx n L p) C l st M (gY l p) k):J C st M (.code (.region id l.toArray true)::k):=by
 simp only [Bool.and_eq_true,decide_eq_true_eq] at hB;obtain ⟨h3,h4,h5,h6⟩:=hB;refine .mk fun a w hf hd hw=>?_
 refine Run.step (a':=a) (w':={ w with drawn:=w.drawn+1 }) (fun cs=>stepR_region_draw) ?_
 refine eR (by simpa using h6) _ _ _ ?_
 simp only [Region.schedule,hm,Bool.true_or,if_true];refine wpAny_sound _ _ _ _ _ ?_;have h7:=h.go rfl h5 (Array.replicate l.length false) (DC.start _ _) h4 a _ hf hd hw.drawn;rw [h3] at h7;exact gB (fun a w hr=>⟨rfl,hr⟩) l.toArray.size _ _ _ _ (by simpa using h7)
end Go.Sl
/-
 More operations: a slice of a slice;append;slices of the call's own.
-/
namespace Go.Sl
open Go.RowKit
variable {C:Ctx}{st:List (Nat×Value)}{M:List Row}{k:List Item}{q q':Md}{all rest:List Oper}{d:Nat}{ty:TypeId}{pos:String}{after:Array Edge}{gd:Option (Nat×Bool)}
theorem HG {w:World}{a:Option Addr}{sz c lo hi:Nat}{A:Type}{f:A->List Value}{l:List A} (h:aE w a sz (l.map f)) (h1:lo<=hi) (h2:hi<=l.length) (h3:l.length<=c) :
  aE w (oZ a c lo sz) sz (((l.drop lo).take (hi-lo)).map f):=by
 intro h0;simp only [List.length_map,List.length_take,List.length_drop] at h0;obtain ⟨b,off,rfl,hr⟩:=h (by simp;omega)
 refine ⟨b,off+lo*sz,?_,fun i cs hi=>?_⟩
 ·rw [oZ,if_neg om,Option.map_some,dS,dV]
 ·have:=List.getElem?_eq_some_iff.1 hi
  obtain ⟨h4,h5⟩:=this;simp only [List.length_map,List.length_take,List.length_drop] at h4;have:=hr (lo+i) cs (by
   rw [<- h5];simp only [List.getElem_map,List.getElem_take,List.getElem_drop];rw [gE (by simp;omega)];simp)
  rwa [show off+(lo+i)*sz=off+lo*sz+i*sz by rw [Nat.add_mul];omega] at this
end Go.Sl
/-
 The arguments of a law: what their reading tells of their cells.
-/
namespace Go.Sl
open Go.RowKit Go.ChangeShapes Go.WideShapes
variable {P:Program}{T E:TypeId}
theorem Fc {A:Type}{l:List A} (h:l.length=5):∃ a b c d e,l=[a,b,c,d,e]:=by
 match l,h with
 | [a,b,c,d,e],_=>exact ⟨a,b,c,d,e,rfl⟩
section
variable {A1 A2 A3 A4 A5 A6:Type}{f1:A1->List Value}{f2:A2->List Value}{f3:A3->List Value}{f4:A4->List Value}{f5:A5->List Value}{f6:A6->List Value}{G1:World->A1->Prop}{G2:World->A2->Prop}{G3:World->A3->Prop}{G4:World->A4->Prop}{G5:World->A5->Prop}{G6:World->A6->Prop}{d1 d2 d3 d4 d5 d6:Field}{n:Nat}
theorem aK.struct5 (ht:P.underlying T=some (.struct #[d1,d2,d3,d4,d5])) (hn:P.cellsOf T=n) (hT:xF P #[d1,d2,d3,d4,d5] n=true) (h1:aK P d1.type f1 G1) (h2:aK P d2.type f2 G2) (h3:aK P d3.type f3 G3) (h4:aK P d4.type f4 G4) (h5:aK P d5.type f5 G5) :
  aK P T (fun a:A1×A2×A3×A4×A5=>f1 a.1++(f2 a.2.1++(f3 a.2.2.1++(f4 a.2.2.2.1++f5 a.2.2.2.2)))) (fun w a=>G1 w a.1/\G2 w a.2.1/\G3 w a.2.2.1/\G4 w a.2.2.2.1/\G5 w a.2.2.2.2):=.mk fun enc w fuel cs x hx=>by
 obtain ⟨hj,hl,hf⟩:=aK.struct ht hn hT hx;obtain ⟨p1,p2,p3,p4,p5,hp⟩:=Fc hl;rw [hp] at hj hf;obtain ⟨_,_,r1⟩:=hf 0 d1 p1 rfl rfl;obtain ⟨_,_,r2⟩:=hf 1 d2 p2 rfl rfl;obtain ⟨_,_,r3⟩:=hf 2 d3 p3 rfl rfl;obtain ⟨_,_,r4⟩:=hf 3 d4 p4 rfl rfl;obtain ⟨_,_,r5⟩:=hf 4 d5 p5 rfl rfl;obtain ⟨a1,rfl,g1⟩:=h1.go enc w _ _ _ r1;obtain ⟨a2,rfl,g2⟩:=h2.go enc w _ _ _ r2;obtain ⟨a3,rfl,g3⟩:=h3.go enc w _ _ _ r3;obtain ⟨a4,rfl,g4⟩:=h4.go enc w _ _ _ r4;obtain ⟨a5,rfl,g5⟩:=h5.go enc w _ _ _ r5;exact ⟨(a1,a2,a3,a4,a5),by rw [hj];simp,g1,g2,g3,g4,g5⟩
end
end Go.Sl
/-
 Numbers of every kind: wrapping sums,quotients,shifts,bits,conversions.
-/
namespace Go.Sl
open Go.RowKit
variable {C:Ctx}{st:List (Nat×Value)}{M:List Row}{k:List Item}{q q':Md}{all rest:List Oper}{d:Nat}{ty:TypeId}{pos:String}{after:Array Edge}{gd:Option (Nat×Bool)}
theorem LdV.p0 {T:TypeId} [hT:gZ C.P T 2] {b tot:Nat}{e:TypeId}{x y:Value}{r:List Value} (hm:Row.blk b e (x::y::r) tot∈M):LdV C M T ⟨b,0,none⟩ (.agg #[x,y]) :=
 LdV.agg (vs:=[x,y]) rfl ⟨aC.blk hm rfl,aC.blk hm rfl,trivial⟩
end Go.Sl
/-
 The types and functions of this seat,as the small logic of memory takes them.
-/
namespace Go.Proofs
open Go.Sl
instance:eV Tryz.prog 22:=⟨Tryz.isAgg22⟩
instance:bN Tryz.prog 38 4 1:=⟨Tryz.underlying38,Tryz.sizeOf4⟩
instance:cZ Tryz.prog 38 4 (.bool false) 1 1:=⟨Tryz.underlying38,by kernel_rfl,rfl,by decide⟩
instance:aV Tryz.prog 47 0 0:=aM (n:=1) Tryz.runUnderlying47 rfl Tryz.sizeOf22 dc rfl
instance:aV Tryz.prog 47 1 1:=aM (n:=1) Tryz.runUnderlying47 rfl Tryz.sizeOf23 dc rfl
instance:aV Tryz.prog 47 2 2:=aM (n:=1) Tryz.runUnderlying47 rfl Tryz.sizeOf31 dc rfl
instance:aV Tryz.prog 71 0 0:=aM (n:=1) Tryz.runUnderlying71 rfl Tryz.sizeOf3 dc rfl
instance:aV Tryz.prog 71 1 1:=aM (n:=1) Tryz.runUnderlying71 rfl Tryz.sizeOf3 dc rfl
instance:dN Tryz.prog 71 [.int .i64 0,.int .i64 0] [(0,1),(1,1)]:=⟨fun parts out w h=>by simp [Instr.build,Tryz.zeroValue71,Tryz.runUnderlying71,Tryz.sizeOf3,Value.cells,h]⟩
instance:Fun Tryz.prog 9:=⟨Tryz.call9⟩
instance:Fun Tryz.prog 10:=⟨Tryz.call10⟩
instance:Fun Tryz.prog 19:=⟨Tryz.call19⟩
instance:Fun Tryz.prog 29:=⟨Tryz.call29⟩
instance:Fun Tryz.prog 31:=⟨Tryz.call31⟩
instance:Fun Tryz.prog 32:=⟨Tryz.call32⟩
instance:Fun Tryz.prog 71:=⟨Tryz.call71⟩
instance:Fun Tryz.prog 72:=⟨Tryz.call72⟩
end Go.Proofs
/-
 Structs of a bool and two strings that are compared;bools that are compared;calls of method values.
-/
namespace Go.Sl
open Go.RowKit Go.Num
variable {C:Ctx}{st:List (Nat×Value)}{M:List Row}{k:List Item}{q q':Md}{all rest:List Oper}{d:Nat}{opn:Op}{ty:TypeId}{pos:String}{after:Array Edge}{gd:Option (Nat×Bool)}
theorem G.neR {T:TypeId}{x y:Operand}{yt:TypeId} (a b:Q3) (hx:evS st x=some (qA a)) (hy:evS st y=some (qA b)) [hT:Ji C.P T] (hs:bA all st gd d C.N q.calm=some q') (h1:a=b->G q' C all ((d,.bool false)::st) M rest k) (h2:a≠b->G q' C all ((d,.bool true)::st) M rest k) :
  G q C all st M ({ dst:=some d,op:=.binOp .neq T x y yt,type:=ty,pos,after,guard:=gd }::rest) k:=by
 obtain ⟨g1,g2,g3⟩:=aJ hs;refine G.PC (p:=¬ a=b) (OpV.of fun ac w hf _ dst pos after guard=>?_) g1 rfl g2 g3 h2 (fun h=>h1 (Decidable.not_not.1 h))
 have e:(binOp .neq T (qA a) (qA b)).run C.P w=.ok (.bool (decide (¬ a=b))) w:=by
  show ((Op.equal T _ _).bind fun b=>Sem.pure (Value.bool (!b))).run C.P w=_
  rw [Sem.run_bind',hT.h,pM,decide_not];rfl
 simp only [execOp,hf.eval hx,hf.eval hy,Sem.run_bind,tB,e,Result.andThen_ok];rfl
end Go.Sl
/-
 A slice with all three bounds;an append that keeps the slice's form.
-/
namespace Go.Sl
open Go.RowKit Go.Proofs
variable {C:Ctx}{st:List (Nat×Value)}{M:List Row}{k:List Item}{q q':Md}{all rest:List Oper}{d:Nat}{ty:TypeId}{pos:String}{after:Array Edge}{gd:Option (Nat×Bool)}
theorem G.QV {C:Ctx}{st:List (Nat×Value)}{M:List Row}{k:List Item}{q q':Md}{all rest:List Oper}{d:Nat}{pos:String}{after:Array Edge}{gd:Option (Nat×Bool)}{T ty' E bytes size n m c base:Nat}{z v:Value}{x y:Operand}{a:Option Addr}{xs news cs:List Value}{F:Row->List Row}
  (hs:bA all st gd d C.N q.res=some q') (hx:evS st x=some v) (hy:evS st y=some (.slice a m c)) (hm:RAt (.own base v E size n xs) M F) [hT:cZ C.P T E z size bytes] (hsrc:cB C M a m size news) (hcs:xs++news=cs) (hb:(n+m)*bytes<=140737488355328) (hnm:n+m<=9223372036854775807)
  (h:∀ a' c',G q' C all ((d,.slice a' (n+m) c')::st) (F (.own 0 (.slice a' (n+m) c') E size (n+m) cs)) rest k) :
  G q C all st M ({ dst:=some d,op:=.call { callee:=.builtin .append,args:=#[x,y],argTypes:=#[T,T] },type:=ty',pos,after,guard:=gd }::rest) k:=by
 obtain ⟨g1,g2,g3⟩:=aJ hs;obtain ⟨i,hi,h6⟩:=hm.idx;subst hcs;refine G.res g1 rfl g3 (Eff.val g2 fun ac w hf hw=>?_)
 obtain ⟨v',w',h1,h2⟩:=lG (T:=T) (dst:=some d) (ty':=ty') (pos:=pos) (after:=after) (gd:=gd) hf hw hx hi hy hsrc hb hnm;have hlt:i < M.length:=(List.getElem?_eq_some_iff.1 hi).1;have hown:w'.ownsRow 0 E size v' (n+m) (xs++news):=h2.hold _ (List.mem_of_getElem? (List.getElem?_set_self hlt))
 have:∃ a' c',v'=.slice a' (n+m) c':=by
  generalize n+m=u at hown ⊢;obtain ⟨-,hv⟩:=hown;rcases hv with ⟨h0,rfl⟩|⟨g,cap,cur,h0,-⟩
  ·exact ⟨none,0,h0⟩
  ·exact ⟨_,_,h0⟩
 obtain ⟨a',c',rfl⟩:=this;exact ⟨_,w',_,h1,h2,h6 _ ▸ h a' c'⟩
end Go.Sl
/-
 How arguments read: what all chapters share.
-/
namespace Go.Proofs.YtjcecdmbfmccoaaGreatDoor
open Go.RowKit Go.Sl Go.Num Go.ChangeShapes Go.WideShapes
theorem DT:laidOutB Tryz.prog=true:=by kernel_rfl
theorem mA:aK Tryz.prog 3 isV (fun _ _=>True):=(aK.int Tryz.underlying3).mono fun _ _ _=>trivial
abbrev vN:List (String×DataW Unit):=[("unicode/utf8.acceptRanges",Rows.laid_unicode_utf8_acceptRanges),("unicode/utf8.first",Rows.laid_unicode_utf8_first)]
theorem rU8:aK Tryz.prog 5 (fun n:Nat=>[.int .u8 n]) (fun _ n=>n<=255):=(aK.int Tryz.underlying5).turn fun _ n h=>by
 have h2:0<=n/\n<=255:=by rw [Lit.wf,Bool.and_eq_true,decide_eq_true_eq,decide_eq_true_eq] at h;exact h
 exact ⟨n.toNat,by rw [Int.toNat_of_nonneg h2.1],by omega⟩
end Go.Proofs.YtjcecdmbfmccoaaGreatDoor
/-
 Calls that lay rows;rows brought to the front;what later chapters share.
-/
namespace Go.Sl
open Go.RowKit
variable {C:Ctx}{st:List (Nat×Value)}{M:List Row}{k:List Item}{q q':Md}{all rest:List Oper}{d:Nat}{opn:Op}{ty:TypeId}{pos:String}{after:Array Edge}{gd:Option (Nat×Bool)}
end Go.Sl
namespace Go.Sl
end Go.Sl
namespace Go.Sl
open Go.RowKit
end Go.Sl
namespace Go.Sl
open Go.RowKit Go.ChangeShapes Go.WideShapes
theorem KS {A:Type}{l:List A} (h:l.length=1):∃ a,l=[a]:=by
 match l,h with
 | [a],_=>exact ⟨a,rfl⟩
theorem aK.struct1 {P:Program}{T:TypeId}{A1:Type}{f1:A1->List Value}{G1:World->A1->Prop}{d1:Field}{n:Nat} (ht:P.underlying T=some (.struct #[d1])) (hn:P.cellsOf T=n) (hT:xF P #[d1] n=true) (h1:aK P d1.type f1 G1) :
  aK P T f1 G1:=.mk fun enc w fuel cs x hx=>by
 obtain ⟨hj,hl,hf⟩:=aK.struct ht hn hT hx;obtain ⟨p1,hp⟩:=KS hl;rw [hp] at hj hf;obtain ⟨_,_,r1⟩:=hf 0 d1 p1 rfl rfl;obtain ⟨a1,rfl,g1⟩:=h1.go enc w _ _ _ r1;exact ⟨a1,by rw [hj];simp,g1⟩
end Go.Sl
namespace Go.Sl
open Go.RowKit
variable {C:Ctx}{st:List (Nat×Value)}{M:List Row}{k:List Item}{q q':Md}{all rest:List Oper}{d:Nat}{opn:Op}{ty:TypeId}{pos:String}{after:Array Edge}{gd:Option (Nat×Bool)}
section
variable {A:Type}{f:A->List Value}{sz:Nat}{adr:A->Option Addr}{sz2:Nat}{F2:A->List (List Value)}
end
end Go.Sl
/-
 Contracts: few spans,the span of a tick,its worth.
-/
namespace Go.Proofs.YtjcecdmbfmccoaaGreatDoor
open Go.RowKit Go.Sl Go.Num
theorem kK (a:Option Addr) (l:List Pnt) (c:Nat) (w:World) (hA:aE w a 4 (l.map ptV)) :
  CR 72 #[.agg #[.slice a l.length c]] w (.bool (decide (iK l))):=by
 refine aB [(0,.agg #[.slice a l.length c])] Tryz.func72 Tryz.ntmps72 ?_;by_cases hl:20 < l.length
 ·rw [dF (fun h=>absurd h.1 om)]
  all_goals (refine go ?_;and_intros<;>first|exact trivial|repeat first|intro(Bk:Nat)|intro h)
  all_goals exact aA Tryz.func72 Tryz.results72 rfl
 all_goals (refine go ?_;and_intros<;>first|exact trivial|repeat first|intro(Bk:Nat)|intro h)
 refine J.loop (c:=_) (0:Nat) (fun s=>l.length-s) (fun s=>[(1,.pointer (some ⟨_,0,none⟩)),(3,.int .i64 s)]) (fun s=>[.blk _ 117 [.slice a l.length c] 1]) (fun s=>s<=l.length/\∀ i (h:i < l.length),i < s->aH 12 l[i].2) ?_ sbT sbL ?_
 ·exact ⟨Nat.zero_le _,fun i h h2=>absurd h2 (Nat.not_lt_zero _)⟩
 intro k ⟨h1,h2⟩ ih;by_cases hk:k < l.length
 ·obtain ⟨ba,oa,rfl,hra⟩:=aE.all hA om
  have hr:=hra k hk;by_cases hq:aH 12 l[k].2
  ·have h2:∀ i (h:i < l.length),i < k+1->aH 12 l[i].2:=fun i h h3=>by
    rcases Nat.lt_or_ge i k with h4|h4
    ·exact h2 i h h4
    ·obtain rfl:i=k:=by omega
     exact hq
   obtain ⟨hq1,hq2⟩:=hq;generalize l[k]=p at *;obtain ⟨s,p⟩:=p;dsimp only [ptV] at *;all_goals (refine go ?_;and_intros<;>first|exact trivial|repeat first|intro(Bk:Nat)|intro h)
   exact J.fin (ih (k+1) ⟨hk,h2⟩ om)
  ·rw [dF (fun h=>hq (h.2 _ (gM hk)))]
   rw [aH] at hq;generalize l[k]=p at *;obtain ⟨s,p⟩:=p;dsimp only [ptV] at *;all_goals (refine go ?_;and_intros<;>first|exact trivial|repeat first|intro(Bk:Nat)|intro h)
   all_goals exact aA Tryz.func72 Tryz.results72 rfl
 ·rw [dT ⟨by omega,fun p hp=>by
   obtain ⟨i,h3,rfl⟩:=List.getElem_of_mem hp;exact h2 i h3 om⟩]
  all_goals (refine go ?_;and_intros<;>first|exact trivial|repeat first|intro(Bk:Nat)|intro h)
  all_goals exact aA Tryz.func72 Tryz.results72 rfl
theorem wZ (a:Option Addr) (l:List Spn) (c most:Nat) (w:World) (hA:aN w a l) :
  CR 32 #[.slice a l.length c,.int .i64 most] w (.bool (decide (kH most l))):=by
 refine aB [(0,.slice a l.length c),(1,.int .i64 most)] Tryz.func32 Tryz.ntmps32 ?_;by_cases hl:most < l.length/\l.length<=400∨410 < l.length
 ·rw [dF (fun h=>h.1 hl)]
  all_goals (refine go ?_;and_intros<;>first|exact trivial|repeat first|intro(Bk:Nat)|intro h)
  all_goals exact aA Tryz.func32 Tryz.results32 rfl
 all_goals (refine go ?_;and_intros<;>first|exact trivial|repeat first|intro(Bk:Nat)|intro h)
 all_goals
  refine J.loop (c:=_) (0:Nat) (fun s=>l.length-s) (fun s=>[(0,.slice a l.length c),(5,.int .i64 s)]) (fun s=>[]) (fun s=>s<=l.length/\∀ i (h:i < l.length),i < s->wH l[i]) ?_ sbT sbL ?_
  ·exact ⟨Nat.zero_le _,fun i h h2=>absurd h2 (Nat.not_lt_zero _)⟩
  intro k ⟨h1,h2⟩ ih;by_cases hk:k < l.length
  ·obtain ⟨ba,oa,rfl,hra⟩:=aE.all hA.1 om
   have hr:=hra k hk;have hp:=hA.2 _ (gM hk);have hc:=fun w' (hb:Below w.heap.size w w')=>kK l[k].adr l[k].pts l[k].cap w' (aE.below hp hb)
   have h2:wH l[k]->∀ i (h:i < l.length),i < k+1->wH l[i]:=fun hq i h h3=>by
    rcases Nat.lt_or_ge i k with h4|h4
    ·exact h2 i h h4
    ·obtain rfl:i=k:=by omega
     exact hq
   have h3:¬ wH l[k]->decide (kH most l)=false:=fun hq=>dF (fun h=>hq (h.2 _ (gM hk)))
   generalize l[k]=s at *;obtain ⟨f,t,wt,dt,pts,adr,cap⟩:=s;dsimp only [spV,wH] at *;by_cases hq:iK pts
   ·rw [dT hq] at hc
    by_cases hq2:aH 40 wt
    ·have h2:=h2 ⟨hq,hq2⟩
     obtain ⟨q1,q2⟩:=hq2;repeat' first|(refine gp ?_;and_intros<;>first|exact trivial|repeat first|intro(Bk:Nat)|intro h)|(apply G.cV (g:=72);rfl;rfl;exact fun w' hw=>hc w' hw.below)
     exact J.fin (ih (k+1) ⟨hk,h2⟩ om)
    ·rw [h3 (fun e=>hq2 e.2)]
     rw [aH] at hq2;repeat' first|(refine gp ?_;and_intros<;>first|exact trivial|repeat first|intro(Bk:Nat)|intro h)|(apply G.cV (g:=72);rfl;rfl;exact fun w' hw=>hc w' hw.below)
     all_goals exact aA Tryz.func32 Tryz.results32 rfl
   ·rw [dF hq] at hc
    rw [h3 (fun e=>hq e.1)]
    repeat' first|(refine gp ?_;and_intros<;>first|exact trivial|repeat first|intro(Bk:Nat)|intro h)|(apply G.cV (g:=72);rfl;rfl;exact fun w' hw=>hc w' hw.below)
    all_goals exact aA Tryz.func32 Tryz.results32 rfl
  ·rw [dT ⟨hl,fun p hp=>by
    obtain ⟨i,h3,rfl⟩:=List.getElem_of_mem hp;exact h2 i h3 om⟩]
   all_goals (refine go ?_;and_intros<;>first|exact trivial|repeat first|intro(Bk:Nat)|intro h)
   all_goals exact aA Tryz.func32 Tryz.results32 rfl
theorem Fg {P:Program}{w w':World}{E size:Nat}{v:Value->Value} (hb:Below w.heap.size w w'):Ft P w E size 0 [] v (.returned (v (.slice none 0 0))) w':=⟨_,rfl,⟨by simp,.inl ⟨rfl,rfl⟩⟩,hb⟩
def Fh (x y:Int):Prop:=x < 0∨y < x∨1402560 < y
instance (x y:Int):Decidable (Fh x y):=by unfold Fh;exact inferInstance
def BR (x y:Int) (l:List Spn):List Spn×Int:=if aZ l≠0 then ([],aZ l) else if Fh x y then ([],3) else (eP x y l,0)
theorem tV (a:Option Addr) (l:List Rn) (c m t:Nat) (w:World) (hA:aW w a l) (hm:m<=1000) :
  CR 31 #[.slice a l.length c,.int .i64 m,.int .i64 t] w (.bool (decide (jE m t l))):=by
 refine aB [(0,.slice a l.length c),(1,.int .i64 m),(2,.int .i64 t)] Tryz.func31 Tryz.ntmps31 ?_;by_cases hl:m < l.length
 ·rw [dF (fun h=>absurd h.1 om)]
  all_goals (refine go ?_;and_intros<;>first|exact trivial|repeat first|intro(Bk:Nat)|intro h)
  all_goals exact aA Tryz.func31 Tryz.results31 rfl
 all_goals (refine go ?_;and_intros<;>first|exact trivial|repeat first|intro(Bk:Nat)|intro h)
 refine J.loop (c:=_) (0:Nat) (fun s=>l.length-s) (fun s=>[(0,.slice a l.length c),(2,.int .i64 t),(7,.int .i64 s)]) (fun s=>[]) (fun s=>s<=l.length/\∀ i (h:i < l.length),i < s->l[i].tab.length<=20) ?_ sbT sbL ?_
 ·exact ⟨Nat.zero_le _,fun i h h2=>absurd h2 (Nat.not_lt_zero _)⟩
 intro k ⟨h1,h2⟩ ih;by_cases hk:k < l.length
 ·obtain ⟨ba,oa,rfl,hra⟩:=aE.all hA.1 om
  have hr:=hra k hk;have h2:l[k].tab.length<=20->∀ i (h:i < l.length),i < k+1->l[i].tab.length<=20:=fun hq i h h3=>by
   rcases Nat.lt_or_ge i k with h4|h4
   ·exact h2 i h h4
   ·obtain rfl:i=k:=by omega
    exact hq
  have h3:¬ l[k].tab.length<=20->decide (jE m t l)=false:=fun hq=>dF (fun h=>hq (h.2.1 _ (gM hk)))
  generalize l[k]=s at *;obtain ⟨f,u,tab,adr,cap,lo,hi⟩:=s;dsimp only [rnV] at *;by_cases hq:tab.length<=20
  ·have h2:=h2 hq
   all_goals (refine go ?_;and_intros<;>first|exact trivial|repeat first|intro(Bk:Nat)|intro h)
   exact J.fin (ih (k+1) ⟨hk,h2⟩ om)
  ·rw [h3 hq]
   all_goals (refine go ?_;and_intros<;>first|exact trivial|repeat first|intro(Bk:Nat)|intro h)
   all_goals exact aA Tryz.func31 Tryz.results31 rfl
 clear ih;have h2:∀ r∈l,r.tab.length<=20:=fun p hp=>by
  obtain ⟨i,h3,rfl⟩:=List.getElem_of_mem hp;exact h2 i h3 om
 have hc:=fun w' (hb:Below w.heap.size w w')=>mK a l c w' (hA.below hb) (fun r hr=>Nat.le_trans (h2 r hr) dc)
 have hF:jE m t l ↔ (aX l≠0∨l.length=0∨pA l<=t):=⟨fun h=>h.2.2,fun h=>⟨by omega,h2,h⟩⟩
 by_cases he:aX l=0
 ·have ⟨_,k2,k3⟩:=jQ he
  rw [he] at hc;rcases Nat.eq_zero_or_pos l.length with h0|h0
  ·rw [dT (hF.2 (.inr (.inl h0)))]
   repeat' first|(refine gp ?_;and_intros<;>first|exact trivial|repeat first|intro(Bk:Nat)|intro h)|(apply G.cV (g:=71);rfl;rfl;exact fun w' hw=>hc w' hw.below)
   all_goals exact aA Tryz.func31 Tryz.results31 rfl
  ·obtain ⟨ba,oa,rfl,hra⟩:=aE.all hA.1 om
   have r1:=hra 0 h0;have r2:=hra (l.length-1) om;have i1:=k2 _ (gM h0);have i2:=k2 _ (gM (show l.length-1 < l.length by omega))
   have hz:(l.length:Int)-1=((l.length-1:Nat):Int):=by omega
   have hL:pA l=l[l.length-1].to_-l[0].from_:=by rw [pA,gE h0,gE (show l.length-1 < l.length by omega)]
   rw [inT,decide_eq_true_eq] at i1 i2;by_cases ht:pA l<=t
   ·rw [dT (hF.2 (.inr (.inr ht)))]
    rw [hL] at ht;clear hL hF k2 h2;generalize l[0]=x at *;generalize l[l.length-1]=y at *;obtain ⟨f,u,tab,adr,cap,lo,hi⟩:=x;obtain ⟨f2,u2,tab2,adr2,cap2,lo2,hi2⟩:=y;dsimp only [rnV] at *;repeat' first|(refine gp ?_;and_intros<;>first|exact trivial|repeat first|intro(Bk:Nat)|intro h)|(apply G.cV (g:=71);rfl;rfl;exact fun w' hw=>hc w' hw.below)|(apply G.ix;rfl;rfl;exact hz;omega;rfl)|(apply G.ix (i:=0);rfl;rfl;exact rfl;omega;rfl)
    all_goals exact aA Tryz.func31 Tryz.results31 rfl
   ·rw [dF (fun h=>by rcases hF.1 h with h|h|h;exact h he;omega;exact ht h)]
    rw [hL] at ht;clear hL hF k2 h2;generalize l[0]=x at *;generalize l[l.length-1]=y at *;obtain ⟨f,u,tab,adr,cap,lo,hi⟩:=x;obtain ⟨f2,u2,tab2,adr2,cap2,lo2,hi2⟩:=y;dsimp only [rnV] at *;repeat' first|(refine gp ?_;and_intros<;>first|exact trivial|repeat first|intro(Bk:Nat)|intro h)|(apply G.cV (g:=71);rfl;rfl;exact fun w' hw=>hc w' hw.below)|(apply G.ix;rfl;rfl;exact hz;omega;rfl)|(apply G.ix (i:=0);rfl;rfl;exact rfl;omega;rfl)
    all_goals exact aA Tryz.func31 Tryz.results31 rfl
 ·rw [dT (hF.2 (.inl he))]
  generalize aX l=E at *;repeat' first|(refine gp ?_;and_intros<;>first|exact trivial|repeat first|intro(Bk:Nat)|intro h)|(apply G.cV (g:=71);rfl;rfl;exact fun w' hw=>hc w' hw.below)
  all_goals exact aA Tryz.func31 Tryz.results31 rfl
theorem BB (a:Option Addr) (l:List Spn) (c:Nat) (x y:Int) (w:World) (hA:aN w a l) (hf:∀ s∈l,fewS s) :
  Calls Tryz.prog 29 #[.slice a l.length c,.agg #[.int .i64 x,.int .i64 y]] w (Ft Tryz.prog w 119 7 (BR x y l).1.length (flat spV (BR x y l).1) (fun u=>.tuple #[u,.int .i64 (BR x y l).2])):=by
 have hc:=fun w' (hb:Below w.heap.size w w')=>lN a l c w' (hA.below hb) hf
 rw [BR];by_cases h1:aZ l=0
 ·rw [if_neg (fun e=>e h1)]
  have ⟨k1,_⟩:=cT h1;rw [h1] at hc;by_cases h2:Fh x y
  ·rw [if_pos h2]
   rw [Fh] at h2;refine aB [(0,.slice a l.length c),(1,.agg #[.int .i64 x,.int .i64 y])] Tryz.func29 Tryz.ntmps29 ?_;all_goals (refine go ?_;and_intros<;>(try exact trivial)<;>intros)
   repeat' ((first|(apply G.cV (g:=58);rfl;rfl;exact fun w' hw=>hc w' hw.below))<;>(refine go ?_;and_intros<;>(try exact trivial)<;>intros))
   all_goals
    (refine sK Tryz.func29 Tryz.results29 ?_;intro w' hw)
    exact Fg hw.below
  ·rw [if_neg h2]
   rw [Fh] at h2;generalize hL:eP x y l=L;dsimp only;refine aB [(0,.slice a l.length c),(1,.agg #[.int .i64 x,.int .i64 y])] Tryz.func29 Tryz.ntmps29 ?_;all_goals (refine go ?_;and_intros<;>(try exact trivial)<;>intros)
   repeat' ((first|(apply G.cV (g:=58);rfl;rfl;exact fun w' hw=>hc w' hw.below))<;>(refine go ?_;and_intros<;>(try exact trivial)<;>intros))
   apply J.nilOwn (E:=119) (size:=7);refine J.loop (c:=_) ((0,0,.slice none 0 0,[]):Nat×Nat×Value×List Spn) (fun s=>l.length-s.1) (fun s=>[(3,.pointer (some ⟨_,0,none⟩)),(7,s.2.2.1),(30,.slice a l.length c),(31,.int .i64 l.length),(32,.int .i64 s.1)]) (fun s=>[.own 0 s.2.2.1 119 7 s.2.1 (flat spV s.2.2.2),.blk _ 71 [.int .i64 x,.int .i64 y] 2]) (fun s=>s.1<=l.length/\s.2.1<=s.1/\s.2.2.2++eP x y (l.drop s.1)=L/\s.2.2.2.length=s.2.1) ?_ sbT sbL ?_
   ·exact ⟨Nat.zero_le _,Nat.zero_le _,hL,rfl⟩
   clear hL;intro ⟨k,j,u,o⟩ ⟨h3,h4,h5,h6⟩ ih;dsimp only at h3 h4 h5 h6 ⊢;by_cases hk:k < l.length
   ·obtain ⟨ba,oa,rfl,hra⟩:=aE.all hA.1 om
    have hrk:=hra k hk;rw [List.drop_eq_getElem_cons hk,eP] at h5;by_cases hlt:max l[k].from_ x < min l[k].to_ y
    ·rw [if_pos hlt,List.append_cons] at h5
     generalize l[k]=s at *;obtain ⟨f,t,wt,dt,pts,adr,cap⟩:=s;dsimp only [spV] at hrk hlt;all_goals (refine goR ?_;and_intros<;>(try exact trivial)<;>intros)
     repeat' ((first|(apply G.QP;rfl;rfl;rfl;exact ⟨rfl,rfl⟩;exact Nat.le_of_ble_eq_true rfl;rfl)|(apply J.QF 0 [7,8,9] (.q 0 <| .q 1 <| .q 2 <| .q 3 <| .q 4 <| .q 5 <| .q 6 <| .q 7 <| .q 8 <| .q 9 <| .q 10 <| .e 11 <| .q 12 <| .e 13 <| .nil);exact Tryz.Pr;decide +kernel)|(apply G.Pu;rfl;rfl;rfl;rfl;rfl;rfl;rfl;rfl;intro Bs)|(apply G.ap;rfl;rfl;rfl;(repeat (first|exact RAt.head|apply RAt.tail));exact cB.blk (by exact mm) rfl rfl;exact jV spV o (J0 x y ⟨f,t,wt,dt,pts,adr,cap⟩);omega;omega;intro v2)|(apply J.Pz;exact Tryz.Pr;decide +kernel)|(apply J.P3;exact Tryz.Pr;decide +kernel))<;>(refine goR ?_;and_intros<;>(try exact trivial)<;>intros))
     exact J.fin (ih (k+1,j+1,v2,o++[J0 x y ⟨f,t,wt,dt,pts,adr,cap⟩]) ⟨hk,by dsimp only;omega,h5,by simp [h6]⟩ (by dsimp only;omega))
    ·rw [if_neg hlt] at h5
     generalize l[k]=s at *;obtain ⟨f,t,wt,dt,pts,adr,cap⟩:=s;dsimp only [spV] at hrk hlt;all_goals (refine goR ?_;and_intros<;>(try exact trivial)<;>intros)
     repeat' ((first|(apply G.QP;rfl;rfl;rfl;exact ⟨rfl,rfl⟩;exact Nat.le_of_ble_eq_true rfl;rfl)|(apply J.QF 0 [7,8,9] (.q 0 <| .q 1 <| .q 2 <| .q 3 <| .q 4 <| .q 5 <| .q 6 <| .q 7 <| .q 8 <| .q 9 <| .q 10 <| .e 11 <| .q 12 <| .e 13 <| .nil);exact Tryz.Pr;decide +kernel)|(apply J.Pz;exact Tryz.Pr;decide +kernel)|(apply J.P3;exact Tryz.Pr;decide +kernel))<;>(refine goR ?_;and_intros<;>(try exact trivial)<;>intros))
     exact J.fin (ih (k+1,j,u,o) ⟨hk,by dsimp only;omega,h5,h6⟩ (by dsimp only;omega))
   ·rw [show k=l.length by omega,List.drop_length,eP,List.append_nil] at h5
    subst h5 h6;all_goals (refine go ?_;and_intros<;>(try exact trivial)<;>intros)
    (refine sK Tryz.func29 Tryz.results29 ?_;intro w' hw)
    exact hw.retO (i:=0) rfl (fun u=>.tuple #[u,.int .i64 0])
 ·rw [if_pos h1]
  generalize aZ l=E at *;refine aB [(0,.slice a l.length c),(1,.agg #[.int .i64 x,.int .i64 y])] Tryz.func29 Tryz.ntmps29 ?_;all_goals (refine go ?_;and_intros<;>(try exact trivial)<;>intros)
  repeat' ((first|(apply G.cV (g:=58);rfl;rfl;exact fun w' hw=>hc w' hw.below))<;>(refine go ?_;and_intros<;>(try exact trivial)<;>intros))
  (refine sK Tryz.func29 Tryz.results29 ?_;intro w' hw)
  exact Fg hw.below
theorem HH {x y:Int}:∀ {l:List Spn},∀ s∈eP x y l,∃ s0∈l,s.adr=s0.adr/\s.pts=s0.pts
 | [],s,h=>by cases h
 | s0::l,s,h=>by
  rw [eP] at h
  have key:s∈eP x y l->∃ s1∈s0::l,s.adr=s1.adr/\s.pts=s1.pts:=fun h=>let ⟨s1,h1,h2⟩:=HH s h;⟨s1,mC s0 h1,h2⟩
  split at h
  ·rcases List.mem_cons.1 h with rfl|h
   ·exact ⟨s0,List.mem_cons_self ..,rfl,rfl⟩
   ·exact key h
  ·exact key h
theorem Ld {w:World}{b:Option Addr}{l:List Spn}{x y:Int} (h:aN w b l):∀ s∈(BR x y l).1,lM w s:=by
 intro s hs;rw [BR] at hs;split at hs
 ·cases hs
 split at hs
 ·cases hs
 obtain ⟨s0,h1,h2,h3⟩:=HH s hs;have:=h.2 s0 h1;rw [lM] at this ⊢;rw [h2,h3];exact this
theorem BC {x y:Int}:∀ l:List Spn,(eP x y l).length<=l.length
 | []=>Nat.le_refl _
 | s::l=>by
  have:=BC (x:=x) (y:=y) l;rw [eP];split<;>simp only [List.length_cons]<;>omega
end Go.Proofs.YtjcecdmbfmccoaaGreatDoor
/-
 How the arguments of the volume laws read.
-/
namespace Go.Proofs.YtjcecdmbfmccoaaGreatDoor
open Go.RowKit Go.Sl Go.Num Go.ChangeShapes Go.WideShapes
theorem G0:aK Tryz.prog 137 ptV (fun _ _=>True):=(aK.struct2 (n:=4) Tryz.underlying137 (by kernel_rfl) (by kernel_rfl) mA Jy).turn fun _ a _=>⟨a,rfl,trivial⟩
theorem DV:aK Tryz.prog 115 (fun s:Sld Pnt=>[s.v]) (fun w s=>aE w s.ad 4 (s.l.map ptV)):=(aK.slice (sz:=4) Tryz.underlying115 (by kernel_rfl) dc G0).mono fun _ _ h=>h.1
theorem G7:aK Tryz.prog 117 (fun s:Sld Pnt=>[s.v]) (fun w s=>aE w s.ad 4 (s.l.map ptV)):=aK.struct1 (n:=1) Tryz.underlying117 (by kernel_rfl) (by kernel_rfl) DV
theorem KT:aK Tryz.prog 119 spV lM:=(aK.struct5 (n:=7) Tryz.underlying119 (by kernel_rfl) (by kernel_rfl) mA mA Jy mA G7).turn fun _ a h=>⟨⟨a.1,a.2.1,a.2.2.1,a.2.2.2.1,a.2.2.2.2.l,a.2.2.2.2.ad,a.2.2.2.2.cap⟩,rfl,h.2.2.2.2⟩
theorem G8:aK Tryz.prog 23 (fun s:Sld Spn=>[s.v]) (fun w s=>aN w s.ad s.l):=(aK.slice (sz:=7) Tryz.underlying23 (by kernel_rfl) dc KT).mono fun _ _ h=>⟨h.1,h.2.2.2⟩
theorem KU:aK Tryz.prog 95 hoV (fun _ _=>True):=(aK.struct2 (n:=2) Tryz.underlying95 (by kernel_rfl) (by kernel_rfl) mA mA).turn fun _ a _=>⟨a,rfl,trivial⟩
theorem G9:aK Tryz.prog 65 (fun s:Sld (Int×Int)=>[s.v]) (fun w s=>aE w s.ad 2 (s.l.map hoV)):=(aK.slice (sz:=2) Tryz.underlying65 (by kernel_rfl) dc KU).mono fun _ _ h=>h.1
theorem Ou:aK Tryz.prog 67 rnV mJ:=(aK.struct5 (n:=5) Tryz.underlying67 (by kernel_rfl) (by kernel_rfl) mA mA G9 mA mA).turn fun _ a h=>⟨⟨a.1,a.2.1,a.2.2.1.l,a.2.2.1.ad,a.2.2.1.cap,a.2.2.2.1,a.2.2.2.2⟩,rfl,h.2.2.1⟩
end Go.Proofs.YtjcecdmbfmccoaaGreatDoor
/-
 Plain laws: the volume of cut and of scaled spans,and of the raw runs of a history.
-/
namespace Go.Proofs.YtjcecdmbfmccoaaGreatDoor
open Go.RowKit Go.Sl Go.Num
theorem CC {x y:Int} (hx:0<=x):∀ {l:List Spn},(∀ s∈l,aQ s)->∀ s∈eP x y l,aQ s
 | [],_,s,hs=>by cases hs
 | s0::l,h,s,hs=>by
  have h1:=CC (x:=x) (y:=y) hx fun t ht=>h t (mC s0 ht)
  have h2:=h s0 (List.mem_cons_self ..);rw [eP] at hs;split at hs
  ·rename_i hc
   rcases List.mem_cons.1 hs with rfl|hs
   ·refine ⟨⟨?_,hc,?_,h2.1.2.2.2⟩,h2.2⟩
    ·have:=h2.1.1;show 0<=max s0.from_ x;omega
    ·have:=h2.1.2.2.1;show min s0.to_ y<=1402560;omega
   ·exact h1 s hs
  ·exact h1 s hs
theorem DZ {x y:Int}{l:List Spn} (hx:0<=x) (h:aZ l=0):aZ (eP x y l)=0:=by
 have ⟨h1,h2⟩:=cT h;rw [aZ] at h ⊢
 rw [if_neg om] at h
 rw [if_neg (by have:=BC (x:=x) (y:=y) l;omega)]
 exact Cg.2 ⟨CC hx h2,(qB h).cut⟩
theorem HI {x y:Int}:∀ {l:List Spn},∀ s∈eP x y l,x<=s.from_/\s.to_<=y/\∃ s0∈l,s0.from_<=s.from_/\s.to_<=s0.to_
 | [],s,hs=>by cases hs
 | s0::l,s,hs=>by
  have key:s∈eP x y l->x<=s.from_/\s.to_<=y/\∃ s1∈s0::l,s1.from_<=s.from_/\s.to_<=s1.to_:=fun h=>let ⟨g1,g2,s1,g3,g4⟩:=HI s h;⟨g1,g2,s1,mC _ g3,g4⟩
  rw [eP] at hs;split at hs
  ·rcases List.mem_cons.1 hs with rfl|hs
   ·refine ⟨?_,?_,s0,List.mem_cons_self ..,?_,?_⟩
    ·show x<=max s0.from_ x;omega
    ·show min s0.to_ y<=y;omega
    ·show s0.from_<=max s0.from_ x;omega
    ·show min s0.to_ y<=s0.to_;omega
   ·exact key hs
  ·exact key hs
theorem Cn.chn:∀ {l:List Rn}{f t:Int},Cn f l t->Chn f l
 | [],_,_,_=>trivial
 | _::_,_,_,h=>⟨h.1,h.2.chn⟩
theorem M8 {l:List Rn}{f t:Int} (h:Cn f l t) (ho:∀ r∈l,OkR r) (hl:t-f<=2000):aX l=0:=by
 have h1:=h.le ho;by_cases h0:l=[]
 ·subst h0;rfl
 have h2:=rN (p:=none) h.chn (fun q e=>by cases e) (fun r hr=>(ho r hr).1) fun r hr=>(ho r hr).2
 rw [aX,if_neg om,if_neg (by rw [h2];decide),if_neg]
 rw [yR h0,h.last h0,(h.first h0).1];omega
def cfL (r:Rn):List Spn->List ((Int->Rat)×Int)
 | []=>[]
 | s::l=>(if 0 < ovC r s then [(bC s,ovC r s)] else [])++cfL r l
theorem HJ (r:Rn):∀ a b:List Spn,cfL r (a++b)=cfL r a++cfL r b
 | [],_=>rfl
 | s::a,b=>by rw [List.cons_append,cfL,cfL,HJ r a b,List.append_assoc]
def Ow (l:List Spn) (x:Int×Int):(Int->Rat)×Int:=(aS l x.1,x.2)
theorem Ea (r:Rn) (l:List Spn):∀ k,k<=l.length->(iA r l k).map (Ow l)=cfL r (l.take k)
 | 0,_=>by rw [iA,List.take_zero];rfl
 | k+1,h=>by
  have hk:k < l.length:=by omega
  rw [iA,List.map_append,Ea r l k om,List.take_succ_eq_append_getElem hk,HJ,gE hk];congr 1;dsimp only;rw [cfL,cfL,List.append_nil];split
  ·rw [List.map_cons,List.map_nil,Ow]
   congr 2
   funext st
   rw [aS,if_neg om,Int.toNat_natCast,gE hk]
  ·rfl
def cfE (r:Rn) (l:List Spn):List ((Int->Rat)×Int):=cfL r l++if 0 < jI r l then [(fun _=>0,jI r l)] else []
theorem Eb (r:Rn) (l:List Spn):(aD r l).map (Ow l)=cfE r l:=by
 rw [aD,List.map_append,Ea r l _ (Nat.le_refl _),List.take_length,cfE];congr 1;split
 ·rfl
 ·rfl
theorem Le (r:Rn) (l:List Spn):(aD r l).length=(cfE r l).length:=by rw [<- Eb,List.length_map]
theorem Pa (r:Rn) (l:List Spn) (c:Nat):aT r l c=((cfE r l).getD c (fun _=>0,0)).2:=by
 rw [<- Eb,aT,gD,gD,List.getElem?_map];cases (aD r l)[c]?<;>rfl
theorem Pb (r:Rn) (l:List Spn) (c:Nat) (st:Int):aS l (aG r l c) st=((cfE r l).getD c (fun _=>0,0)).1 st:=by
 rw [<- Eb,aG,gD,gD,List.getElem?_map];cases (aD r l)[c]?<;>rfl
theorem GD {t:Bool}{r:Rn}{l l':List Spn} (h:cfE r l=cfE r l') (p:Prf):kC t l r p=kC t l' r p/\bP l r p=bP l' r p/\dJ t l r p=dJ t l' r p:=by
 have e1:(aD r l).length=(aD r l').length:=by rw [Le,Le,h]
 have e2:aT r l=aT r l':=funext fun c=>by rw [Pa,Pa,h]
 have e3:∀ c st,aS l (aG r l c) st=aS l' (aG r l' c) st:=fun c st=>by rw [Pb,Pb,h]
 refine ⟨?_,?_,?_⟩
 ·unfold kC sL BK
  rw [e1,e2];congr 2
  funext c
  rw [gV,gV,e3,e3]
 ·unfold bP;rw [e1]
 ·unfold dJ
  have e4:gT l r=gT l' r:=funext fun s=>funext fun c=>e3 c (tbS r s)
  rw [e1,e4]
theorem Lf:∀ k (r:Rn) (l:List Spn),k<=l.length->gU (iA r l k)=((cfL r (l.take k)).map (·.2)).foldr (·+·) 0:=fun k r l h=>by
 rw [<- Ea r l k h,List.map_map];generalize iA r l k=L
 induction L with
 | nil=>rfl
 | cons x L ih=>rw [gU,ih];rfl
theorem Nd {r:Rn}{l l':List Spn} (h:cfL r l=cfL r l'):cfE r l=cfE r l':=by
 have e:jI r l=jI r l':=by
  unfold jI;rw [Lf _ _ _ (Nat.le_refl _),Lf _ _ _ (Nat.le_refl _),List.take_length,List.take_length,h]
 rw [cfE,cfE,h,e]
theorem GE {x y:Int}{r:Rn} (hx:x<=r.from_) (hy:r.to_<=y):∀ l:List Spn,cfL r (eP x y l)=cfL r l
 | []=>rfl
 | s::l=>by
  have ih:=GE hx hy l;rw [eP,cfL];split
  ·rename_i h
   have e:ovC r (J0 x y s)=ovC r s:=by
    unfold ovC J0;dsimp only;omega
   rw [cfL,e,ih];rfl
  ·rename_i h
   have e:¬ 0 < ovC r s:=by unfold ovC;omega
   rw [if_neg e,ih];rfl
theorem Fi {t:Bool}{x y:Int}{l:List Spn}:∀ {rs:List Rn}{ps:List Prf},(∀ r∈rs,x<=r.from_/\r.to_<=y)->eQ t (eP x y l) rs ps=eQ t l rs ps
 | [],ps,_=>by cases ps<;>rfl
 | r::rs,[],_=>rfl
 | r::rs,p::ps,h=>by
  have h1:=h r (List.mem_cons_self ..);rw [eQ,eQ,(GD (Nd (GE h1.1 h1.2 l)) p).1,Fi fun r hr=>h r (mC _ hr)]
theorem M9 {α β:Type}{a a':List α}{b b':List β} (h:a.length=b.length):∀ y,y∈a.zip b->y∈(a++a').zip (b++b'):=fun y hy=>by
 rw [List.zip_append h];exact List.mem_append_left _ hy
theorem Lg {α β:Type}{a a':List α}{b b':List β} (h:a.length=b.length):∀ y,y∈a'.zip b'->y∈(a++a').zip (b++b'):=fun y hy=>by
 rw [List.zip_append h];exact List.mem_append_right _ hy
theorem Lh {rs:List Rn}{l:List Spn}{x y:Int} (h:Cn x rs y) (ho:∀ r∈rs,OkR r) (hl:y-x<=2000) (hx:0<=x) (hs:aZ l=0):cU rs (eP x y l)=0:=by
 have h1:=M8 h ho hl;have h2:=DZ (y:=y) hx hs;unfold cU;rw [if_neg om,if_neg om,if_neg];rintro ⟨h3,h4⟩;have hin:=HI (x:=x) (y:=y) (l:=l);have hne:eP x y l≠[]:=fun e=>by rw [e] at h3;simp at h3
 obtain ⟨s0,hs0⟩:∃ s,(eP x y l).head?=some s:=⟨_,List.head?_eq_some_head hne⟩;obtain ⟨s1,hs1⟩:∃ s,(eP x y l).getLast?=some s:=⟨_,List.getLast?_eq_some_getLast hne⟩;have i0:=hin _ (List.mem_of_mem_head? hs0);have i1:=hin _ (List.mem_of_mem_getLast? hs1);rw [hs0,hs1] at h4;simp only [Option.map_some,Option.getD_some] at h4;rcases h4 with h4|h4|h4
 ·have e:rs=[]:=List.eq_nil_of_length_eq_zero h4
  subst e;cases h;have hr:=(cT h2).2 _ (List.mem_of_mem_head? hs0);have:=hr.1;omega
 ·have e:rs≠[]:=fun e=>by subst e;cases h;have hr:=(cT h2).2 _ (List.mem_of_mem_head? hs0);have:=hr.1;omega
  have:=(h.first e).1
  omega
 ·have e:rs≠[]:=fun e=>by subst e;cases h;have hr:=(cT h2).2 _ (List.mem_of_mem_head? hs0);have:=hr.1;omega
  have:=h.last e;omega
theorem IM {t:Bool}{rs:List Rn}{l:List Spn}{ps:List Prf} (h:(bF t rs l ps).2=0) {k:Nat} (hk:k < rs.length) (hl:(bX rs).to_-(bI rs).from_<=2000) :
  bF t (rs.take k) (eP (bI rs).from_ rs[k].from_ l) (ps.take k)=(rQ (eQ t l (rs.take k) (ps.take k)),0) /\
  bF t (rs.drop k) (eP rs[k].from_ (bX rs).to_ l) (ps.drop k)=(rQ (eQ t l (rs.drop k) (ps.drop k)),0) /\
  eQ t l (rs.take k) (ps.take k)+eQ t l (rs.drop k) (ps.drop k)=eQ t l rs ps:=by
 obtain ⟨h1,h2,h3,h4,-⟩:=qM h;obtain ⟨c1,c2⟩:=fB h1;obtain ⟨ho,_,hc⟩:=gK c1;have hne:rs≠[]:=fun e=>by subst e;exact absurd hk (Nat.not_lt_zero _)
 have hc:=(hc hne).1;have hsp:rs=rs.take k++rs.drop k:=(List.take_append_drop k rs).symm;have hsq:ps=ps.take k++ps.drop k:=(List.take_append_drop k ps).symm;have hlk:(rs.take k).length=(ps.take k).length:=by rw [List.length_take,List.length_take,h2]
 have hc':=hc;rw [hsp] at hc';rw [List.take_append_drop] at hc';have hcs:Cn (bI rs).from_ (rs.take k++rs.drop k) (bX rs).to_:=by rw [<- hsp];exact hc
 obtain ⟨m,q1,q2⟩:=Cn.app.1 hcs;have em:m=rs[k].from_:=by
  rw [List.drop_eq_getElem_cons hk] at q2;exact q2.1.symm
 subst em;have o1:∀ r∈rs.take k,OkR r:=fun r hr=>ho r (List.mem_of_mem_take hr)
 have o2:∀ r∈rs.drop k,OkR r:=fun r hr=>ho r (List.mem_of_mem_drop hr)
 obtain ⟨n1,r1⟩:=Cn.rng q1 o1;obtain ⟨n2,r2⟩:=Cn.rng q2 o2;have hx:0<=(bI rs).from_:=by
  have h0:bI rs∈rs:=by
   unfold bI;cases rs with
   | nil=>exact absurd rfl hne
   | cons a b=>exact List.mem_cons_self ..
  exact (ho _ h0).rng.1
 have part:∀ {a:List Rn}{p:List Prf}{x y:Int},Cn x a y->(∀ r∈a,OkR r)->x<=y->y-x<=2000->0<=x->p.length=a.length->(∀ z∈a.zip p,z∈rs.zip ps)->bF t a (eP x y l) p=(rQ (eQ t l a p),0):=fun {a p x y} g1 g2 g3 g4 g5 g6 g7=>by
  have hin:=(Cn.rng g1 g2).2;have hcf:∀ z∈a.zip p,cfE z.1 (eP x y l)=cfE z.1 l:=fun z hz=>Nd (GE (hin _ (rU hz).1).1 (hin _ (rU hz).1).2 l)
  rw [AC (Lh g1 g2 g4 g5 c2) g6 (fun z hz=>by rw [(GD (t:=t) (hcf z hz) z.2).2.1];exact h3 z (g7 z hz)) fun z hz=>by rw [(GD (t:=t) (hcf z hz) z.2).2.2];exact h4 z (g7 z hz),Fi hin]
 refine ⟨part q1 o1 n1 om hx hlk.symm fun z hz=>?_,part q2 o2 n2 om om (by rw [List.length_drop,List.length_drop,h2]) fun z hz=>?_,?_⟩
 ·rw [hsp,hsq];exact M9 hlk z hz
 ·rw [hsp,hsq];exact Lg hlk z hz
 ·rw [<- AG hlk,<- hsp,<- hsq]
theorem MA {S n:Nat}{row col:Nat->Int}{u v u' v':Nat->Rat}{b:Rat} (hu:∀ s,s < S->u' s=u s+b) (hv:∀ c,c < n->v' c=v c-b) (h:iS row S=iS col n):vC S n row col u' v'=vC S n row col u v:=by
 unfold vC;have e1:rS' (fun s=>(row s:Rat)*u' s) S=rS' (fun s=>(row s:Rat)*u s+b*(row s:Rat)) S:=aU fun s hs=>by rw [hu s hs];grind
 have e2:rS' (fun c=>(col c:Rat)*v' c) n=rS' (fun c=>(col c:Rat)*v c+(-b)*(col c:Rat)) n:=aU fun c hc=>by rw [hv c hc];grind
 rw [e1,e2,jH,jH,oM,oM,mM,mM,h];grind
theorem Fj {t:Bool}{l:List Spn}:∀ {rs:List Rn}{ps:List Prf}{k:Nat} (hk:k < rs.length) (hp:k < ps.length) {p:Prf},kC t l rs[k] p=kC t l rs[k] ps[k]->eQ t l rs (ps.set k p)=eQ t l rs ps
 | [],_,_,h,_,_,_=>absurd h (Nat.not_lt_zero _)
 | _::_,[],_,_,h,_,_=>absurd h (Nat.not_lt_zero _)
 | r::rs,q::ps,0,_,_,p,h=>by
  rw [List.set_cons_zero,eQ,eQ];rw [List.getElem_cons_zero,List.getElem_cons_zero] at h
  rw [h]
 | r::rs,q::ps,k+1,hk,hp,p,h=>by
  rw [List.getElem_cons_succ,List.getElem_cons_succ] at h
  rw [List.set_cons_succ,eQ,eQ,Fj (by simpa using hk) (by simpa using hp) h]
def mvS (b:Rat) (L:List Q3):List Q3:=L.map fun q=>rQ (qR q+b)
theorem Li {b:Rat}{L:List Q3}{i:Nat} (h:i < L.length):qR ((mvS b L).getD i aY)=qR (L.getD i aY)+b:=by
 rw [mvS,gD,List.getElem?_map,gE h,gD,gE h];exact bR _
theorem Ox {t:Bool}{rs:List Rn}{l:List Spn}{ps:List Prf} (h:(bF t rs l ps).2=0) {k:Nat} (hk:k < rs.length) (hp:k < ps.length) {b:Rat}{p:Prf} (h1:p.st=mvS b ps[k].st) (h2:p.cl=mvS (-b) ps[k].cl):bF t rs l (ps.set k p)=bF t rs l ps:=by
 obtain ⟨c1,c2,c3,c4,c5⟩:=qM h;obtain ⟨d1,d2⟩:=fB c1;have ho:=(gK d1).1 _ (gM hk);have hl:=qB (l:=l) (x:=0) (by unfold aZ at d2;split at d2;cases d2;exact d2)
 have hz:(rs[k],ps[k])∈rs.zip ps:=List.mem_iff_getElem.2 ⟨k,by rw [List.length_zip];omega,by rw [List.getElem_zip]⟩
 have w0:=c3 _ hz;have k0:=c4 _ hz;have w1:bP l rs[k] p=true:=by
  unfold bP at w0 ⊢;rw [h1,h2,mvS,mvS,List.length_map,List.length_map];dsimp only at w0;split at w0
  ·rename_i e;rw [if_pos e];exact w0
  ·rename_i e
   rw [if_neg e];simp only [Bool.and_eq_true] at w0 ⊢;exact ⟨⟨w0.1.1,List.all_eq_true.2 fun q hq=>by obtain ⟨q',_,rfl⟩:=List.mem_map.1 hq;exact dT (zJ _)⟩,List.all_eq_true.2 fun q hq=>by obtain ⟨q',_,rfl⟩:=List.mem_map.1 hq;exact dT (zJ _)⟩
 have hlen:rs[k].tab.length≠0->ps[k].st.length=rs[k].tab.length/\ps[k].cl.length=(aD rs[k] l).length:=fun e=>by
  unfold bP at w0;dsimp only at w0;rw [if_neg e] at w0;simp only [Bool.and_eq_true,decide_eq_true_eq] at w0;exact w0.1.1
 have hu:rs[k].tab.length≠0->∀ s,s < rs[k].tab.length->uP p s=uP ps[k] s+b:=fun e s hs=>by
  rw [uP,h1,Li (by rw [(hlen e).1];exact hs)];rfl
 have hv:rs[k].tab.length≠0->∀ c,c < (aD rs[k] l).length->vP p c=vP ps[k] c-b:=fun e c hc=>by
  rw [vP,h2,Li (by rw [(hlen e).2];exact hc)]
  show vP ps[k] c+-b=_
  grind
 have k1:dJ t l rs[k] p=true:=nQ.2 fun e s c hs hc=>by
  rw [hu e s hs,hv e c hc,show uP ps[k] s+b+(vP ps[k] c-b)=uP ps[k] s+vP ps[k] c from by grind]
  exact nQ.1 k0 e s c hs hc
 have v1:kC t l rs[k] p=kC t l rs[k] ps[k]:=by
  unfold kC;split
  ·rfl
  ·rename_i e
   have ht:=(ho.tab e).2.2.1;have hs:=kB hl ho.rng.2.1;exact MA (hu e) (hv e) (by rw [kY,mN,ht,hs])
 have key:∀ z∈rs.zip (ps.set k p),z∈rs.zip ps∨z=(rs[k],p):=fun z hz'=>by
  obtain ⟨i,hi,e⟩:=List.mem_iff_getElem.1 hz';rw [List.length_zip,List.length_set] at hi;rw [List.getElem_zip,List.getElem_set] at e;split at e
  ·rename_i ek;subst ek;exact .inr e.symm
  ·exact .inl (List.mem_iff_getElem.2 ⟨i,by rw [List.length_zip];exact hi,by rw [List.getElem_zip];exact e⟩)
 rw [AC c1 (by rw [List.length_set];exact c2) (fun z hz'=>(key z hz').elim (c3 z) fun e=>by rw [e];exact w1) (fun z hz'=>(key z hz').elim (c4 z) fun e=>by rw [e];exact k1),c5,Fj hk hp v1]
section
variable {rs:List Rn}{l:List Spn}
variable {s:Shp}{m:ShM}
end
theorem rC (a:Option Addr) (rs:List Rn) (c:Nat) (b:Option Addr) (l:List Spn) (d t:Nat) (w:World) (hA:aW w a rs) (hB:aN w b l) :
  CR 9 #[.slice a rs.length c,.slice b l.length d,.int .i64 t] w (.bool (decide (jE 12 t rs) && decide (kH 8 l))):=by
 have h1:=fun w' (hb:Below w.heap.size w w')=>tV a rs c 12 t w' (hA.below hb) dc
 have h2:=fun w' (hb:Below w.heap.size w w')=>wZ b l d 8 w' (hB.below hb)
 clear hA hB;generalize decide (jE 12 t rs)=g1 at *;generalize decide (kH 8 l)=g2 at *;refine aB [(0,.slice a rs.length c),(1,.slice b l.length d),(2,.int .i64 t)] Tryz.func9 Tryz.ntmps9 ?_;cases g1;all_goals cases g2
 all_goals
  repeat' first|(refine gp ?_;and_intros<;>first|exact trivial|repeat first|intro(Bk:Nat)|intro h)|(apply G.cV (g:=31);rfl;rfl;exact fun w' hw=>h1 w' hw.below)|(apply G.cV (g:=32);rfl;rfl;exact fun w' hw=>h2 w' hw.below)
  all_goals exact aA Tryz.func9 Tryz.results9 rfl
end Go.Proofs.YtjcecdmbfmccoaaGreatDoor
/-
 Laws whose reading is of bounded bulk: how such a law is lifted,and how its arguments read with their bulk.
-/
namespace Go.Proofs.YtjcecdmbfmccoaaGreatDoor
open Go Go.RowKit Go.Sl Go.Num Go.ChangeShapes Go.WideShapes
section
variable {H:Type}{enc:TypeId×Value->H}
end
section
variable {P:Program}{T E:TypeId}
variable {A1 A2 A3 A4 A5:Type}{f1:A1->List Value}{f2:A2->List Value}{f3:A3->List Value}{f4:A4->List Value}{f5:A5->List Value}{G1:World->A1->Nat->Prop}{G2:World->A2->Nat->Prop}{G3:World->A3->Nat->Prop}{G4:World->A4->Nat->Prop}{G5:World->A5->Nat->Prop}{d1 d2 d3 d4 d5:Field}{n:Nat}
theorem bB.struct3 (ht:P.underlying T=some (.struct #[d1,d2,d3])) (hn:P.cellsOf T=n) (hT:Go.Sl.xF P #[d1,d2,d3] n=true) (h1:bB P d1.type f1 G1) (h2:bB P d2.type f2 G2) (h3:bB P d3.type f3 G3) :
  bB P T (fun a:A1×A2×A3=>f1 a.1++(f2 a.2.1++f3 a.2.2)) (fun w a N=>∃ n1 n2 n3,n1+n2+n3<=N/\G1 w a.1 n1/\G2 w a.2.1 n2/\G3 w a.2.2 n3):=.mk fun enc w fuel cs x hx=>by
 obtain ⟨hj,hl,xs,he,hxl,hf⟩:=bB.struct ht hn hT hx;obtain ⟨p1,p2,p3,hp⟩:=IX hl;obtain ⟨y1,y2,y3,hy⟩:=IX hxl;subst hy;rw [hp] at hj hf;obtain ⟨_,r1⟩:=hf 0 d1 p1 y1 rfl rfl rfl;obtain ⟨_,r2⟩:=hf 1 d2 p2 y2 rfl rfl rfl;obtain ⟨_,r3⟩:=hf 2 d3 p3 y3 rfl rfl rfl;obtain ⟨a1,rfl,g1⟩:=h1.go enc w _ _ _ r1;obtain ⟨a2,rfl,g2⟩:=h2.go enc w _ _ _ r2;obtain ⟨a3,rfl,g3⟩:=h3.go enc w _ _ _ r3;refine ⟨(a1,a2,a3),by rw [hj];simp,_,_,_,?_,g1,g2,g3⟩
 rw [he];simp only [List.map_cons,List.map_nil,Rows.uptoBulk,Rows.uptoBulkAll];omega
end
theorem DS.below {w w':World}{s:Shp}{m:ShM} (h:DS w s m) (hb:Below w.heap.size w w'):DS w' s m:=⟨h.l.below hb,h.lc,h.h.below hb,h.hc,h.p.below hb,h.q.below hb⟩
theorem Pc:bB Tryz.prog 47 (fun a:Sld Rn×Sld Spn×Sld Prf=>[.slice a.1.ad a.1.l.length a.1.cap,.slice a.2.1.ad a.2.1.l.length a.2.1.cap,.slice a.2.2.ad a.2.2.l.length a.2.2.cap]) (fun w a N=>aW w a.1.ad a.1.l/\a.1.l.length<=a.1.cap/\aN w a.2.1.ad a.2.1.l/\bK w a.2.2.ad a.2.2.l/\a.2.2.l.length<=a.2.2.cap/\∀ p∈a.2.2.l,p.st.length+p.cl.length<=N) :=
 (bB.struct3 (n:=3) Tryz.underlying47 (by kernel_rfl) (by kernel_rfl) (bB.of ((aK.slice (sz:=5) Tryz.underlying22 (by kernel_rfl) dc Ou).mono (G':=fun w s=>aW w s.ad s.l/\s.l.length<=s.cap) fun _ _ h=>⟨⟨h.1,h.2.2.2⟩,h.2.1⟩)) (bB.of G8) KQ).turn fun _ a _ ⟨n1,n2,n3,h0,h1,h2,h3⟩=>⟨a,rfl,h1.1,h1.2,h2,h3.1,h3.2.1,fun p hp=>Nat.le_trans (h3.2.2 p hp) om⟩
end Go.Proofs.YtjcecdmbfmccoaaGreatDoor
/-
 The law ProofsAreExact.
-/
namespace Go.Proofs.YtjcecdmbfmccoaaGreatDoor
open Go.RowKit Go.Sl Go.Num
section
variable {rs:List Rn}{l:List Spn}{s:Shp}{m:ShM}{w:World}
theorem xA {n:Nat} (h:¬ (jE 12 n rs/\kH 8 l)):(decide (jE 12 n rs) && decide (kH 8 l))=false:=by
 rw [<- Bool.decide_and];exact dF h
end
attribute [local irreducible] jJ
end Go.Proofs.YtjcecdmbfmccoaaGreatDoor
/-
 Plain: what moves in a small proof,and its parts.
-/
namespace Go.Proofs.YtjcecdmbfmccoaaGreatDoor
open Go.RowKit Go.Sl Go.Num
theorem Fk {x y:Int}:∀ {l:List Spn},(∀ s∈l,fewS s)->∀ s∈eP x y l,fewS s
 | [],_,s,hs=>by cases hs
 | s0::l,h,s,hs=>by
  have h1:=Fk (x:=x) (y:=y) fun t ht=>h t (mC s0 ht)
  rw [eP] at hs;split at hs
  ·rcases List.mem_cons.1 hs with rfl|hs
   ·exact h s0 (List.mem_cons_self ..)
   ·exact h1 s hs
  ·exact h1 s hs
section
variable {t:Bool}{rs:List Rn}{l:List Spn}{ps:List Prf}{k n:Nat}{qb:Q3}
theorem Fl {rs':List Rn}{x y:Int} (h1:jE 12 n rs) (h2:kH 8 l) (h0:cU rs l=0) (hs:∀ r∈rs',r∈rs) (hn:rs'.length<=rs.length):Mod rs' (eP x y l):=by
 refine ⟨fun r hr=>Nat.le_trans (h1.2.1 r (hs r hr)) dc,Fk h2.ok,fun _ r _=>?_,Nat.le_trans hn (Nat.le_trans h1.1 dc)⟩
 obtain ⟨_,h4,_⟩:=dY h0;have:=h2.1;have:=Hv r (eP x y l);have:=BC (x:=x) (y:=y) l;omega
theorem Lj {b:Rat}{L:List Q3}{j:Nat} (h:∀ q∈L,aH 40 q) (hb:aH 20 (rQ b)) (hj:61<=j):∀ q∈mvS b L,aH j q:=fun q hq=>by
 obtain ⟨q',h1,rfl⟩:=List.mem_map.1 hq;exact aF (eT (cQ (h q' h1)) hb dc dc) hj
theorem Ll (h1:jE 12 n rs) (h2:kH 8 l) (hs:gW ps) (hb:aH 20 qb) (hv:(bF t rs l ps).2=0) (hk:k < rs.length) (hp:k < ps.length) {p:Prf} (e1:p.st=mvS (qR qb) ps[k].st) (e2:p.cl=mvS (-qR qb) ps[k].cl) :
  bF t rs l (ps.set k p)=bF t rs l ps/\Smp t rs l (ps.set k p):=by
 refine ⟨Ox hv hk hp e1 e2,fE (k:=61) dc (sH h1 h2) fun x hx=>?_⟩
 rcases List.mem_or_eq_of_mem_set hx with hx|rfl
 ·exact ⟨(hs.2 x hx).1,fun q hq=>aF ((hs.2 x hx).2 q hq) dc⟩
 ·have hm:=hs.2 _ (gM hp)
  have hb1:aH 20 (rQ (qR qb)):=cQ hb;refine ⟨?_,fun q hq=>?_⟩
  ·have:=hm.1
   rw [e1,e2];simp only [mvS,List.length_append,List.length_map] at this ⊢;exact this
  ·rcases List.mem_append.1 hq with hq|hq
   ·rw [e1] at hq
    exact Lj (fun q hq=>hm.2 q (List.mem_append_left _ hq)) hb1 (Nat.le_refl _) q hq
   ·rw [e2] at hq
    exact Lj (fun q hq=>hm.2 q (List.mem_append_right _ hq)) (uO hb1) (Nat.le_refl _) q hq
theorem Fm {ps':List Prf} (hs:gW ps) (h:∀ p∈ps',p∈ps):shrt 40 ps':=fun p hp=>hs.shrt p (h p hp)
theorem GF (h1:jE 12 60 rs) (h2:kH 8 l) (hs:gW ps) (hv:(bF t rs l ps).2=0) (hk:k < rs.length) :
  BR (bI rs).from_ rs[k].from_ l=(eP (bI rs).from_ rs[k].from_ l,0)/\BR rs[k].from_ (bX rs).to_ l=(eP rs[k].from_ (bX rs).to_ l,0) /\
  (Mod (rs.take k) (eP (bI rs).from_ rs[k].from_ l)/\Smp t (rs.take k) (eP (bI rs).from_ rs[k].from_ l) (ps.take k)) /\
  (Mod (rs.drop k) (eP rs[k].from_ (bX rs).to_ l)/\Smp t (rs.drop k) (eP rs[k].from_ (bX rs).to_ l) (ps.drop k)) /\
  ∃ c d:Rat,bF t (rs.take k) (eP (bI rs).from_ rs[k].from_ l) (ps.take k)=(rQ c,0)/\bF t (rs.drop k) (eP rs[k].from_ (bX rs).to_ l) (ps.drop k)=(rQ d,0)/\bF t rs l ps=(rQ (c+d),0):=by
 obtain ⟨c1,c2,c3,c4,c5⟩:=qM hv;obtain ⟨d1,d2⟩:=fB c1;obtain ⟨ho,_,hc⟩:=gK d1;have hne:rs≠[]:=fun e=>by subst e;exact absurd hk (Nat.not_lt_zero _)
 have hc:=(hc hne).1;have hlen:(bX rs).to_-(bI rs).from_<=60:=by
  rw [<- yR hne];rcases h1.2.2 with h|h|h
  ·exact absurd d1 h
  ·exact absurd (List.length_eq_zero_iff.1 h) hne
  ·exact h
 have hrg:=(Cn.rng hc ho);have hkm:=hrg.2 _ (gM hk);have hkr:=(ho _ (gM hk)).rng;have h0m:bI rs∈rs:=by
  unfold bI;cases rs with
  | nil=>exact absurd rfl hne
  | cons a b=>exact List.mem_cons_self ..
 have h0r:=(ho _ h0m).rng;have hlm:bX rs∈rs:=by
  unfold bX;rw [List.getLast?_eq_some_getLast hne];exact List.getLast_mem hne
 have hlr:=(ho _ hlm).rng;have sT:∀ r∈rs.take k,r∈rs:=fun r hr=>List.mem_of_mem_take hr
 have sD:∀ r∈rs.drop k,r∈rs:=fun r hr=>List.mem_of_mem_drop hr
 have mT:=Fl (x:=(bI rs).from_) (y:=rs[k].from_) h1 h2 c1 sT (by rw [List.length_take];omega)
 have mD:=Fl (x:=rs[k].from_) (y:=(bX rs).to_) h1 h2 c1 sD (by rw [List.length_drop];omega)
 obtain ⟨p1,p2,p3⟩:=IM hv hk om;refine ⟨?_,?_,⟨mT,fE (k:=40) dc mT (Fm hs fun p hp=>List.mem_of_mem_take hp)⟩,⟨mD,fE (k:=40) dc mD (Fm hs fun p hp=>List.mem_of_mem_drop hp)⟩,_,_,p1,p2,?_⟩
 ·rw [BR,d2,if_neg dc,if_neg]
  unfold Fh;omega
 ·rw [BR,d2,if_neg dc,if_neg]
  unfold Fh;omega
 ·rw [p3];exact c5
end
end Go.Proofs.YtjcecdmbfmccoaaGreatDoor
/-
 How the arguments of ProofsMove read,with their bulk.
-/
namespace Go.Proofs.YtjcecdmbfmccoaaGreatDoor
open Go Go.RowKit Go.Sl Go.Num Go.ChangeShapes Go.WideShapes Go.ChangeAt
set_option maxRecDepth 100000 in
theorem Oy {H:Type}{enc:TypeId×Value->H}{W:World}{r:Reach}{base:Nat}{v:Value}{d:DataW H}{ps:List MemPlace} (hk:Value.okWide Tryz.prog W r base 5 v) (hv:DataW.Trod enc Tryz.prog W 0 (fun _=>true) true 5 v d ps):∃ n:Nat,v=.int .u8 n/\n<=255:=by
 obtain ⟨i,rfl⟩:=okWide_int Tryz.underlying5 hk;obtain ⟨n,h1,h2⟩:=rU8.arg hv;have h3:[Value.int .u8 i]=[Value.int .u8 n]:=h1;cases h3;exact ⟨n,rfl,h2⟩
theorem Pd:bB Tryz.prog 9 (fun l:List UInt8=>[.string (bs l)]) (fun _ l N=>l.length<=N):=.mk fun enc w fuel cs x hx=>by
 obtain ⟨s,h1,h2,_⟩:=DataW.trod_string Tryz.underlying9 hx;refine ⟨s.data.toList,by rw [MD];exact h1,?_⟩
 rw [h2];simp only [Rows.uptoBulk];omega
theorem Po:bB Tryz.prog 25 (fun a:Q3=>[.bool a.neg,.string (bs a.num),.string (bs a.den)]) (fun _ a N=>a.num.length<=N/\a.den.length<=N):=(bB.struct3 (n:=3) Tryz.underlying25 (by kernel_rfl) (by kernel_rfl) (bB.of MH) Pd Pd).turn fun _ a _ ⟨n1,n2,n3,h0,h1,h2,h3⟩=>⟨⟨a.1,a.2.1,a.2.2⟩,rfl,Nat.le_trans h2 om,Nat.le_trans h3 om⟩
end Go.Proofs.YtjcecdmbfmccoaaGreatDoor
/-
 The law ProofsMove.
-/
namespace Go.Proofs.YtjcecdmbfmccoaaGreatDoor
open Go.RowKit Go.Sl Go.Num
theorem HK {b:Rat}{L:List Q3}{j:Nat} (hj:j < L.length):flat qV (mvS b (L.take j))++qV (rQ (qR L[j]+b))=flat qV (mvS b (L.take (j+1))):=by
 rw [List.take_succ_eq_append_getElem hj,mvS,mvS,List.map_append,List.map_cons,List.map_nil,eJ]
theorem Ec (b:Rat) (L:List Q3):(mvS b L).length=L.length:=by rw [mvS,List.length_map]
theorem Oz {w0 w:World}{M:List Row}{g tot k n1 n2 c3 c4:Nat}{E E2:TypeId}{a3 a4 pa:Option Addr}{S1 S2:List Q3}{ps:List Prf} (hw:Sat w0 M w) (h1:Row.blk g E (flat prV (ps.set k ⟨S1,S2,a3,c3,a4,c4⟩)) tot∈M) (h2:Row.own 0 (.slice a3 n1 c3) E2 3 n1 (flat qV S1)∈M) (h3:Row.own 0 (.slice a4 n2 c4) E2 3 n2 (flat qV S2)∈M) (e1:S1.length=n1) (e2:S2.length=n2) (hP:bK w pa ps) :
  bK w (some ⟨g,0,none⟩) (ps.set k ⟨S1,S2,a3,c3,a4,c4⟩):=by
 refine ⟨aE.P5 (fun _=>rfl) hw h1,fun p hp=>?_⟩
 rcases List.mem_or_eq_of_mem_set hp with hp|rfl
 ·exact hP.2 p hp
 ·exact ⟨aE.P8 (fun _=>rfl) (hw.hold _ h2) e1,aE.P8 (fun _=>rfl) (hw.hold _ h3) e2⟩
theorem MB {t:Bool}{w0 w:World}{M:List Row}{g tot k n1 n2 c3 c4 cap c d:Nat}{E E2:TypeId}{a b a3 a4 pa:Option Addr}{S1 S2:List Q3}{rs:List Rn}{l:List Spn}{ps:List Prf}{V:Q3×Int} (hw:Sat w0 M w) (h1:Row.blk g E (flat prV (ps.set k ⟨S1,S2,a3,c3,a4,c4⟩)) tot∈M) (h2:Row.own 0 (.slice a3 n1 c3) E2 3 n1 (flat qV S1)∈M) (h3:Row.own 0 (.slice a4 n2 c4) E2 3 n2 (flat qV S2)∈M) (e1:S1.length=n1) (e2:S2.length=n2) (hM:Mod rs l) (hA:aW w a rs) (hB:aN w b l) (hP:bK w pa ps)
  (hv:bF t rs l (ps.set k ⟨S1,S2,a3,c3,a4,c4⟩)=V/\Smp t rs l (ps.set k ⟨S1,S2,a3,c3,a4,c4⟩)) :
  CR 11 #[.slice a rs.length c,.slice b l.length d,.slice (some ⟨g,0,none⟩) ps.length cap,.bool t] w (.tuple #[qA V.1,.int .i64 V.2]):=by
 have h:=DQ t a c b d (some ⟨g,0,none⟩) cap w hA hB hM (Oz hw h1 h2 h3 e1 e2 hP) hv.2;rw [hv.1,List.length_set] at h
 exact h
theorem aW.sub {w:World}{a:Option Addr}{c lo hi:Nat}{l:List Rn} (h:aW w a l) (h1:lo<=hi) (h2:hi<=l.length) (h3:l.length<=c):aW w (oZ a c lo 5) ((l.drop lo).take (hi-lo)):=⟨HG h.1 h1 h2 h3,fun r hr=>h.2 r (List.mem_of_mem_drop (List.mem_of_mem_take hr))⟩
theorem bK.sub {w:World}{a:Option Addr}{c lo hi:Nat}{l:List Prf} (h:bK w a l) (h1:lo<=hi) (h2:hi<=l.length) (h3:l.length<=c):bK w (oZ a c lo 2) ((l.drop lo).take (hi-lo)):=⟨HG h.1 h1 h2 h3,fun r hr=>h.2 r (List.mem_of_mem_drop (List.mem_of_mem_take hr))⟩
theorem IO {rs:List Rn} (h:0 < rs.length):bI rs=rs[0]:=by
 cases rs with
 | nil=>exact absurd h (Nat.lt_irrefl _)
 | cons r rs=>rfl
theorem IP {rs:List Rn} (h:0 < rs.length):bX rs=rs[rs.length-1]:=by
 rw [bX,List.getLast?_eq_getElem?,gE om];rfl
theorem Fo {t:Bool}{w:World}{a b pa:Option Addr}{n1 n2 c d pc:Nat}{rs:List Rn}{l:List Spn}{ps:List Prf}{Q:Q3} (hA:aW w a rs) (hP:bK w pa ps) (e1:rs.length=n1) (e2:ps.length=n2) (hB:aN w b l) (hM:Mod rs l/\Smp t rs l ps) (hv:bF t rs l ps=(Q,0)) :
  CR 11 #[.slice a n1 c,.slice b l.length d,.slice pa n2 pc,.bool t] w (.tuple #[qA Q,.int .i64 0]):=by
 subst e1 e2;have h:=DQ t a c b d pa pc w hA hB hM.1 hP hM.2;rw [hv] at h
 exact h
theorem CD {w0 w:World}{M:List Row}{a:Option Addr}{c:Nat}{L:List Spn} (hw:Sat w0 M w) (h1:Row.own 0 (.slice a L.length c) 119 7 L.length (flat spV L)∈M) (hp:∀ s∈L,lM w s):aN w a L:=⟨aE.P8 (fun _=>rfl) (hw.hold _ h1) rfl,hp⟩
set_option maxHeartbeats 8000000 in
theorem Ed (w:World) (a:Option Addr) (rs:List Rn) (c:Nat) (b:Option Addr) (l:List Spn) (d:Nat) (pa:Option Addr) (ps:List Prf) (pc:Nat) (qb:Q3) (at_:Nat) (hA:aW w a rs) (hcr:rs.length<=c) (hB:aN w b l) (hP:bK w pa ps) (hcp:ps.length<=pc) (hz:∀ p∈ps,p.st.length+p.cl.length<=1000000000000) (hat:at_<=255) (hq1:qb.num.length<=536870912) (hq2:qb.den.length<=536870912) :
  CR 7 #[.agg #[.slice a rs.length c,.slice b l.length d,.slice pa ps.length pc],qA qb,.int .u8 at_] w (.bool true):=by
 have hfw:=fun w' (hb:Below w.heap.size w w')=>rC a rs c b l d 60 w' (hA.below hb) (hB.below hb)
 have hsh:=fun w' (hb:Below w.heap.size w w')=>qY pa ps pc w' (hP.below hb) hz
 obtain ⟨bn,bu,bd⟩:=qb;dsimp only [qA];by_cases hfe:jE 12 60 rs/\kH 8 l
 case neg =>
  rw [xA hfe] at hfw;generalize decide (gW ps)=B at *;clear hfe hA hB hP hz;cases B;all_goals
   refine aB [(0,.agg #[.slice a rs.length c,.slice b l.length d,.slice pa ps.length pc]),(1,.agg #[.bool bn,.string (bs bu),.string (bs bd)]),(2,.int .u8 at_)] Tryz.func7 Tryz.ntmps7 ?_;repeat' first|(refine gp ?_;and_intros<;>first|exact trivial|repeat first|intro(Bk:Nat)|intro h)|(apply G.cV (g:=9);rfl;rfl;exact fun w' hw'=>hfw w' hw'.below)|(apply G.cV (g:=19);rfl;rfl;exact fun w' hw'=>hsh w' hw'.below)|(apply G.cV (g:=10);rfl;rfl;exact fun w' _=>bQ w')|(apply G.cV (g:=26);rfl;rfl;exact fun w' _=>hvd w')|fail
   all_goals exact aA Tryz.func7 Tryz.results7 rfl
 obtain ⟨hf1,hf2⟩:=hfe;rw [dT hf1,dT hf2] at hfw;by_cases hse:gW ps
 case neg =>
  rw [dF hse] at hsh;clear hse hA hB hP hz hf1 hf2;refine aB [(0,.agg #[.slice a rs.length c,.slice b l.length d,.slice pa ps.length pc]),(1,.agg #[.bool bn,.string (bs bu),.string (bs bd)]),(2,.int .u8 at_)] Tryz.func7 Tryz.ntmps7 ?_;repeat' first|(refine gp ?_;and_intros<;>first|exact trivial|repeat first|intro(Bk:Nat)|intro h)|(apply G.cV (g:=9);rfl;rfl;exact fun w' hw'=>hfw w' hw'.below)|(apply G.cV (g:=19);rfl;rfl;exact fun w' hw'=>hsh w' hw'.below)|(apply G.cV (g:=10);rfl;rfl;exact fun w' _=>bQ w')|(apply G.cV (g:=26);rfl;rfl;exact fun w' _=>hvd w')|fail
  all_goals exact aA Tryz.func7 Tryz.results7 rfl
 rw [dT hse] at hsh;have hvd:=fun w'=>fX ⟨bn,bu,bd⟩ w' hq1 hq2
 dsimp only [qA] at hvd;by_cases hve:aP ⟨bn,bu,bd⟩
 case neg =>
  rw [dF hve] at hvd;clear hse hA hB hP hz hf1 hf2 hve;refine aB [(0,.agg #[.slice a rs.length c,.slice b l.length d,.slice pa ps.length pc]),(1,.agg #[.bool bn,.string (bs bu),.string (bs bd)]),(2,.int .u8 at_)] Tryz.func7 Tryz.ntmps7 ?_;repeat' first|(refine gp ?_;and_intros<;>first|exact trivial|repeat first|intro(Bk:Nat)|intro h)|(apply G.cV (g:=9);rfl;rfl;exact fun w' hw'=>hfw w' hw'.below)|(apply G.cV (g:=19);rfl;rfl;exact fun w' hw'=>hsh w' hw'.below)|(apply G.cV (g:=10);rfl;rfl;exact fun w' _=>bQ w')|(apply G.cV (g:=26);rfl;rfl;exact fun w' _=>hvd w')|fail
  all_goals exact aA Tryz.func7 Tryz.results7 rfl
 rw [dT hve] at hvd;by_cases hl1:20 < bu.length
 ·clear hse hA hB hP hz hf1 hf2 hve
  refine aB [(0,.agg #[.slice a rs.length c,.slice b l.length d,.slice pa ps.length pc]),(1,.agg #[.bool bn,.string (bs bu),.string (bs bd)]),(2,.int .u8 at_)] Tryz.func7 Tryz.ntmps7 ?_;repeat' first|(refine gp ?_;and_intros<;>first|exact trivial|repeat first|intro(Bk:Nat)|intro h)|(apply G.cV (g:=9);rfl;rfl;exact fun w' hw'=>hfw w' hw'.below)|(apply G.cV (g:=19);rfl;rfl;exact fun w' hw'=>hsh w' hw'.below)|(apply G.cV (g:=10);rfl;rfl;exact fun w' _=>bQ w')|(apply G.cV (g:=26);rfl;rfl;exact fun w' _=>hvd w')|fail
  all_goals exact aA Tryz.func7 Tryz.results7 rfl
 by_cases hl2:20 < bd.length
 ·clear hse hA hB hP hz hf1 hf2 hve
  refine aB [(0,.agg #[.slice a rs.length c,.slice b l.length d,.slice pa ps.length pc]),(1,.agg #[.bool bn,.string (bs bu),.string (bs bd)]),(2,.int .u8 at_)] Tryz.func7 Tryz.ntmps7 ?_;repeat' first|(refine gp ?_;and_intros<;>first|exact trivial|repeat first|intro(Bk:Nat)|intro h)|(apply G.cV (g:=9);rfl;rfl;exact fun w' hw'=>hfw w' hw'.below)|(apply G.cV (g:=19);rfl;rfl;exact fun w' hw'=>hsh w' hw'.below)|(apply G.cV (g:=10);rfl;rfl;exact fun w' _=>bQ w')|(apply G.cV (g:=26);rfl;rfl;exact fun w' _=>hvd w')|fail
  all_goals exact aA Tryz.func7 Tryz.results7 rfl
 by_cases hn0:rs.length=0
 ·clear hse hA hB hP hz hf1 hf2 hve
  refine aB [(0,.agg #[.slice a rs.length c,.slice b l.length d,.slice pa ps.length pc]),(1,.agg #[.bool bn,.string (bs bu),.string (bs bd)]),(2,.int .u8 at_)] Tryz.func7 Tryz.ntmps7 ?_;repeat' first|(refine gp ?_;and_intros<;>first|exact trivial|repeat first|intro(Bk:Nat)|intro h)|(apply G.cV (g:=9);rfl;rfl;exact fun w' hw'=>hfw w' hw'.below)|(apply G.cV (g:=19);rfl;rfl;exact fun w' hw'=>hsh w' hw'.below)|(apply G.cV (g:=10);rfl;rfl;exact fun w' _=>bQ w')|(apply G.cV (g:=26);rfl;rfl;exact fun w' _=>hvd w')|fail
  all_goals exact aA Tryz.func7 Tryz.results7 rfl
 have hn1:0 < rs.length:=Nat.pos_of_ne_zero hn0;have hr12:rs.length<=12:=hf1.1;have hb20:aH 20 (⟨bn,bu,bd⟩:Q3):=⟨by show bu.length<=20;omega,by show bd.length<=20;omega⟩
 obtain ⟨k,hk⟩:∃ k,k=at_ % rs.length:=⟨_,rfl⟩;have hkn:k < rs.length:=by rw [hk];exact Nat.mod_lt _ hn1
 have hik:((at_:Int) % (rs.length:Int))=(k:Int):=by rw [hk];rfl
 clear hk;have hM:=sH hf1 hf2;obtain ⟨ba,oa,rfl,hra⟩:=aE.all hA.1 hn1;have hr0:=hra 0 hn1;have hr1:=hra k hkn;have hr2:=hra (rs.length-1) om;dsimp only [rnV] at hr0 hr1 hr2;refine aB [(0,.agg #[.slice (some ⟨ba,oa,none⟩) rs.length c,.slice b l.length d,.slice pa ps.length pc]),(1,.agg #[.bool bn,.string (bs bu),.string (bs bd)]),(2,.int .u8 at_)] Tryz.func7 Tryz.ntmps7 ?_;all_goals (refine go ?_;and_intros<;>first|exact trivial|repeat first|intro(Bk:Nat)|intro h)
 obtain ⟨B4,rfl⟩:∃ x,x=Bk:=⟨_,rfl⟩;obtain ⟨B3,rfl⟩:∃ x,x=Bk:=⟨_,rfl⟩;repeat' first|(refine gp ?_;and_intros<;>first|exact trivial|repeat first|intro(Bk:Nat)|intro h)|(apply G.cV (g:=9);rfl;rfl;exact fun w' hw'=>hfw w' hw'.below)|(apply G.cV (g:=19);rfl;rfl;exact fun w' hw'=>hsh w' hw'.below)|(apply G.cV (g:=10);rfl;rfl;exact fun w' _=>bQ w')|(apply G.cV (g:=26);rfl;rfl;exact fun w' _=>hvd w')|(apply G.Pu;rfl;rfl;rfl;rfl;rfl;rfl;rfl;rfl;intro Bi)|fail
 refine J.loop (c:=_) (0:Nat) (fun x=>2-x) (fun x=>[(2,.int .u8 at_),(3,.pointer (some ⟨B3,0,none⟩)),(4,.pointer (some ⟨B4,0,none⟩)),(69,.slice (some ⟨Bi,0,none⟩) 2 2),(70,.int .i64 2),(71,.int .i64 x)]) (fun x=>.blk Bi 4 [.bool false,.bool true] 2::.blk B4 25 [.bool bn,.string (bs bu),.string (bs bd)] 3::.blk B3 47 [.slice (some ⟨ba,oa,none⟩) rs.length c,.slice b l.length d,.slice pa ps.length pc] 3::[]) (fun x=>x<=2) ?_ sbT sbL ?_
 ·exact Nat.zero_le _
 intro i hi ih
 try dsimp only at hi ⊢
 by_cases hi2:i=2
 ·subst hi2
  clear ih;repeat' first|(refine gp ?_;and_intros<;>first|exact trivial|repeat first|intro(Bk:Nat)|intro h)|(apply G.cV (g:=10);rfl;rfl;exact fun w' _=>bQ w')|fail
  all_goals exact aA Tryz.func7 Tryz.results7 rfl
 obtain ⟨t,ht⟩:∃ t:Bool,([.bool false,.bool true]:List Value)[0+i*1]?=some (.bool t):=by
  obtain rfl|rfl:i=0∨i=1:=by omega
  ·exact ⟨_,rfl⟩
  ·exact ⟨_,rfl⟩
 have hv1:=fun w' (hb:Below w.heap.size w w')=>DQ t (some ⟨ba,oa,none⟩) c b d pa pc w' (hA.below hb) (hB.below hb) hM (hP.below hb) (fE (t:=t) dc hM hse.shrt)
 have ih:=ih (i+1) om om;by_cases hv:(bF t rs l ps).2=0
 case neg =>
  generalize bF t rs l ps=V at *;obtain ⟨⟨n1,u1,d1⟩,e1⟩:=V;dsimp only [qA] at hv hv1;repeat' first|(refine gp ?_;and_intros<;>first|exact trivial|repeat first|intro(Bk:Nat)|intro h)|(apply G.ld;rfl;(apply LdV.one;apply aC.blk;exact mm;exact ht);rfl)|(apply G.cV (g:=11) (d:=83);rfl;rfl;exact fun w' hw'=>hv1 w' hw'.below)|fail
  all_goals exact J.fin ih
 have hlen:=(qM hv).2.1;have hkp:k < ps.length:=by omega
 have hmv:=fun {p:Prf}=>Ll (t:=t) (p:=p) hf1 hf2 hse hb20 hv hkn hkp
 obtain ⟨q1,q2,⟨m1,s1⟩,⟨m2,s2⟩,cc,dd,v1,v2,v3⟩:=GF hf1 hf2 hse hv hkn;have f1:=sG s1;rw [v1] at f1;have f2:=sG s2;rw [v2] at f2;rw [v3] at hv1;generalize hQ0:rQ (cc+dd)=Q0 at *;obtain ⟨bp,op,rfl,hrp⟩:=aE.all hP.1 om;have hrk:=hrp k hkp;have hpm:=gM hkp;have hpk:=hP.2 _ hpm;have hps:=hse.2 _ hpm;generalize hpe:ps[k]=pk at *;dsimp only [prV] at hrk;have hst:pk.st.length<=30/\pk.cl.length<=30:=by
  have:=hps.1;rw [List.length_append] at this;omega
 have had:=fun (q:Q3) (hq:aH 40 q) w'=>jA q ⟨bn,bu,bd⟩ w' (Nat.le_trans hq.1 dc) (Nat.le_trans hq.2 dc) (Nat.le_trans hb20.1 dc) (Nat.le_trans hb20.2 dc)
 have hsb:=fun (q:Q3) (hq:aH 40 q) w'=>nZ q ⟨bn,bu,bd⟩ w' (Nat.le_trans hq.1 dc) (Nat.le_trans hq.2 dc) (Nat.le_trans hb20.1 dc) (Nat.le_trans hb20.2 dc)
 generalize hbq:qR ⟨bn,bu,bd⟩=bb at *;repeat' first|(refine gp ?_;and_intros<;>first|exact trivial|repeat first|intro(Bk:Nat)|intro h)|(apply G.ld;rfl;(apply LdV.one;apply aC.blk;exact mm;exact ht);rfl)|(apply G.cV (g:=11) (d:=83);rfl;rfl;exact fun w' hw'=>hv1 w' hw'.below)|(apply G.QN;rfl;intro Be)|(apply G.QV;rfl;rfl;rfl;(repeat (first|exact RAt.head|apply RAt.tail));exact cB.old (f:=prV) (fun _=>rfl) (fun _=>rfl) hP.1;exact List.nil_append _;omega;omega;rw [Nat.zero_add];intro a2 c2)|(apply G.ix (i:=k);rfl;rfl;exact hik;exact hkp;rfl)|fail
 obtain ⟨Bx,rfl⟩:∃ x,x=Bk:=⟨_,rfl⟩;obtain ⟨B10,rfl⟩:∃ x,x=Bk:=⟨_,rfl⟩;rw [hik];apply J.nilOwn (E:=25) (size:=3);refine J.loop (c:=_) ((0,none,0):Nat×Option Addr×Nat) (fun x=>pk.st.length-x.1) (fun x=>[(2,.int .u8 at_),(3,.pointer (some ⟨B3,0,none⟩)),(4,.pointer (some ⟨B4,0,none⟩)),(9,.bool t),(10,.pointer (some ⟨B10,0,none⟩)),(12,.int .i64 k),(13,.slice a2 ps.length c2),(14,.pointer (some ⟨Bx,0,none⟩)),(69,.slice (some ⟨Bi,0,none⟩) 2 2),(70,.int .i64 2),(71,.int .i64 i),(110,.slice pk.sa pk.st.length pk.sc),(111,.int .i64 pk.st.length),(112,.int .i64 x.1)]) (fun x=>.own 0 (.slice x.2.1 x.1 x.2.2) 25 3 x.1 (flat qV (mvS bb (pk.st.take x.1)))::.blk Bx 63 [.slice x.2.1 x.1 x.2.2,.slice none 0 0] 2::.own 0 (.slice a2 ps.length c2) 63 2 ps.length (flat prV ps)::.blk B10 25 (qV Q0) 3::.blk Bi 4 [.bool false,.bool true] 2::.blk B4 25 [.bool bn,.string (bs bu),.string (bs bd)] 3::.blk B3 47 [.slice (some ⟨ba,oa,none⟩) rs.length c,.slice b l.length d,.slice (some ⟨bp,op,none⟩) ps.length pc] 3::[]) (fun x=>x.1<=pk.st.length) ?_ sbT sbL ?_
 ·exact Nat.zero_le _
 intro ⟨j,a3,c3⟩ hj ih1;dsimp only at hj ⊢;by_cases hjn:j < pk.st.length
 ·have ih1:=fun a4 c4=>ih1 (j+1,a4,c4) hjn (by dsimp only;omega)
  dsimp only at ih1;obtain ⟨bs1,os1,e1,hrs1⟩:=aE.all hpk.1 om;have hrj:=hrs1 j hjn;have hq:=hps.2 _ (List.mem_append_left _ (gM hjn));have had:=had _ hq;have hap:=HK (b:=bb) hjn;clear hsb ih hmv hv1 v1 v2 v3 hM hse hfw hsh hvd hA hB hP hrp hrs1 s1 s2 m1 m2 q1 q2;rw [e1] at ih1 ⊢;repeat' first|(refine gp ?_;and_intros<;>first|exact trivial|repeat first|intro(Bk:Nat)|intro h)|(apply J.Py (.q 0 <| .q 1 <| .q 2 <| .q 3 <| .q 4 <| .e 5 <| .r 6 <| .q 7 <| .r 8 <| .nil);exact Tryz.Pr;decide +kernel)|(apply G.cV (g:=27);rfl;rfl;exact fun w' _=>had w')|(apply G.Pu;rfl;rfl;rfl;rfl;rfl;rfl;rfl;rfl;intro Bs)|(apply G.QV;rfl;rfl;rfl;(repeat (first|exact RAt.head|apply RAt.tail));exact cB.blk (by exact mm) rfl rfl;exact hap;omega;omega;intro a4 c4)|(apply G.s1 (v:=.slice a4 (j+1) c4);rfl;rfl;rfl;(repeat (first|exact RAt.head|apply RAt.tail));exact ⟨rfl,rfl⟩;exact Nat.le_of_ble_eq_true rfl;rfl)|fail
  exact J.fin (ih1 a4 c4)
 obtain rfl:j=pk.st.length:=by omega
 clear ih1 had;rw [List.take_length];all_goals (refine go ?_;and_intros<;>first|exact trivial|repeat first|intro(Bk:Nat)|intro h)
 apply J.nilOwn (E:=25) (size:=3);refine J.loop (c:=_) ((0,none,0):Nat×Option Addr×Nat) (fun x=>pk.cl.length-x.1) (fun x=>[(2,.int .u8 at_),(3,.pointer (some ⟨B3,0,none⟩)),(4,.pointer (some ⟨B4,0,none⟩)),(9,.bool t),(10,.pointer (some ⟨B10,0,none⟩)),(12,.int .i64 k),(13,.slice a2 ps.length c2),(14,.pointer (some ⟨Bx,0,none⟩)),(69,.slice (some ⟨Bi,0,none⟩) 2 2),(70,.int .i64 2),(71,.int .i64 i),(130,.slice pk.ca pk.cl.length pk.cc),(131,.int .i64 pk.cl.length),(132,.int .i64 x.1)]) (fun x=>.own 0 (.slice x.2.1 x.1 x.2.2) 25 3 x.1 (flat qV (mvS (-bb) (pk.cl.take x.1)))::.own 0 (.slice a3 pk.st.length c3) 25 3 pk.st.length (flat qV (mvS bb pk.st))::.blk Bx 63 [.slice a3 pk.st.length c3,.slice x.2.1 x.1 x.2.2] 2::.own 0 (.slice a2 ps.length c2) 63 2 ps.length (flat prV ps)::.blk B10 25 (qV Q0) 3::.blk Bi 4 [.bool false,.bool true] 2::.blk B4 25 [.bool bn,.string (bs bu),.string (bs bd)] 3::.blk B3 47 [.slice (some ⟨ba,oa,none⟩) rs.length c,.slice b l.length d,.slice (some ⟨bp,op,none⟩) ps.length pc] 3::[]) (fun x=>x.1<=pk.cl.length) ?_ sbT sbL ?_
 ·exact Nat.zero_le _
 intro ⟨j,a4,c4⟩ hj ih1;dsimp only at hj ⊢;by_cases hjn:j < pk.cl.length
 ·have ih1:=fun a5 c5=>ih1 (j+1,a5,c5) hjn (by dsimp only;omega)
  dsimp only at ih1;obtain ⟨bs1,os1,e1,hrs1⟩:=aE.all hpk.2 om;have hrj:=hrs1 j hjn;have hq:=hps.2 _ (List.mem_append_right _ (gM hjn));have hsb:=hsb _ hq;rw [Rat.sub_eq_add_neg] at hsb;have hap:=HK (b:=-bb) hjn;clear ih hmv hv1 v1 v2 v3 hM hse hfw hsh hvd hA hB hP hrp hrs1 s1 s2 m1 m2 q1 q2;rw [e1] at ih1 ⊢;repeat' first|(refine gp ?_;and_intros<;>first|exact trivial|repeat first|intro(Bk:Nat)|intro h)|(apply J.Py (.q 0 <| .q 1 <| .q 2 <| .q 3 <| .q 4 <| .e 5 <| .r 6 <| .q 7 <| .r 8 <| .nil);exact Tryz.Pr;decide +kernel)|(apply G.cV (g:=28);rfl;rfl;exact fun w' _=>hsb w')|(apply G.Pu;rfl;rfl;rfl;rfl;rfl;rfl;rfl;rfl;intro Bs)|(apply G.QV;rfl;rfl;rfl;(repeat (first|exact RAt.head|apply RAt.tail));exact cB.blk (by exact mm) rfl rfl;exact hap;omega;omega;intro a5 c5)|(apply G.s1 (v:=.slice a5 (j+1) c5);rfl;rfl;rfl;(repeat (first|exact RAt.head|apply RAt.tail));exact ⟨rfl,rfl⟩;exact Nat.le_of_ble_eq_true rfl;rfl)|fail
  exact J.fin (ih1 a5 c5)
 obtain rfl:j=pk.cl.length:=by omega
 clear ih1 hsb;rw [List.take_length];refine J.ownOpen (v:=.slice a2 ps.length c2) (by (repeat (first|exact RAt.head|apply RAt.tail))) om fun g cap hcap1 hcap2 e=>?_
 obtain ⟨rfl,-,rfl⟩:a2=some ⟨g,0,none⟩/\True/\c2=cap:=by cases e;exact ⟨rfl,trivial,rfl⟩
 clear e;have hset:dU (flat prV ps) (0+k*2) [.slice a3 pk.st.length c3,.slice a4 pk.cl.length c4]=flat prV (ps.set k ⟨mvS bb pk.st,mvS (-bb) pk.cl,a3,c3,a4,c4⟩):=by
  rw [Nat.zero_add,<- pJ (f:=prV) (sz:=2) (fun _=>rfl) hkp,prV]
  dsimp only;rw [Ec,Ec]
 have hsl:0+k*2+2<=(flat prV ps).length:=by
  rw [aO (f:=prV) (sz:=2) (fun _=>rfl)];omega
 have hmv:=hmv (p:=⟨mvS bb pk.st,mvS (-bb) pk.cl,a3,c3,a4,c4⟩) rfl rfl;rw [v3] at hmv;rw [IO hn1] at q1 m1 s1 v1;rw [IP hn1] at q2 m2 s2 v2;have hct1:=fun w' (hb:Below w.heap.size w w')=>BB b l d rs[0].from_ rs[k].from_ w' (hB.below hb) hM.few
 have hct2:=fun w' (hb:Below w.heap.size w w')=>BB b l d rs[k].from_ rs[rs.length-1].to_ w' (hB.below hb) hM.few
 have p1:=fun w' (hb:Below w.heap.size w w')=>Ld (x:=rs[0].from_) (y:=rs[k].from_) (hB.below hb)
 have p2:=fun w' (hb:Below w.heap.size w w')=>Ld (x:=rs[k].from_) (y:=rs[rs.length-1].to_) (hB.below hb)
 simp only [q1] at hct1 p1;simp only [q2] at hct2 p2;have ra1:=fun w' (hb:Below w.heap.size w w')=>(hA.below hb).sub (c:=c) (Nat.zero_le k) (Nat.le_of_lt hkn) hcr
 have rp1:=fun w' (hb:Below w.heap.size w w')=>(hP.below hb).sub (c:=pc) (Nat.zero_le k) (Nat.le_of_lt hkp) hcp
 have ra2:=fun w' (hb:Below w.heap.size w w')=>(hA.below hb).sub (c:=c) (Nat.le_of_lt hkn) (Nat.le_refl _) hcr
 have rp2:=fun w' (hb:Below w.heap.size w w')=>(hP.below hb).sub (c:=pc) (Nat.le_of_lt hkp) (Nat.le_refl _) hcp
 simp only [List.drop_zero,Nat.sub_zero] at ra1 rp1;rw [List.take_of_length_le (by rw [List.length_drop];exact Nat.le_refl _)] at ra2 rp2
 have n1:(rs.take k).length=k:=by rw [List.length_take];omega
 have n2:(ps.take k).length=k:=by rw [List.length_take];omega
 have n3:(rs.drop k).length=rs.length-k:=List.length_drop ..;have n4:(ps.drop k).length=ps.length-k:=List.length_drop ..;have hadd:=fun w'=>jA (rQ cc) (rQ dd) w' (Nat.le_trans f1.1 dc) (Nat.le_trans f1.2 dc) (Nat.le_trans f2.1 dc) (Nat.le_trans f2.2 dc)
 simp only [bR,hQ0] at hadd;generalize eP rs[0].from_ rs[k].from_ l=K1 at *;generalize eP rs[k].from_ rs[rs.length-1].to_ l=K2 at *;generalize rQ cc=Qc at *;generalize rQ dd=Qd at *;repeat' first|(refine gp ?_;and_intros<;>first|exact trivial|repeat first|intro(Bk:Nat)|intro h)|(apply G.ix (i:=k) (d:=148);rfl;rfl;rfl;exact hkp;rfl)|(apply G.sA (vs:=[.slice a3 pk.st.length c3,.slice a4 pk.cl.length c4]) (out:=flat prV (ps.set k ⟨mvS bb pk.st,mvS (-bb) pk.cl,a3,c3,a4,c4⟩));rfl;rfl;rfl;(repeat (first|exact RAt.head|apply RAt.tail));rfl;rfl;exact hsl;exact hset)|(apply G.cV (g:=11) (d:=156);rfl;rfl;exact fun w' hw'=>MB hw' mm mm mm (Ec _ _) (Ec _ _) hM (hA.below hw'.below) (hB.below hw'.below) (hP.below hw'.below) hmv)|(apply G.ix (i:=0) (d:=161);rfl;rfl;exact rfl;exact hn1;rfl)|(apply G.ix (i:=k) (d:=167);rfl;rfl;rfl;exact hkn;rfl)|(apply G.ix (i:=rs.length-1) (d:=176);rfl;rfl;omega;omega;rfl)|(apply G.cO (g:=29) (d:=185) (vs:=[.slice b l.length d,.agg #[.int .i64 rs[0].from_,.int .i64 rs[k].from_]]) (fun u=>.tuple #[u,.int .i64 0]);rfl;rfl;exact fun w' hw=>hct1 w' hw.below;intro u1;refine G.PS RAt.au ?_;intro a5 c5 e5;subst e5)|(apply G.cO (g:=29) (d:=194) (vs:=[.slice b l.length d,.agg #[.int .i64 rs[k].from_,.int .i64 rs[rs.length-1].to_]]) (fun u=>.tuple #[u,.int .i64 0]);rfl;rfl;exact fun w' hw=>hct2 w' hw.below;intro u2;refine G.PS RAt.au ?_;intro a6 c6 e6;subst e6)|(apply G.sliceTo (h:=k) (d:=201);rfl;rfl;rfl;omega;rfl;rfl;rfl)|(apply G.sliceTo (h:=k) (d:=206);rfl;rfl;rfl;omega;rfl;rfl;rfl)|(apply G.sliceFrom (l:=k) (d:=215);rfl;rfl;rfl;omega;rfl;rfl;rfl)|(apply G.sliceFrom (l:=k) (d:=220);rfl;rfl;rfl;omega;rfl;rfl;rfl)|(apply G.cV (g:=11) (d:=208);rfl;rfl;exact fun w' hw'=>Fo (ra1 w' hw'.below) (rp1 w' hw'.below) n1 n2 (CD (c:=c5) hw' mm (p1 w' hw'.below)) ⟨m1,s1⟩ v1)|(apply G.cV (g:=11) (d:=222);rfl;rfl;exact fun w' hw'=>Fo (ra2 w' hw'.below) (rp2 w' hw'.below) n3 n4 (CD (c:=c6) hw' mm (p2 w' hw'.below)) ⟨m2,s2⟩ v2)|(apply G.cV (g:=27) (d:=251);rfl;rfl;exact fun w' _=>hadd w')|(apply G.neR Q0 Q0;rfl;rfl;rfl;all_goals intro h;all_goals try (exact absurd rfl h))|(apply J.Py (.q 0 <| .q 1 <| .q 2 <| .q 3 <| .q 4 <| .q 5 <| .q 6 <| .q 7 <| .q 8 <| .q 9 <| .q 10 <| .q 11 <| .q 12 <| .q 13 <| .e 14 <| .r 15 <| .q 16 <| .nil);exact Tryz.Pr;decide +kernel)|(apply J.Py (.q 0 <| .q 1 <| .q 2 <| .q 3 <| .q 4 <| .q 5 <| .q 6 <| .q 7 <| .q 8 <| .q 9 <| .q 10 <| .q 11 <| .q 12 <| .q 13 <| .q 14 <| .q 15 <| .q 16 <| .q 17 <| .q 18 <| .q 19 <| .q 20 <| .q 21 <| .q 22 <| .q 23 <| .q 24 <| .q 25 <| .q 26 <| .q 27 <| .q 28 <| .q 29 <| .nil);exact Tryz.Pr;decide +kernel)|fail
 all_goals exact J.fin ih
end Go.Proofs.YtjcecdmbfmccoaaGreatDoor
