/-
  Stores of structs in regions that fork.
-/
import Derived.Test.YtcdgibkbbcekhaaGreatDoorRA17
set_option linter.unusedVariables false
set_option linter.unusedSimpArgs false
set_option linter.unusedSectionVars false
namespace Go.Sl
open Go.RowKit
variable {C:Ctx}{st:List (Nat×Value)}{M:List Row}{k:List Item}{q q':Md}{all rest:List Oper}{d:Nat}{ty:TypeId}{pos:String}{after:Array Edge}{gd:Option (Nat×Bool)}
theorem G.sGS {T n:TypeId}{x y:Operand}{vs:List Value}{b j tot:Nat}{e:TypeId}{cs out:List Value}{F:Row→List Row}{M0:List Row} (hg:wnB all st gd=true) (hq:q.sto=some (M0,q'))
  (hx:evS st x=some (.pointer (some ⟨b,j,none⟩))) (hy:evS st y=some (.agg vs.toArray)) (hm:RAt (.blk b e cs tot) M F) [hT:TSize C.P T n] (hn:vs.length=n) (h1:vs.all (·.oneCell')=true) (hj:j+vs.length≤cs.length) (ho:setL cs j vs=out)
  (hsub:M0.Sublist (F (.blk b e out tot))) (h:G q' C all st (F (.blk b e out tot)) rest k) :
  G q C all st M ({ dst:=none,op:=.store T x y,type:=ty,pos,after,guard:=gd }::rest) k:=by
 obtain ⟨i,h5,h6⟩:=hm.idx
 rw [← h6] at h hsub
 exact G.storeS (vs:=vs) hg hq hx h5 hy rfl h1 ho hj hn hsub h
end Go.Sl
/-
 Ranges over functions whose captured cells change: they are lost.
-/
namespace Go.Sl
open Go.RowKit
variable {C:Ctx}{st:List (Nat×Value)}{M:List Row}{k:List Item}{q q':Md}{all rest:List Oper}{d:Nat}{ty:TypeId}{pos:String}{after:Array Edge}{gd:Option (Nat×Bool)}
def IterD (P:Program) (w0:World) (K:List Row) (f:FuncId) (cap:Array Value) {E:Type} (enc:E→List Value) (es:List E):Prop :=
 ∀ {X:Type} (Rs:X→List Row) (Inv:Nat→X→Prop) (Out:X→Prop) (fY:Fn) (cY:Array Value),
  (∀ i x e,Inv i x→es[i]?=some e→∀ M' w,Sat w0 (Rs x++M') w→CallsV P (.func fY #[] cY) (enc e) w fun v w'=>∃ x',Sat w0 (Rs x'++M') w'∧(v=.bool true∧Inv (i+1) x'∨v=.bool false∧Out x')) →
  ∀ x0,Inv 0 x0→∀ M1 w,Sat w0 (K++(Rs x0++M1)) w →
   Calls P f (#[.func fY #[] cY]++cap) w fun e w'=>e=.returned (.tuple #[])∧∃ x',Sat w0 (Rs x'++M1) w'∧(Inv es.length x'∨Out x')
theorem J.rangeD1 {f:FuncId} [hF:Fun C.P f] {cap:Array Value}{g:Operand}{p1:Tmp}{assign body:Code}{E:Type}{e1:E→Value}{es:List E}{K:List Row}{X:Type} (Rs:X→List Row) (Inv:Nat→X→Prop) (Out:Code→X→Prop) (x0:X) (M1:List Row)
  (hIt:IterD C.P C.w0 K f cap (fun e=>[e1 e]) es) (hb:C.b.roundOf=none) (hg:evS st g=some (.func (.func f) #[] cap)) (hp1:Nat.blt p1 C.N=true) (hM:M.Perm (K++(Rs x0++M1))) (hI:Inv 0 x0)
  (hround:∀ i x e,Inv i x→es[i]?=some e→∀ L (r:Loop) M',r.state=.ready→r.pending=none →
   J (rctx C.P L C.b.fn C.N (RoundR C.w0 L r Rs M' (Inv (i+1)) Out) C.w0) ((p1,e1 e)::st) (.obj L (.loop r)::Rs x++M') [.code assign,.beginRound,.code body])
  (h1:∀ Bd x,Inv es.length x→J { C with D:=mark Bd::C.D } st (.obj Bd (.deferred (some []))::(Rs x++M1)) k)
  (h2:∀ Bd x c,Out c x→J { C with D:=mark Bd::C.D } st (.obj Bd (.deferred (some []))::(Rs x++M1)) (.code c::k)) :
  J C st M (.code (.rangeFunc g #[p1] assign body)::k):=by
 refine J.perm hM (J.range (f:=f) (cap:=cap) (X:={ x:X×Option Code // match x.2 with|none=>Inv es.length x.1|some c=>Out c x.1 }) (fun x=>Rs x.1.1++M1) (fun x=>x.1.2) (fun x=>loopSt x.1.2) hb hg (fun x=>by rcases x with ⟨⟨_,_|_⟩,_⟩<;>simp [loopSt]) ?_ fun Bd x=>?_)
 ·intro tmps Bd L w r hr hfit hw
  have hrs:r.state=.ready:=by rw [hr]
  have hrp:r.pending=none:=by rw [hr]
  have hperm:∀ (o:Obj) x,(Row.obj L o::.obj Bd (.deferred (some []))::(K++(Rs x++M1))).Perm (K++((.obj L o::Rs x)++(.obj Bd (.deferred (some []))::M1))):=fun o x =>
   perm_cat [[Row.obj L o],[.obj Bd (.deferred (some []))],K,Rs x,M1] [0,1,2,3,4] [2,0,3,1,4] rfl
  have hperm2:∀ (o:Obj) x,(Row.obj L o::.obj Bd (.deferred (some []))::(Rs x++M1)).Perm ((.obj L o::Rs x)++(.obj Bd (.deferred (some []))::M1)):=fun o x =>
   perm_cat [[Row.obj L o],[.obj Bd (.deferred (some []))],Rs x,M1] [0,1,2,3] [0,2,1,3] rfl
  have hmain:=hIt (X:=X×Option Code) (fun x=>Row.obj L (.loop (loopAt r x.2))::Rs x.1) (fun i x=>x.2=none∧Inv i x.1) (fun x=>∃ c,x.2=some c∧Out c x.1) (.yield L) #[] ?_ (x0,none) ⟨rfl,hI⟩ (.obj Bd (.deferred (some []))::M1) w (hw.perm (hperm _ x0))
  ·refine hmain.mono fun e w2 ⟨q1,⟨x,o⟩,q2,q3⟩=>?_
   have key:Sat C.w0 (.obj L (.loop { r with state:=loopSt o,pending:=o })::.obj Bd (.deferred (some []))::(Rs x++M1)) w2:=by
    have h3:=q2.perm (hperm2 _ x).symm
    cases o with
    | none =>
     have hrr:({ r with state:=.ready,pending:=none }:Loop)=r:=by rw [hr]
     show Sat C.w0 (.obj L (.loop { r with state:=.ready,pending:=none })::_) w2
     rw [hrr];exact h3
    | some c=>exact h3
   rcases q3 with ⟨q4,q5⟩|⟨c,q4,q5⟩
   ·dsimp only at q4;subst q4
    exact ⟨_,⟨(x,none),q5⟩,q1,key⟩
   ·dsimp only at q4;subst q4
    exact ⟨_,⟨(x,some c),q5⟩,q1,key⟩
  ·rintro i ⟨x,o⟩ e ⟨h3,h4⟩ h5 M' w1 hw1
   dsimp only at h3 h4 hw1;subst h3
   have h6:=hround i x e h4 h5 L r M' hrs hrp
   refine .yield L r rfl (hw1.hold _ (.head _)) (by rw [hr];rfl) ?_
   have hf6:=hfit.put hp1 (e1 e)
   have e3:(r.params.zip [e1 e].toArray).foldl (fun tmps (t,a)=>tmps.setIfInBounds t a) r.tmps=(({ tmps:=tmps,defers:=[] }:Act).put (some p1) (e1 e)).tmps:=by
    have e0:((#[p1]:Array Tmp).zip [e1 e].toArray)=#[(p1,e1 e)]:=by simp
    rw [hr];dsimp only;rw [e0];simp [Act.put]
   rw [e3,show r.fn=C.b.fn by rw [hr],show r.assign=assign by rw [hr],show r.body=body by rw [hr]]
   have h7:=rounds_of hf6 hw1 h6
   intro c cs
   obtain ⟨v,w',⟨x',h8⟩,h9⟩:=h7 c cs
   refine ⟨v,w',?_,h9⟩
   rcases h8 with ⟨g1,g2,g3⟩|⟨cc,g1,g2,g3⟩
   ·exact ⟨(x',none),g3,.inl ⟨g1,rfl,g2⟩⟩
   ·exact ⟨(x',some cc),g3,.inr ⟨g1,cc,rfl,g2⟩⟩
 ·rcases x with ⟨⟨x,_|c⟩,hx⟩
  ·exact h1 Bd x hx
  ·exact h2 Bd x c hx
end Go.Sl
/-
 Stores of structs in regions that fork;a cut (as right/PD has them).
-/
namespace Go.Sl
open Go.RowKit
variable {C:Ctx}{st:List (Nat×Value)}{M:List Row}{k:List Item}{q q':Md}{all rest:List Oper}{d:Nat}{ty:TypeId}{pos:String}{after:Array Edge}{gd:Option (Nat×Bool)}
theorem J.cutC {k2:List Item}{X:Type} (stF:X→List (Nat×Value)) (MF:X→List Row) (h:(∀ x,J C (stF x) (MF x) k2)→J C st M k) (hk:∀ x,J C (stF x) (MF x) k2):J C st M k:=h hk
theorem G.sCS {T n:TypeId}{x y:Operand}{vs:List Value}{b j tot:Nat}{e:TypeId}{cs out:List Value}{F:Row→List Row}{M0:List Row} (hg:wnB all st gd=true) (hq:q.sto=some (M0,q'))
  (hx:evS st x=some (.pointer (some ⟨b,j,none⟩))) (hy:evS st y=some (.agg vs.toArray)) (hm:RAt (.blk b e cs tot) M F) [hT:TSize C.P T n] (hn:vs.length=n) (h1:vs.all (·.oneCell')=true) (hj:j+vs.length≤cs.length) (ho:setL cs j vs=out)
  (hsub:M0.Sublist (F (.blk b e out tot))) (h:G q' C all st (F (.blk b e out tot)) rest k) :
  G q C all st M ({ dst:=none,op:=.store T x y,type:=ty,pos,after,guard:=gd }::rest) k:=by
 obtain ⟨i,h5,h6⟩:=hm.idx
 rw [← h6] at h hsub
 exact G.storeS (vs:=vs) hg hq hx h5 hy rfl h1 ho hj hn hsub h
theorem G.sCO {i:Nat}{p:Pt}{T n:TypeId}{x y:Operand}{vs:List Value}{b j tot:Nat}{e:TypeId}{cs out:List Value}{F:Row→List Row}{M0:List Row} (hg:wnB all st gd=true)
  (hx:evS st x=some (.pointer (some ⟨b,j,none⟩))) (hy:evS st y=some (.agg vs.toArray)) (hm:RAt (.blk b e cs tot) M F) [hT:TSize C.P T n] (hn:vs.length=n) (h1:vs.all (·.oneCell')=true) (hj:j+vs.length≤cs.length) (ho:setL cs j vs=out)
  (hsub:M0.Sublist (F (.blk b e out tot))) (h:G (.anys M0 p) C all st (F (.blk b e out tot)) rest k) :
  G (.ones M0 i p) C all st M ({ dst:=none,op:=.store T x y,type:=ty,pos,after,guard:=gd }::rest) k:=by
 obtain ⟨i,h5,h6⟩:=hm.idx
 rw [← h6] at h hsub
 subst ho
 refine G.oneS hg (Eff.unit fun a w hf hw=>?_)
 obtain ⟨w',h2,h3⟩:=hw.setRow h5 hj (fun v hv=>List.all_eq_true.1 h1 v hv) C.P
 refine ⟨w',_,?_,h3,hsub,h⟩
 have hvs:(Value.agg vs.toArray).cells=vs.toArray:=rfl
 simp [execOp,hf.eval hx,hf.eval hy,Instr.storeAt,Instr.sureAddr,storeVar,hT.h,hvs,hn,h2]
end Go.Sl
/-
 Contract: run.Cut.
-/
namespace Go.Proofs.YtcdgibkbbcekhaaGreatDoor
open Go.RowKit Go.Sl Go.Num
def RetU2 (L0:List Rn) (P:List Rn→List Rn→Prop) (v:Option Addr→Nat→Nat→Option Addr→Nat→Nat→Value) (w:World) (e:Ending) (w':World):Prop :=
 ∃ A a' ca B b' cb,P A B∧e=.returned (v a' A.length ca b' B.length cb)∧(RunsAt w' a' A∧((∀ p,a'=some p→w.heap.size≤p.block)∧A.length≤ca)∧srcR w.heap.size L0 A)∧(RunsAt w' b' B∧((∀ p,b'=some p→w.heap.size≤p.block)∧B.length≤cb)∧srcR w.heap.size L0 B)∧Below w.heap.size w w'
theorem RetU2.nil {L0:List Rn}{P:List Rn→List Rn→Prop} (v:Option Addr→Nat→Nat→Option Addr→Nat→Nat→Value) {w w':World} (hb:Below w.heap.size w w') (hP:P [] []):RetU2 L0 P v w (.returned (v none 0 0 none 0 0)) w' :=
 have h:RunsAt w' none []∧((∀ p,(none:Option Addr)=some p→w.heap.size≤p.block)∧([]:List Rn).length≤0)∧srcR w.heap.size L0 []:=⟨⟨fun h=>absurd h (Nat.lt_irrefl _),fun r hr=>by cases hr⟩,⟨fun p hp=>(by cases hp),Nat.le_refl _⟩,srcR.nil⟩
 ⟨[],none,0,[],none,0,hP,rfl,h,h,hb⟩
theorem Sat.retU2 {w0 w:World}{M:List Row}{L0 A B:List Rn}{a b:Option Addr}{n m c d:Nat}{P:List Rn→List Rn→Prop} (v:Option Addr→Nat→Nat→Option Addr→Nat→Nat→Value) (hw:Sat w0 M w) (hP:P A B) (hn:A.length=n) (hm:B.length=m) (hs:srcR w0.heap.size L0 A) (hs2:srcR w0.heap.size L0 B)
  (h1:Row.own 0 (.slice a n c) 90 5 n (flat rnV A)∈M:=by (repeat (first|exact List.Mem.head _|apply List.Mem.tail))) (h2:tfam w0.heap.size A∈M:=by (repeat (first|exact List.Mem.head _|apply List.Mem.tail))) (h3:Row.own 0 (.slice b m d) 90 5 m (flat rnV B)∈M:=by (repeat (first|exact List.Mem.head _|apply List.Mem.tail))) (h4:tfam w0.heap.size B∈M:=by (repeat (first|exact List.Mem.head _|apply List.Mem.tail))) :
  RetU2 L0 P v w0 (.returned (v a n c b m d)) w:=by
 subst hn hm
 refine ⟨A,a,c,B,b,d,hP,rfl,⟨⟨SlAt.ofOwn rnV_len (hw.hold _ h1) rfl,fun r hr=>hw.fam h2 r hr⟩,⟨?_,sat_ownCap hw h1⟩,hs⟩,⟨⟨SlAt.ofOwn rnV_len (hw.hold _ h3) rfl,fun r hr=>hw.fam h4 r hr⟩,⟨?_,sat_ownCap hw h3⟩,hs2⟩,hw.below⟩
 ·rintro p rfl
  exact ((hw.old _ h1).2 p.block rfl).1
 ·rintro p rfl
  exact ((hw.old _ h3).2 p.block rfl).1
structure CtAt (at_:Int) (l:List Rn) (k:Nat) (A B:List Rn):Prop where
 le:k≤l.length
 eq:cutF at_ ([],[]) ((l.take k).map rbare)=some (A.map rbare,B.map rbare)
theorem cutF_app (at_:Int):∀ (a b:List Rn) (o:List Rn×List Rn),cutF at_ o (a++b)=(cutF at_ o a).bind fun o'=>cutF at_ o' b
 | [],_,_=>rfl
 | x::a,b,o=>by
  rw [List.cons_append,cutF,cutF]
  cases cutR at_ x with
  | none=>rfl
  | some y=>exact cutF_app at_ a b _
theorem CtAt.step {at_:Int}{l:List Rn}{k:Nat}{A B:List Rn} (h:CtAt at_ l k A B) (hk:k < l.length) {a b:List Rn} (hc:cutR at_ (rbare l[k])=some (a.map rbare,b.map rbare)):CtAt at_ l (k+1) (A++a) (B++b):=⟨hk,by
 rw [List.take_add_one,List.getElem?_eq_getElem hk,List.map_append,cutF_app,h.eq]
 show cutF at_ (A.map rbare,B.map rbare) [rbare l[k]]=_
 rw [cutF,hc,List.map_append,List.map_append];rfl⟩
theorem CtAt.bad {at_:Int}{l:List Rn}{k:Nat}{A B:List Rn} (h:CtAt at_ l k A B) (hk:k < l.length) (hc:cutR at_ (rbare l[k])=none):cutF at_ ([],[]) (l.map rbare)=none:=by
 have e:l.map rbare=(l.take k).map rbare++(rbare l[k]::(l.drop (k+1)).map rbare):=by
  rw [← List.map_cons,← List.map_append,← List.drop_eq_getElem_cons hk,List.take_append_drop]
 rw [e,cutF_app,h.eq]
 show cutF at_ (A.map rbare,B.map rbare) (rbare l[k]::_)=none
 rw [cutF,hc]
theorem cutR_bare (at_:Int) (x:Rn):cutR at_ (rbare x)=(cutR at_ x).map fun y=>(y.1.map rbare,y.2.map rbare):=by
 unfold cutR
 show (if x.to_≤at_ then _ else if at_≤x.from_ then _ else if 1 < x.tab.length then _ else if x.tab.length=1 then _ else _)=_
 split
 ·rfl
 split
 ·rfl
 split
 ·rfl
 split<;>rfl
theorem cutF_bare (at_:Int):∀ (l:List Rn) (o:List Rn×List Rn),cutF at_ (o.1.map rbare,o.2.map rbare) (l.map rbare)=(cutF at_ o l).map fun y=>(y.1.map rbare,y.2.map rbare)
 | [],_=>rfl
 | x::l,o=>by
  rw [List.map_cons,cutF,cutF,cutR_bare]
  cases cutR at_ x with
  | none=>rfl
  | some y =>
   dsimp only [Option.map_some]
   rw [← List.map_append,← List.map_append]
   exact cutF_bare at_ l (o.1++y.1,o.2++y.2)
theorem cutF_ok {at_:Int}{l A B:List Rn} (h:cutF at_ ([],[]) (l.map rbare)=some (A.map rbare,B.map rbare)):∃ o,cutF at_ ([],[]) l=some o∧A.map rbare=o.1.map rbare∧B.map rbare=o.2.map rbare:=by
 have h1:=cutF_bare at_ l ([],[])
 rw [show (([]:List Rn).map rbare,([]:List Rn).map rbare)=([],[]) from rfl,h] at h1
 cases ho:cutF at_ ([],[]) l with
 | none=>rw [ho] at h1;cases h1
 | some o =>
  rw [ho] at h1
  have h2:=Option.some.inj h1
  exact ⟨o,rfl,congrArg Prod.fst h2,congrArg Prod.snd h2⟩
theorem cutF_no {at_:Int}{l:List Rn} (h:cutF at_ ([],[]) (l.map rbare)=none):cutF at_ ([],[]) l=none:=by
 have h1:=cutF_bare at_ l ([],[])
 rw [show (([]:List Rn).map rbare,([]:List Rn).map rbare)=([],[]) from rfl,h] at h1
 cases ho:cutF at_ ([],[]) l with
 | none=>rfl
 | some o=>rw [ho] at h1;cases h1
end Go.Proofs.YtcdgibkbbcekhaaGreatDoor
