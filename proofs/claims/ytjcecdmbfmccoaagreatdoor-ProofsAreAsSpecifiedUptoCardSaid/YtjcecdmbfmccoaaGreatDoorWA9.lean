/-
  Rows that are numbered: blocks each of which is written by its place.
-/
import Derived.Test.YtjcecdmbfmccoaaGreatDoorWA8
set_option linter.unusedVariables false
set_option linter.unusedSimpArgs false
set_option linter.unusedSectionVars false
namespace Go.Sl
open Go.RowKit
theorem RAt.Ra {r:Row}{M0:List Row}:∀ {R:List Row}{i:Nat},R[i]?=some r->RAt r (R++M0) (fun r'=>R.set i r'++M0)
 | [],i,h=>by cases h
 | s::R,0,h=>by cases h;exact RAt.head
 | s::R,i+1,h=>RAt.tail (RAt.Ra (R:=R) (i:=i) h)
theorem RAt.app {r:Row}{M0:List Row}{F:Row->List Row} (h:RAt r M0 F):∀ R:List Row,RAt r (R++M0) (fun r'=>R++F r')
 | []=>h
 | _::R=>RAt.tail (h.app R)
def rws {X:Type} (F:X->Row) (T:List X):List Row:=T.map F
section
variable {X:Type}{F:X->Row}{T:List X}{M0:List Row}
theorem H2 {i:Nat} (h:i < T.length):(rws F T)[i]?=some (F T[i]):=by rw [rws,List.getElem?_map,gE h];rfl
theorem iG {i:Nat} (h:i < T.length):F T[i]∈rws F T++M0:=List.mem_append_left _ (List.mem_of_getElem? (H2 h))
theorem FZ {i:Nat} (h:i < T.length):RAt (F T[i]) (rws F T++M0) (fun r'=>(rws F T).set i r'++M0):=RAt.Ra (H2 h)
theorem D4 (i:Nat) (x:X):(rws F T).set i (F x)=rws F (T.set i x):=by rw [rws,rws,List.map_set]
theorem Ko (T:List X) (x:X):rws F (T++[x])=rws F T++[F x]:=by rw [rws,List.map_append];rfl
end
theorem H3 {r:Row}{R:List Row}:∀ pre:List Row,(r::(pre++R)).Perm (pre++(r::R)):=fun pre=>(List.perm_middle (a:=r) (l₁:=pre) (l₂:=R)).symm
theorem J.P7 {X:Type}{F:X->Row}{T:List X}{C:Ctx}{st:List (Nat×Value)}{R:List Row}{k:List Item} (pre:List Row) (x:X) (h:J C st (pre++(rws F (T++[x])++R)) k):J C st (F x::(pre++(rws F T++R))) k:=by
 refine J.perm ?_ h;refine (H3 pre).trans (List.Perm.append_left pre ?_);rw [Ko,List.append_assoc];exact H3 (rws F T)
theorem EJ (cs:List Value) (j:Nat) (v:Value):dU cs j [v]=cs.set j v:=rfl
theorem Kp {cs vs:List Value} (h:vs.length=cs.length):dU cs 0 vs=vs:=by
 rw [rD _ _ _ om,List.take_zero,List.nil_append,List.drop_of_length_le om,List.append_nil]
theorem AM {z:Array Value}{sz:Nat} (hz:z.size=sz) (h0:0 < sz) (n:Nat):(Builtin.zeroCells z n).toList=flat (fun x:List Value=>x) (List.replicate n z.toList):=by
 rw [<- lH hz h0 n];subst hz;rfl
theorem G.Rq {C:Ctx}{st:List (Nat×Value)}{M:List Row}{k:List Item}{q q':Md}{all rest:List Oper}{ty:TypeId}{pos:String}{after:Array Edge}{gd:Option (Nat×Bool)}
  {T E sz n c bytes b o tot:Nat}{z:Value} (zc:List Value) {x:Operand}{e:TypeId}{cs:List Value}{F:Row->List Row} (hs:wqB all st gd q.res=some q') (hx:evS st x=some (.slice (some ⟨b,o,none⟩) n c)) (hm:RAt (.blk b e cs tot) M F) [hT:cZ C.P T E z sz bytes] (hz:z.cells=zc.toArray) (hzl:zc.length=sz) (h0:0 < sz) (h1:zc.all (·.oneCell')=true) (hzr:∀ w,(zeroValue E).run C.P w=.ok z w) (ho:o+n*sz<=cs.length)
  (h:G q' C all st (F (.blk b e (dU cs o (flat (fun x:List Value=>x) (List.replicate n zc))) tot)) rest k) :
  G q C all st M ({ dst:=none,op:=.call { callee:=.builtin .clear,args:=#[x],argTypes:=#[T] },type:=ty,pos,after,guard:=gd }::rest) k:=by
 obtain ⟨g1,g3⟩:=pL hs;obtain ⟨i,h5,h6⟩:=hm.idx;rw [<- h6] at h
 have hlen:(flat (fun x:List Value=>x) (List.replicate n zc)).length=n*sz:=by
  clear ho h hx
  induction n with
  | zero=>simp [flat]
  | succ n ih=>rw [List.replicate_succ,fA,List.length_append,ih,Nat.succ_mul,hzl];omega
 refine G.res g1 rfl g3 (Eff.QH fun a w hf hw=>?_)
 obtain ⟨w',h7,h8⟩:=hw.setRow h5 (j:=o) (vs:=flat (fun x:List Value=>x) (List.replicate n zc)) (by rw [hlen];exact ho) (fun v hv=>by
  obtain ⟨l,hl,hv⟩:=List.mem_flatten.1 hv;obtain ⟨y,hy,rfl⟩:=List.mem_map.1 hl;rw [List.eq_of_mem_replicate hy] at hv;exact List.all_eq_true.1 h1 v hv) C.P
 refine ⟨.tuple #[],w',_,?_,h8,h⟩;have hu:∀ w,(underlying T).run C.P w=.ok (.slice E) w:=fun w=>by simp [underlying,hT.h1]
 cases n with
 | zero =>
  have:w'=w:=by
   have h9:=h7;simp only [List.replicate,flat,List.map_nil,List.flatten_nil,storeCells] at h9;cases h9;rfl
  subst this;simp [execOp,resolve,hf.eval hx,invoke,builtin,Builtin.clear_,hu]
 | succ n =>
  have hzf:=AM (z:=zc.toArray) (sz:=sz) (by simpa using hzl) h0 (n+1)
  simp [execOp,resolve,hf.eval hx,invoke,builtin,Builtin.clear_,hu,hzr,hz,hzf,h7]
def NwL {A:Type} (sz:Nat) (f:A->List Value) (F:Value->Value) (w:World) (L:List A) (e:Ending) (w':World):Prop :=
 ∃ a' c',e=.returned (F (.slice a' L.length c'))/\aE w' a' sz (L.map f)/\(∀ p,a'=some p->w.heap.size<=p.block)/\Below w.heap.size w w'
section
variable {A:Type}{sz:Nat}{f:A->List Value}
theorem OJ {w0 w:World}{M:List Row}{i E base:Nat}{a:Option Addr}{n c:Nat}{l:List A} (hf:∀ x,(f x).length=sz) (hw:Sat w0 M w) (hm:M[i]?=some (.own base (.slice a n c) E sz n (flat f l))) (hn:l.length=n) (F:Value->Value):NwL sz f F w0 l (.returned (F (.slice a n c))) w:=by
 have hmem:=List.mem_of_getElem? hm;exact ⟨a,c,by rw [hn],aE.P8 hf (hw.hold _ hmem) hn,fun p hp=>((hw.old _ hmem).2 p.block (by subst hp;rfl)).1,hw.below⟩
theorem NR {w0 w:World}{M:List Row}{i E base n:Nat}{v:Value}{l:List A} (hf:∀ x,(f x).length=sz) (hw:Sat w0 M w) (hm:M[i]?=some (.own base v E sz n (flat f l))) (hn:l.length=n) (F:Value->Value):NwL sz f F w0 l (.returned (F v)) w:=by
 have hmem:=List.mem_of_getElem? hm;have h:=hw.hold _ hmem;obtain ⟨_,h2⟩:=h;rcases h2 with ⟨h3,h4⟩|⟨g,cap,cur,h3,_⟩
 ·subst h3 h4
  exact OJ hf hw hm hn F
 ·subst h3
  exact OJ hf hw hm hn F
theorem OK {w0 w:World}{M:List Row}{B E tot:Nat}{l:List A}{n c:Nat} (hf:∀ x,(f x).length=sz) (hw:Sat w0 M w) (hm:Row.blk B E (flat f l) tot∈M) (hn:l.length=n) (F:Value->Value):NwL sz f F w0 l (.returned (F (.slice (some ⟨B,0,none⟩) n c))) w :=
 ⟨some ⟨B,0,none⟩,c,by rw [hn],aE.P5 hf hw hm,(fun p hp=>by cases hp;exact ((hw.old _ hm).2 _ rfl).1),hw.below⟩
variable {C:Ctx}{st:List (Nat×Value)}{M:List Row}{k:List Item}{q q':Md}{all rest:List Oper}{d:Nat}{ty:TypeId}{pos:String}{after:Array Edge}{gd:Option (Nat×Bool)}
theorem G.cL {g:FuncId}{args:List Operand}{vs:List Value}{at_:Array TypeId} (F:Value->Value) (L:List A) (ha:evL st args=some vs) (hs:bA all st gd d C.N q.ext=some q') [hF:Fun C.P g]
  (hc:∀ w,Sat C.w0 M w->Calls C.P g vs.toArray w (NwL sz f F w L))
  (h:∀ a' c',(0 < L.length->∃ b off,a'=some ⟨b,off,none⟩)->(∀ p,a'=some p->C.w0.heap.size<=p.block)->G q' C all ((d,F (.slice a' L.length c'))::st) (aL C.w0.heap.size a' sz (L.map f)::M) rest k) :
  G q C all st M ({ dst:=some d,op:=.call { callee:=.value (.func g),args:=args.toArray,argTypes:=at_ },type:=ty,pos,after,guard:=gd }::rest) k:=by
 refine G.RD (sz:=sz) (fun _ _=>True) (fun a c=>F (.slice a L.length c)) (L.map f) ha hs (fun w hw=>(hc w hw).mono fun e w' hh=>?_) fun a' c' h1 h2 _=>h a' c' (fun h0=>h1 (by rwa [List.length_map])) h2
 obtain ⟨a',c',h1,h2,h3,h4⟩:=hh;exact ⟨a',c',h1,h2,h3,h4,trivial⟩
end
end Go.Sl
/-
 Contracts of the rational numbers in short forms;Neg,Min,Max,and sums.
-/
namespace Go.Proofs.YtjcecdmbfmccoaaGreatDoor
open Go.RowKit Go.Sl Go.Num
def big (x:Rat):Prop:=aH 60000000 (rQ x)
theorem big.a {x:Rat} (h:big x):(rQ x).num.length<=134217000/\(rQ x).den.length<=134217000:=⟨Nat.le_trans h.1 dc,Nat.le_trans h.2 dc⟩
theorem aH.big {x:Rat}{k:Nat} (h:aH k (rQ x)) (hk:k<=60000000):big x:=aF h hk
theorem LY {x y:Rat} (hx:big x) (hy:big y) (w:World):CR 27 #[qA (rQ x),qA (rQ y)] w (qA (rQ (x+y))):=by
 have h:=jA (rQ x) (rQ y) w (by have:=hx.a;omega) (by have:=hx.a;omega) (by have:=hy.a;omega) (by have:=hy.a;omega)
 rwa [bR,bR] at h
theorem NS {x y:Rat} (hx:big x) (hy:big y) (w:World):CR 28 #[qA (rQ x),qA (rQ y)] w (qA (rQ (x-y))):=by
 have h:=nZ (rQ x) (rQ y) w (by have:=hx.a;omega) (by have:=hx.a;omega) (by have:=hy.a;omega) (by have:=hy.a;omega)
 rwa [bR,bR] at h
theorem NT {x y:Rat} (hx:big x) (hy:big y) (w:World):CR 83 #[qA (rQ x),qA (rQ y)] w (qA (rQ (x*y))):=by
 have h:=kR (rQ x) (rQ y) w (by have:=hx.a;omega) (by have:=hx.a;omega) (by have:=hy.a;omega) (by have:=hy.a;omega)
 rwa [bR,bR] at h
theorem LZ {x y:Rat} (hx:big x) (hy:big y) (w:World):CR 22 #[qA (rQ x),qA (rQ y)] w (.int .i64 (dR (x-y))):=by
 have h:=kS (rQ x) (rQ y) w (by have:=hx.a;omega) (by have:=hx.a;omega) (by have:=hy.a;omega) (by have:=hy.a;omega)
 rwa [bR,bR] at h
theorem Ma {x:Rat} (hx:big x) (w:World):CR 145 #[qA (rQ x)] w (qA (rQ (-x))):=by
 have ax:=hx.a;have hfa:fLe (bE aY) 134217000:=eL (Nat.zero_le _) (Nat.zero_le _) dc;have hfb:fLe (bE (rQ x)) 134217000:=eL ax.1 ax.2 dc;obtain ⟨e1,d1⟩:=eK aY;obtain ⟨e2,d2⟩:=eK (rQ x);obtain ⟨e3,d3⟩:=mZ (s:=(bE aY).1) (t:=!(bE (rQ x)).1) (n:=(bE aY).2.1) (m:=(bE (rQ x)).2.1) d1 d2;have hle:=zX (g:=(!(bE (rQ x)).1,(bE (rQ x)).2.1,(bE (rQ x)).2.2)) hfa hfb;have hdo:=fun w'=>uM 63 (frA (bE aY)) (rQ x) _ w' om om (fun w2=>F9 (bE aY) (bE (rQ x)) w2 ⟨Nat.le_trans hfa.1 dc,Nat.le_trans hfa.2 dc⟩ ⟨Nat.le_trans hfb.1 dc,Nat.le_trans hfb.2 dc⟩) ⟨Nat.le_trans hle.1 dc,Nat.le_trans hle.2 dc⟩ d3
 rw [e3,e1,<- CO,e2,bR,show qR aY=0 from rfl,Rat.zero_add] at hdo
 have e0:frA (bE aY)=.agg #[.bool false,.string (bs []),.string (bs [1])]:=by kernel_rfl
 rw [e0] at hdo;generalize rQ (-x)=R at *;generalize rQ x=q at *;clear hle hfa hfb d3 e3 e2 e1 d1 d2;refine aB [(0,qA q)] Tryz.func145 Tryz.ntmps145 ?_;repeat' first|(refine gp ?_;and_intros<;>first|exact trivial|repeat first|intro(Bk:Nat)|intro h)|(apply G.cV (g:=69);rfl;rfl;exact fun w' _=>hdo w')
 all_goals exact aA Tryz.func145 Tryz.results145 rfl
theorem Mb {n:Int} (h1:-999999999999999<=n) (h2:n<=999999999999999) (w:World):CR 35 #[.int .i64 n] w (qA (rQ (n:Rat))):=Ca n w h1 h2
theorem Kq {rs:List Rn}{l:List Spn} (hr:0 < rs.length) (hl:0 < l.length):bI rs=rs[0]/\bX rs=rs[rs.length-1]/\(l.head?.map (·.from_)).getD 0=l[0].from_/\(l.getLast?.map (·.to_)).getD 0=l[l.length-1].to_:=by
 refine ⟨?_,?_,?_,?_⟩
 ·cases rs with
  | nil=>exact absurd hr (Nat.lt_irrefl _)
  | cons a b=>rfl
 ·rw [bX,List.getLast?_eq_getElem?,gE om,Option.getD_some]
 ·rw [List.head?_eq_getElem?,gE hl];rfl
 ·rw [List.getLast?_eq_getElem?,gE om];rfl
theorem oR (a:Option Addr) (rs:List Rn) (c:Nat) (b:Option Addr) (l:List Spn) (d:Nat) (w:World) (hA:aW w a rs) (hf:∀ r∈rs,r.tab.length<=64) (hB:aN w b l) (hg:∀ s∈l,fewS s) :
  CR 36 #[.slice a rs.length c,.slice b l.length d] w (.int .i64 (cU rs l)):=by
 have hc1:=fun w' (hb:Below w.heap.size w w')=>xV a rs c w' (hA.below hb) hf
 have hc2:=fun w' (hb:Below w.heap.size w w')=>lN b l d w' (hB.below hb) hg
 unfold cU;by_cases h1:aX rs=0
 ·rw [if_neg (fun h=>h h1)]
  have n1:=(jQ h1).1;rw [h1] at hc1;by_cases h2:aZ l=0
  ·rw [if_neg (fun h=>h h2)]
   have n2:=(cT h2).1;rw [h2] at hc2;by_cases h3:l.length=0
   ·rw [if_neg om]
    refine aB [(0,.slice a rs.length c),(1,.slice b l.length d)] Tryz.func36 Tryz.ntmps36 ?_;repeat' first|(refine gp ?_;and_intros<;>first|exact trivial|repeat first|intro(Bk:Nat)|intro h)|(apply G.cV (g:=54);rfl;rfl;exact fun w' hw=>hc1 w' hw.below)|(apply G.cV (g:=58);rfl;rfl;exact fun w' hw=>hc2 w' hw.below)
    all_goals exact aA Tryz.func36 Tryz.results36 rfl
   ·by_cases h4:rs.length=0
    ·rw [if_pos ⟨by omega,.inl h4⟩]
     refine aB [(0,.slice a rs.length c),(1,.slice b l.length d)] Tryz.func36 Tryz.ntmps36 ?_;repeat' first|(refine gp ?_;and_intros<;>first|exact trivial|repeat first|intro(Bk:Nat)|intro h)|(apply G.cV (g:=54);rfl;rfl;exact fun w' hw=>hc1 w' hw.below)|(apply G.cV (g:=58);rfl;rfl;exact fun w' hw=>hc2 w' hw.below)
     all_goals exact aA Tryz.func36 Tryz.results36 rfl
    ·obtain ⟨e1,e2,e3,e4⟩:=Kq (rs:=rs) (l:=l) om om
     rw [e1,e2,e3,e4];obtain ⟨ba,oa,rfl,hra⟩:=aE.all hA.1 om;obtain ⟨bb,ob,rfl,hrb⟩:=aE.all hB.1 om;have r0:=hra 0 om;have r1:=hra (rs.length-1) om;have s0:=hrb 0 om;have s1:=hrb (l.length-1) om;clear hra hrb e1 e2 e3 e4 hA hB hf hg;generalize rs[0]=x0 at *;generalize rs[rs.length-1]=x1 at *;generalize l[0]=y0 at *;generalize l[l.length-1]=y1 at *;dsimp only [rnV,spV] at r0 r1 s0 s1;refine aB [(0,.slice (some ⟨ba,oa,none⟩) rs.length c),(1,.slice (some ⟨bb,ob,none⟩) l.length d)] Tryz.func36 Tryz.ntmps36 ?_;repeat' first|(refine gp ?_;and_intros<;>first|exact trivial|repeat first|intro(Bk:Nat)|intro h)|(apply G.cV (g:=54);rfl;rfl;exact fun w' hw=>hc1 w' hw.below)|(apply G.cV (g:=58);rfl;rfl;exact fun w' hw=>hc2 w' hw.below)|(apply G.ix (i:=l.length-1);rfl;rfl;omega;omega;rfl)|(apply G.ix (i:=rs.length-1);rfl;rfl;omega;omega;rfl)
     all_goals refine aA Tryz.func36 Tryz.results36 ?_
     all_goals (first|rfl|(rw [if_pos om];done)|(rw [if_neg om];done))
  ·rw [if_pos h2]
   refine aB [(0,.slice a rs.length c),(1,.slice b l.length d)] Tryz.func36 Tryz.ntmps36 ?_;repeat' first|(refine gp ?_;and_intros<;>first|exact trivial|repeat first|intro(Bk:Nat)|intro h)|(apply G.cV (g:=54);rfl;rfl;exact fun w' hw=>hc1 w' hw.below)|(apply G.cV (g:=58);rfl;rfl;exact fun w' hw=>hc2 w' hw.below)
   all_goals exact aA Tryz.func36 Tryz.results36 rfl
 ·rw [if_pos h1]
  refine aB [(0,.slice a rs.length c),(1,.slice b l.length d)] Tryz.func36 Tryz.ntmps36 ?_;repeat' first|(refine gp ?_;and_intros<;>first|exact trivial|repeat first|intro(Bk:Nat)|intro h)|(apply G.cV (g:=54);rfl;rfl;exact fun w' hw=>hc1 w' hw.below)
  all_goals exact aA Tryz.func36 Tryz.results36 rfl
theorem CP {x y:Rat}:dR (x-y)<=0 ↔ ¬ y < x:=by
 rw [LX];constructor
 ·intro h h1;grind
 ·intro h;grind
theorem oS {x y:Rat}:0<=dR (x-y) ↔ ¬ x < y:=by
 rw [LW];constructor
 ·intro h h1;grind
 ·intro h;grind
def qW (x:Rat):List Value:=qV (rQ x)
theorem bY (x:Rat):(qW x).length=3:=rfl
def pD (L:List Rat):Rat:=L.foldl (·+·) 0
theorem Ix {L:List Rat}{k:Nat} (h:k < L.length):pD (L.take (k+1))=pD (L.take k)+L[k]:=by
 unfold pD;rw [List.take_succ_eq_append_getElem h,List.foldl_append];rfl
theorem EK (a:Option Addr) (L:List Rat) (c:Nat) (w:World) (hA:aE w a 3 (L.map qW)) (hl:L.length<=1000000) (hb:∀ k,k<=L.length->big (pD (L.take k))) (he:∀ x∈L,big x) :
  CR 127 #[.slice a L.length c] w (qA (rQ (pD L))):=by
 refine aB [(0,.slice a L.length c)] Tryz.func127 Tryz.ntmps127 ?_;all_goals (refine go ?_;and_intros<;>first|exact trivial|repeat first|intro(Bk:Nat)|intro h)
 refine J.loop (c:=_) ((0,aY):Nat×Q3) (fun s=>L.length-s.1) (fun s=>[(2,.pointer (some ⟨_,0,none⟩)),(3,.pointer (some ⟨_,0,none⟩)),(6,.slice a L.length c),(7,.int .i64 L.length),(8,.int .i64 s.1)]) (fun s=>[.blk _ 25 [.bool s.2.neg,.string (bs s.2.num),.string (bs s.2.den)] 3,.blk _ 25 [.bool false,.string (bs []),.string (bs [])] 3]) (fun s=>s.1<=L.length/\s.2=rQ (pD (L.take s.1))) ?_ sbT sbL ?_
 ·exact ⟨Nat.zero_le _,rfl⟩
 intro ⟨i,q⟩ ⟨h1,h2⟩ ih;dsimp only at h1 h2 ⊢;by_cases hi:i < L.length
 ·obtain ⟨ba,oa,rfl,hra⟩:=aE.all hA om
  have hri:=hra i hi;have had:=LY (hb i h1) (he _ (gM hi));rw [<- Ix hi,<- h2] at had;dsimp only [qW,qV] at hri;have ih:=ih (i+1,rQ (pD (L.take (i+1)))) ⟨hi,rfl⟩ (by dsimp only;omega)
  clear hra hb he;generalize rQ (pD (L.take (i+1)))=q2 at *;generalize rQ L[i]=z at *;obtain ⟨n1,u1,d1⟩:=q;obtain ⟨n2,u2,d2⟩:=q2;obtain ⟨n3,u3,d3⟩:=z;dsimp only [qA] at *;repeat' first|(refine gp ?_;and_intros<;>first|exact trivial|repeat first|intro(Bk:Nat)|intro h)|(apply G.cV (g:=27);rfl;rfl;exact fun w' _=>had w')
  exact J.fin ih
 ·obtain rfl:i=L.length:=by omega
  rw [List.take_length] at h2;subst h2;clear ih;all_goals (refine go ?_;and_intros<;>first|exact trivial|repeat first|intro(Bk:Nat)|intro h)
  all_goals exact aA Tryz.func127 Tryz.results127 rfl
theorem Ga (a:Option Addr) (L:List Rat) (c:Nat) (w:World) (hA:aE w a 3 (L.map qW)) (hl:L.length<=1000000) (hb:∀ k,k<=L.length->big (pD (L.take k))) (he:∀ x∈L,big x) :
  CR 82 #[.slice a L.length c] w (qA (rQ (pD L))):=by
 have ht:=fun w' (hb':Below w.heap.size w w')=>EK a L c w' (hA.below hb') hl hb he
 generalize rQ (pD L)=q at *;refine aB [(0,.slice a L.length c)] Tryz.func82 Tryz.ntmps82 ?_;repeat' first|(refine gp ?_;and_intros<;>first|exact trivial|repeat first|intro(Bk:Nat)|intro h)|(apply G.cV (g:=127);rfl;rfl;exact fun w' hw=>ht w' hw.below)
 all_goals exact aA Tryz.func82 Tryz.results82 rfl
theorem Cx (a:Option Addr) (L:List Rat) (c:Nat) (w:World) (hA:aE w a 3 (L.map qW)) (hl:L.length<=1000000) (hb:∀ k,k<=L.length->big (pD (L.take k))) (he:∀ x∈L,big x) :
  CR 40 #[.slice a L.length c] w (qA (rQ (pD L))):=by
 have ht:=fun w' (hb':Below w.heap.size w w')=>Ga a L c w' (hA.below hb') hl hb he
 generalize rQ (pD L)=q at *;refine aB [(0,.slice a L.length c)] Tryz.func40 Tryz.ntmps40 ?_;repeat' first|(refine gp ?_;and_intros<;>first|exact trivial|repeat first|intro(Bk:Nat)|intro h)|(apply G.cV (g:=82);rfl;rfl;exact fun w' hw=>ht w' hw.below)
 all_goals exact aA Tryz.func40 Tryz.results40 rfl
theorem AN:big 0:=dX
theorem Mc {w0 w:World}{M:List Row}{B E tot:Nat}{x y:Rat}{p q:Q3} (hw:Sat w0 M w) (hp:p=rQ x) (hq:q=rQ y) (hx:big x) (hy:big y) (hxy:big (x+y)) (hm:Row.blk B E [.bool p.neg,.string (bs p.num),.string (bs p.den),.bool q.neg,.string (bs q.num),.string (bs q.den)] tot∈M) :
  CR 40 #[.slice (some ⟨B,0,none⟩) 2 2] w (qA (rQ (x+y))):=by
 subst hp hq;have h:=Cx (some ⟨B,0,none⟩) [x,y] 2 w (aE.P5 (f:=qW) (l:=[x,y]) bY hw hm) (by simp) (fun k hk=>?_) fun z hz=>?_
 ·have e:pD [x,y]=x+y:=by unfold pD;simp [Rat.zero_add]
  rw [e] at h;exact h
 ·have h3:k=0∨k=1∨k=2:=by simp only [List.length_cons,List.length_nil] at hk;omega
  rcases h3 with rfl|rfl|rfl
  ·exact AN
  ·show big (0+x);rwa [Rat.zero_add]
  ·show big (0+x+y);rwa [Rat.zero_add]
 ·simp only [List.mem_cons,List.not_mem_nil,or_false] at hz
  rcases hz with rfl|rfl
  ·exact hx
  ·exact hy
theorem Ph {w0 w:World}{M:List Row}{B E tot:Nat}{x y z:Rat}{p q r:Q3} (hw:Sat w0 M w) (hp:p=rQ x) (hq:q=rQ y) (hr:r=rQ z) (hx:big x) (hy:big y) (hz:big z) (hxy:big (x+y)) (hxyz:big (x+y+z)) (hm:Row.blk B E [.bool p.neg,.string (bs p.num),.string (bs p.den),.bool q.neg,.string (bs q.num),.string (bs q.den),.bool r.neg,.string (bs r.num),.string (bs r.den)] tot∈M) :
  CR 40 #[.slice (some ⟨B,0,none⟩) 3 3] w (qA (rQ (x+y+z))):=by
 subst hp hq hr;have h:=Cx (some ⟨B,0,none⟩) [x,y,z] 3 w (aE.P5 (f:=qW) (l:=[x,y,z]) bY hw hm) (by simp) (fun k hk=>?_) fun u hu=>?_
 ·have e:pD [x,y,z]=x+y+z:=by unfold pD;simp [Rat.zero_add]
  rw [e] at h;exact h
 ·have h3:k=0∨k=1∨k=2∨k=3:=by simp only [List.length_cons,List.length_nil] at hk;omega
  rcases h3 with rfl|rfl|rfl|rfl
  ·exact AN
  ·show big (0+x);rwa [Rat.zero_add]
  ·show big (0+x+y);rwa [Rat.zero_add]
  ·show big (0+x+y+z);rwa [Rat.zero_add]
 ·simp only [List.mem_cons,List.not_mem_nil,or_false] at hu
  rcases hu with rfl|rfl|rfl
  ·exact hx
  ·exact hy
  ·exact hz
theorem wT {n:Int}{x:Rat} (h1:-999999999999999<=n) (h2:n<=999999999999999) (hx:big x) (w:World) :
  CR 41 #[.int .i64 n,qA (rQ x)] w (qA (rQ ((n:Rat)*x))):=by
 have hi:=Mb h1 h2;have hm:=NT (aH.big (jC h1 h2) dc) hx;generalize rQ ((n:Rat)*x)=r at *;generalize rQ x=q at *;generalize rQ (n:Rat)=m at *;obtain ⟨n1,u1,d1⟩:=q;obtain ⟨n2,u2,d2⟩:=m;obtain ⟨n3,u3,d3⟩:=r;dsimp only [qA] at *;refine aB [(0,.int .i64 n),(1,.agg #[.bool n1,.string (bs u1),.string (bs d1)])] Tryz.func41 Tryz.ntmps41 ?_;repeat' first|(refine gp ?_;and_intros<;>first|exact trivial|repeat first|intro(Bk:Nat)|intro h)|(apply G.cV (g:=35);rfl;rfl;exact fun w' _=>hi w')|(apply G.cV (g:=83);rfl;rfl;exact fun w' _=>hm w')
 all_goals exact aA Tryz.func41 Tryz.results41 rfl
def isF (t:Bool):FuncId:=if t=true then 80 else 81
instance isFun (t:Bool):Fun Tryz.prog (isF t):=by cases t<;>(unfold isF;simp only [if_true,if_false,Bool.false_eq_true];exact inferInstance)
theorem yW (t:Bool) {x y:Rat} (hx:big x) (hy:big y) (w:World) :
  Calls Tryz.prog (isF t) #[qA (rQ x),qA (rQ y)] w fun e w'=>e=.returned (.bool (decide (sgR t x < sgR t y)))/\Below w.heap.size w w':=by
 have hc:=LZ hx hy;cases t
 ·show Calls Tryz.prog 81 _ _ _
  have hd:decide (sgR false x < sgR false y)=decide (dR (x-y) < 0):=by
   have:=oS (x:=x) (y:=y);rw [Bool.eq_iff_iff,decide_eq_true_eq,decide_eq_true_eq];show x < y ↔ _
   constructor
   ·intro h;exact Int.not_le.1 fun h1=>(this.1 h1) h
   ·intro h;exact Decidable.not_not.1 fun h1=>by have:=this.2 h1;omega
  rw [hd];generalize dR (x-y)=sg at *;generalize rQ x=q at *;generalize rQ y=r at *;obtain ⟨n1,u1,d1⟩:=q;obtain ⟨n3,u3,d3⟩:=r;dsimp only [qA] at *;refine aB [(0,.agg #[.bool n1,.string (bs u1),.string (bs d1)]),(1,.agg #[.bool n3,.string (bs u3),.string (bs d3)])] Tryz.func81 Tryz.ntmps81 ?_;repeat' first|(refine gp ?_;and_intros<;>first|exact trivial|repeat first|intro(Bk:Nat)|intro h)|(apply G.cV (g:=22);rfl;rfl;exact fun w' _=>hc w')
  all_goals refine aA Tryz.func81 Tryz.results81 ?_
  all_goals exact bL (by first|(rw [dT om])|(rw [dF om]))
 ·show Calls Tryz.prog 80 _ _ _
  have hd:decide (sgR true x < sgR true y)=decide (0 < dR (x-y)):=by
   have:=CP (x:=x) (y:=y);rw [Bool.eq_iff_iff,decide_eq_true_eq,decide_eq_true_eq];show -x < -y ↔ _
   constructor
   ·intro h;exact Int.not_le.1 fun h1=>(this.1 h1) (by grind)
   ·intro h
    have:y < x:=Decidable.not_not.1 fun h1=>by have:=this.2 h1;omega
    grind
  rw [hd];generalize dR (x-y)=sg at *;generalize rQ x=q at *;generalize rQ y=r at *;obtain ⟨n1,u1,d1⟩:=q;obtain ⟨n3,u3,d3⟩:=r;dsimp only [qA] at *;refine aB [(0,.agg #[.bool n1,.string (bs u1),.string (bs d1)]),(1,.agg #[.bool n3,.string (bs u3),.string (bs d3)])] Tryz.func80 Tryz.ntmps80 ?_;repeat' first|(refine gp ?_;and_intros<;>first|exact trivial|repeat first|intro(Bk:Nat)|intro h)|(apply G.cV (g:=22);rfl;rfl;exact fun w' _=>hc w')
  all_goals refine aA Tryz.func80 Tryz.results80 ?_
  all_goals exact bL (by first|(rw [dT om])|(rw [dF om]))
theorem rW (t:Bool) (w:World):CR 39 #[.bool t] w (.func (.func (isF t)) #[] #[]):=by
 cases t
 ·skip
  refine aB [(0,.bool false)] Tryz.func39 Tryz.ntmps39 ?_;all_goals (refine go ?_;and_intros<;>first|exact trivial|repeat first|intro(Bk:Nat)|intro h)
  all_goals exact aA Tryz.func39 Tryz.results39 rfl
 ·skip
  refine aB [(0,.bool true)] Tryz.func39 Tryz.ntmps39 ?_;all_goals (refine go ?_;and_intros<;>first|exact trivial|repeat first|intro(Bk:Nat)|intro h)
  all_goals exact aA Tryz.func39 Tryz.results39 rfl
theorem aR.sep {l:List Spn}:∀ {x:Int} (_:aR x l) {i j:Nat} (hij:i < j) (hj:j < l.length),(l[i]'(Nat.lt_trans hij hj)).to_<=l[j].from_:=by
 induction l with
 | nil=>intro x h i j _ hj;exact absurd hj (Nat.not_lt_zero _)
 | cons s r ih =>
  intro x h i j hij hj;cases j with
  | zero=>exact absurd hij (Nat.not_lt_zero _)
  | succ j =>
   cases i with
   | zero =>
    rw [List.getElem_cons_zero,List.getElem_cons_succ];exact (AJ h.2.2).1 _ (gM _)
   | succ i =>
    rw [List.getElem_cons_succ,List.getElem_cons_succ];exact ih h.2.2 om (by simpa using hj)
def k0C (r:Rn) (l:List Spn):Nat:=l.findIdx fun s=>decide (r.from_ < s.to_)
theorem Cy (r:Rn) (l:List Spn):k0C r l<=l.length:=List.findIdx_le_length
theorem EL {r:Rn}{l:List Spn}{i:Nat} (h:i < k0C r l):(l[i]'(Nat.lt_of_lt_of_le h (Cy r l))).to_<=r.from_:=by
 have h1:=List.not_of_lt_findIdx h;simpa using h1
theorem EM {r:Rn}{l:List Spn}{x:Int} (hl:aR x l) {i:Nat} (h:k0C r l<=i) (hi:i < l.length):r.from_ < l[i].to_:=by
 have hk:k0C r l < l.length:=by omega
 have h0:decide (r.from_ < (l[k0C r l]).to_)=true:=List.findIdx_getElem (w:=hk);rw [decide_eq_true_eq] at h0;by_cases e:k0C r l=i
 ·subst e;exact h0
 ·have h1:=hl.sep (i:=k0C r l) (j:=i) om hi
  have h2:=hl.lt hi;omega
theorem H4 {r:Rn}{l:List Spn}:∀ {k},k<=k0C r l->iA r l k=[]
 | 0,_=>rfl
 | k+1,h=>by
  have hk:k < l.length:=Nat.lt_of_lt_of_le h (Cy r l);rw [iA,H4 (k:=k) om,gE hk];dsimp only;have:=EL (r:=r) (l:=l) (i:=k) h;rw [if_neg (by unfold ovC;omega)];rfl
theorem EN {r:Rn}{l:List Spn}{k:Nat} (hk:k<=l.length) (h:∀ j (hj:j < l.length),k<=j->r.to_<=l[j].from_):∀ d,k+d<=l.length->iA r l (k+d)=iA r l k
 | 0,_=>rfl
 | d+1,hd=>by
  have hk':k+d < l.length:=by omega
  rw [<- Nat.add_assoc,iA,EN hk h d om,gE hk'];dsimp only;have:=h (k+d) hk' om;rw [if_neg (by unfold ovC;omega),List.append_nil]
theorem Iy (k:Nat) (r:Rn) (B3 B2 bb ob d:Nat) (l:List Spn) (w:World) (hk:k < l.length) (h1:bG w B3 0 [.slice (some ⟨bb,ob,none⟩) l.length d]) (h2:bG w B2 0 (rnV r)) (h3:bG w bb (ob+k*7) (spV l[k])) :
  CR 125 #[.int .i64 k,.pointer (some ⟨B3,0,none⟩),.pointer (some ⟨B2,0,none⟩)] w (.bool (decide (r.from_ < l[k].to_))):=by
 generalize l[k]=s at *;dsimp only [rnV,spV] at *;refine aB [(0,.int .i64 k),(1,.pointer (some ⟨B3,0,none⟩)),(2,.pointer (some ⟨B2,0,none⟩))] Tryz.func125 Tryz.ntmps125 ?_;all_goals (refine go ?_;and_intros<;>first|exact trivial|repeat first|intro(Bk:Nat)|intro h)
 all_goals refine aA Tryz.func125 Tryz.results125 ?_
 all_goals exact bL (by first|(rw [dT om])|(rw [dF om]))
theorem Iz {w0 w:World}{M:List Row}{B3 B2 e3 e2 t3 t2 d:Nat}{b:Option Addr}{l:List Spn}{r:Rn} (hA:aE w0 b 7 (l.map spV)) (hl:aR 0 l) (hn:l.length<=400) (hw:Sat w0 M w) (hm3:Row.blk B3 e3 [.slice b l.length d] t3∈M) (hm2:Row.blk B2 e2 (rnV r) t2∈M) :
  CR 124 #[.int .i64 l.length,.func (.func 125) #[] #[.pointer (some ⟨B3,0,none⟩),.pointer (some ⟨B2,0,none⟩)]] w (.int .i64 (k0C r l)):=by
 refine kW 125 _ l.length (k0C r l) (fun i=>match l[i]? with|none=>true|some s=>decide (r.from_ < s.to_)) w om (Cy r l) (fun i hi=>?_) (fun i h1 h2=>?_) fun k hk w' hb=>?_
 ·have:=EL hi
  rw [gE (Nat.lt_of_lt_of_le hi (Cy r l))];exact dF om
 ·rw [gE h2]
  exact dT (EM hl h1 h2)
 ·rw [gE hk]
  obtain ⟨bb,ob,rfl,hrow⟩:=aE.all hA om;exact Iy k r B3 B2 bb ob d l w' hk ((hw.rowAt hm3).below hb) ((hw.rowAt hm2).below hb) (((hrow k hk).below hw.below).below hb)
theorem tO (r:Rn) (b:Option Addr) (l:List Spn) (d:Nat) (w:World) (hB:aE w b 7 (l.map spV)) (hl:aR 0 l) (hn:l.length<=400) (hr:0<=r.from_/\r.from_ < r.to_/\r.to_<=1402560) (hR:∀ s∈l,aQ s) :
  Calls Tryz.prog 76 #[rnA r,.slice b l.length d] w (NwL 2 hoV (fun v=>v) w (aD r l)):=by
 have hsr:=fun (M:List Row) w' (hw:Sat w M w') B3 B2 e3 e2 t3 t2 h3 h2=>Iz (B3:=B3) (B2:=B2) (e3:=e3) (e2:=e2) (t3:=t3) (t2:=t2) (d:=d) (r:=r) hB hl hn hw h3 h2
 have hk0:=Cy r l;have hge:=fun (i:Nat) (h:k0C r l<=i) (hi:i < l.length)=>EM (r:=r) hl h hi
 have hstart:=H4 (r:=r) (l:=l) (Nat.le_refl _);generalize k0C r l=K at *;unfold rnA;refine aB [(0,.agg #[.int .i64 r.from_,.int .i64 r.to_,.slice r.adr r.tab.length r.cap,.int .i64 r.lo,.int .i64 r.hi]),(1,.slice b l.length d)] Tryz.func76 Tryz.ntmps76 ?_;repeat' first|(refine gp ?_;and_intros<;>first|exact trivial|repeat first|intro(Bk:Nat)|intro h)|(apply G.cV (g:=124);rfl;rfl;exact fun w' hw=>hsr _ w' hw _ _ _ _ _ _ (by exact mm) (by exact mm))
 apply J.nilOwn (E:=90) (size:=2);refine J.loop (c:=_) ((K,r.to_-r.from_,.slice none 0 0,[]):Nat×Int×Value×List (Int×Int)) (fun s=>l.length-s.1) (fun s=>[(2,.pointer (some ⟨_,0,none⟩)),(3,.pointer (some ⟨_,0,none⟩)),(5,s.2.2.1),(6,.int .i64 s.2.1),(7,.int .i64 s.1)]) (fun s=>[.own 0 s.2.2.1 90 2 s.2.2.2.length (flat hoV s.2.2.2),.blk _ 23 [.slice b l.length d] 1,.blk _ 67 [.int .i64 r.from_,.int .i64 r.to_,.slice r.adr r.tab.length r.cap,.int .i64 r.lo,.int .i64 r.hi] 5]) (fun s=>s.1<=l.length/\K<=s.1/\s.2.2.2=iA r l s.1/\s.2.1=r.to_-r.from_-gU s.2.2.2/\-(1402560*(s.1:Int))<=s.2.1/\s.2.1<=1402560) ?_ sbT sbL ?_
 ·exact ⟨hk0,Nat.le_refl _,hstart.symm,by show _=_-gU [];rw [gU,Int.sub_zero],by dsimp only;omega,by dsimp only;omega⟩
 clear hsr;intro ⟨k,z,u,o⟩ ⟨h1,h2,h3,h4,h5,h6⟩ ih;dsimp only at h1 h2 h3 h4 h5 h6 ⊢;have hle:=vF r l k;rw [<- h3] at hle;by_cases hk:k < l.length/\(∀ h:k < l.length,l[k].from_ < r.to_)
 ·obtain ⟨hk,hlt⟩:=hk
  have hlt:=hlt hk;obtain ⟨bb,ob,rfl,hrb⟩:=aE.all hB om;have hrk:=hrb k hk;have hto:=hge k h2 hk;have hft:=hl.lt hk;have hrr:=(hR _ (gM hk)).1;have hst:iA r l (k+1)=o++[((k:Int),ovC r l[k])]:=by
   rw [iA,gE hk,<- h3];dsimp only;rw [if_pos (by unfold ovC;omega)]
  have hz:z-ovC r l[k]=r.to_-r.from_-gU (o++[((k:Int),ovC r l[k])]):=by
   rw [nN,gU,gU];dsimp only;omega
  have hov1:0 < ovC r l[k]/\ovC r l[k]<=1402560:=by unfold ovC;omega
  have ih:=fun u=>ih (k+1,z-ovC r l[k],u,o++[((k:Int),ovC r l[k])]) ⟨hk,by dsimp only;omega,hst.symm,hz,by dsimp only;omega,by dsimp only;omega⟩ (by dsimp only;omega)
  clear hrb hge hst hz hR hB;simp only [List.length_append,List.length_singleton] at ih;unfold ovC at ih hov1;generalize l[k]=s at *;dsimp only [spV] at hrk;repeat' first|(refine gp ?_;and_intros<;>first|exact trivial|repeat first|intro(Bk:Nat)|intro h)|(apply G.Pu;rfl;rfl;rfl;rfl;rfl;rfl;rfl;rfl;intro Bs)|(apply G.ap;rfl;rfl;rfl;(repeat (first|exact RAt.head|apply RAt.tail));exact cB.blk (by exact mm) rfl rfl;exact jV hoV o (_,_);omega;omega;intro v2)
  exact J.fin (ih v2)
 ·have hend:iA r l l.length=o:=by
   rw [h3];by_cases e:k < l.length
   ·have h5:r.to_<=l[k].from_:=by
     refine Int.not_lt.1 fun hlt=>hk ⟨e,fun _=>hlt⟩
    have:=EN h1 (fun j hj hkj=>by
     by_cases e2:k=j
     ·subst e2;exact h5
     ·have h6:=hl.sep (i:=k) (j:=j) om hj
      have h7:=hl.lt e;omega) (l.length-k) om
    rwa [Nat.add_sub_cancel' h1] at this
   ·rw [show k=l.length by omega]
  have hz:z=jI r l:=by rw [h4,jI,hend]
  have hcl:aD r l=o++if 0 < z then [(-1,z)] else []:=by rw [aD,hend,<- hz]
  rw [hcl];have hzb:z<=1402560∨True:=.inr trivial;clear ih hge hstart hcl h4 hz hend;have fin:∀ (w':World) (M:List Row) (v:Value) (x:List (Int×Int)) (i E:Nat),Sat w M w'->M[i]?=some (Row.own 0 v E 2 x.length (flat hoV x))->NwL 2 hoV (fun v=>v) w x (.returned v) w':=fun w' M v x i E hw hm=>NR Hf hw hm rfl fun v=>v
  by_cases hk2:k < l.length
  ·obtain ⟨bb,ob,rfl,hrb⟩:=aE.all hB om
   have hrk:=hrb k hk2;have hlt:¬ l[k].from_ < r.to_:=fun h=>hk ⟨hk2,fun _=>h⟩
   clear hrb hB hk hR hl h3;generalize l[k]=s at *;dsimp only [spV] at hrk;by_cases hz0:0 < z
   ·rw [if_pos hz0]
    repeat' first|(refine gp ?_;and_intros<;>first|exact trivial|repeat first|intro(Bk:Nat)|intro h)|(apply G.Pu;rfl;rfl;rfl;rfl;rfl;rfl;rfl;rfl;intro Bs)|(apply G.ap;rfl;rfl;rfl;(repeat (first|exact RAt.head|apply RAt.tail));exact cB.blk (by exact mm) rfl rfl;exact jV hoV o ((-1:Int),z);omega;omega;intro v2)
    all_goals
     (refine kE Tryz.func76 Tryz.results76 ?_;intro w' hw)
     exact fin _ _ _ _ 1 _ hw (by rw [List.length_append];rfl)
   ·rw [if_neg hz0,List.append_nil]
    all_goals (refine go ?_;and_intros<;>first|exact trivial|repeat first|intro(Bk:Nat)|intro h)
    all_goals
     (refine kE Tryz.func76 Tryz.results76 ?_;intro w' hw)
     exact fin _ _ _ _ 0 _ hw rfl
  ·clear hk hR hl h3
   by_cases hz0:0 < z
   ·rw [if_pos hz0]
    repeat' first|(refine gp ?_;and_intros<;>first|exact trivial|repeat first|intro(Bk:Nat)|intro h)|(apply G.Pu;rfl;rfl;rfl;rfl;rfl;rfl;rfl;rfl;intro Bs)|(apply G.ap;rfl;rfl;rfl;(repeat (first|exact RAt.head|apply RAt.tail));exact cB.blk (by exact mm) rfl rfl;exact jV hoV o ((-1:Int),z);omega;omega;intro v2)
    all_goals
     (refine kE Tryz.func76 Tryz.results76 ?_;intro w' hw)
     exact fin _ _ _ _ 1 _ hw (by rw [List.length_append];rfl)
   ·rw [if_neg hz0,List.append_nil]
    all_goals (refine go ?_;and_intros<;>first|exact trivial|repeat first|intro(Bk:Nat)|intro h)
    all_goals
     (refine kE Tryz.func76 Tryz.results76 ?_;intro w' hw)
     exact fin _ _ _ _ 0 _ hw rfl
theorem dY {rs:List Rn}{l:List Spn} (h:cU rs l=0):aR 0 l/\l.length<=400/\(∀ s∈l,aQ s)/\rs.length<=2000/\∀ r∈rs,OkR r:=by
 obtain ⟨h1,h2⟩:=fB h;exact ⟨D3 h2,(cT h2).1,(cT h2).2,(gK h1).2.1,(gK h1).1⟩
theorem lW (a:Option Addr) (rs:List Rn) (c:Nat) (b:Option Addr) (l:List Spn) (d:Nat) (k:Nat) (w:World) (hA:aW w a rs) (hf:∀ r∈rs,r.tab.length<=64) (hB:aN w b l) (hg:∀ s∈l,fewS s) (h0:cU rs l=0) (hk:k < rs.length) :
  Calls Tryz.prog 37 #[.slice a rs.length c,.slice b l.length d,.int .i64 k] w (NwL 2 hoV (fun v=>.tuple #[v,.int .i64 0]) w (aD rs[k] l)):=by
 have hc:=fun w' (hb:Below w.heap.size w w')=>oR a rs c b l d w' (hA.below hb) hf (hB.below hb) hg
 rw [h0] at hc;obtain ⟨q1,q2,q3,q4,q5⟩:=dY h0;have hcl:=fun w' (hb:Below w.heap.size w w')=>tO rs[k] b l d w' (hB.1.below hb) q1 q2 (q5 _ (gM hk)).rng q3
 obtain ⟨ba,oa,rfl,hra⟩:=aE.all hA.1 om;have hrk:=hra k hk;clear hra q1 q3 q5 hA hB hf hg h0;generalize aD rs[k] l=X at *;generalize rs[k]=r at *;dsimp only [rnV] at hrk;unfold rnA at hcl;refine aB [(0,.slice (some ⟨ba,oa,none⟩) rs.length c),(1,.slice b l.length d),(2,.int .i64 k)] Tryz.func37 Tryz.ntmps37 ?_;repeat' first|(refine gp ?_;and_intros<;>first|exact trivial|repeat first|intro(Bk:Nat)|intro h)|(apply G.cV (g:=36);rfl;rfl;exact fun w' hw=>hc w' hw.below)|(apply G.cV (g:=44);rfl;rfl;exact fun w' hw=>hc w' hw.below)|(refine G.cL (g:=76) (sz:=2) (f:=hoV) (fun v=>v) X rfl rfl (fun w' hw=>(hcl w' hw.below).mono fun e w2 hh=>?_) ?_;exact hh;intro a' c' hp1 hp2)
 (refine sK Tryz.func37 Tryz.results37 ?_;intro w' hw)
 exact ⟨a',c',rfl,hw.sl (by exact mm),hp2,hw.below⟩
def eM (p:Nat×Nat×List Rat):Row:=.blk p.1 25 (flat qW p.2.2) (p.2.1*3)
def cY (n:Nat) (p:Nat×Nat×List Rat):List Value:=[.slice (some ⟨p.1,0,none⟩) n p.2.1]
def fO (n:Nat) (p:Nat×List Int):Row:=.blk p.1 3 (flat isV p.2) (n*1)
def eD (n:Nat) (p:Nat×List Int):List Value:=[.slice (some ⟨p.1,0,none⟩) n n]
def mvC (x:Int×Rat):List Value:=.int .i64 x.1::qW x.2
theorem kZ (x:Int×Rat):(mvC x).length=4:=rfl
def pE (n:Nat) (p:Nat×List (Int×Rat)):Row:=.blk p.1 221 (flat mvC p.2) (n*4)
def isN (v:Nat):List Value:=[.int .i64 v]
theorem D5 (v:Nat):(isN v).length=1:=rfl
structure I0 (S n:Nat) (g:Nat->Nat->Rat) (CT:List (Nat×Nat×List Rat)):Prop where
 len:CT.length=S
 row:∀ s (h:s < CT.length),CT[s].2.2.length=n/\∀ c,c < n->CT[s].2.2[c]?=some (g s c)
def xOf (XT:List (Nat×List Int)) (s c:Nat):Int:=(XT.getD s (0,[])).2.getD c 0
structure kJ (S n:Nat) (XT:List (Nat×List Int)):Prop where
 len:XT.length=S
 row:∀ s (h:s < XT.length),XT[s].2.length=n
theorem NU {XT:List (Nat×List Int)}{s c:Nat} (h:s < XT.length) (hc:c < XT[s].2.length):XT[s].2[c]?=some (xOf XT s c):=by
 unfold xOf;simp only [gD,gE h,Option.getD_some,gE hc]
theorem Me {XT:List (Nat×List Int)}{s c:Nat} (h:s < XT.length) (hc:c < XT[s].2.length) (v:Int) (t d:Nat):xOf (XT.set s (XT[s].1,XT[s].2.set c v)) t d=if t=s then (if d=c then v else xOf XT t d) else xOf XT t d:=by
 unfold xOf;by_cases e:t=s
 ·subst e
  rw [if_pos rfl];simp only [gD,List.getElem?_set_self h,gE h,Option.getD_some];by_cases e2:d=c
  ·subst e2
   rw [if_pos rfl,List.getElem?_set_self hc];rfl
  ·rw [if_neg e2,List.getElem?_set_ne fun e=>e2 e.symm]
 ·rw [if_neg e]
  simp only [gD,List.getElem?_set_ne fun e2=>e e2.symm]
theorem kJ.set {S n:Nat}{XT:List (Nat×List Int)} (h:kJ S n XT) {s:Nat} (hs:s < XT.length) (c:Nat) (v:Int):kJ S n (XT.set s (XT[s].1,XT[s].2.set c v)) :=
 ⟨by rw [List.length_set];exact h.len,fun t ht=>by
  rw [List.length_set] at ht;rw [List.getElem_set];split
  ·rw [List.length_set];exact h.row s hs
  ·exact h.row t ht⟩
theorem Kr {n:Nat}{XT:List (Nat×List Int)}{s:Nat} (h:s < XT.length) (l:List Int):flat (eD n) (XT.set s (XT[s].1,l))=flat (eD n) XT:=by
 rw [flat,flat,List.map_set,show eD n (XT[s].1,l)=(XT.map (eD n))[s]'(by simpa using h) from by rw [List.getElem_map];rfl,List.set_getElem_self]
theorem gA {A:Type}{f:A->List Value} (hf:∀ x,(f x).length=1) {l:List A}{i:Nat} (h:i < l.length) {v:Value} (hv:f l[i]=[v]):(flat f l)[0+i*1]?=some v:=rF hf h hv
theorem D6 {L:List (Int×Rat)}{b:Nat} (h:b < L.length) {j:Nat} (hj:j < 4):(flat mvC L)[0+b*4+j]?=(mvC L[b])[j]?:=by
 rw [Nat.zero_add];exact gC kZ h hj
theorem Ks {L:List (Int×Rat)}{b:Nat} (h:b < L.length) (y:Int×Rat):dU (flat mvC L) (0+b*4) (mvC y)=flat mvC (L.set b y):=by
 rw [Nat.zero_add];exact pJ kZ h y
theorem Gb {cs:List Value}{j:Nat}{v:Value} (h:cs[j]?=some v):cs.set j v=cs:=by
 obtain ⟨h1,h2⟩:=List.getElem?_eq_some_iff.1 h;rw [<- h2];exact List.set_getElem_self h1
theorem Kt {L:List (Int×Rat)}{b:Nat} (h:b < L.length) (v:Int) {q:Int×Rat} (hq:L[b]?=some q):dU (flat mvC L) (CH (0+b*4) 0) [.int .i64 v]=flat mvC (L.set b (v,q.2)):=by
 have e:L[b]=q:=(List.getElem?_eq_some_iff.1 hq).2;have h0:=Ks h (v,q.2);rw [<- h0,dV,Nat.add_zero];have k:∀ j,j < 4->(flat mvC L)[0+b*4+j]?=(mvC q)[j]?:=fun j hj=>by rw [D6 h hj,e]
 have k1:=k 1 om;have k2:=k 2 om;have k3:=k 3 om;generalize hF:flat mvC L=F at *;show F.set (0+b*4) _=((((F.set (0+b*4) _).set (0+b*4+1) _).set (0+b*4+1+1) _).set (0+b*4+1+1+1) _)
 have e1:∀ i,i≠0+b*4->∀ w,F[i]?=some w->(F.set (0+b*4) (.int .i64 v))[i]?=some w:=fun i hi w hw=>by rw [List.getElem?_set_ne om];exact hw
 rw [Gb (e1 (0+b*4+1) om _ k1),Gb (e1 (0+b*4+1+1) om _ k2),Gb (e1 (0+b*4+1+1+1) om _ k3)]
theorem Gc {L:List (Int×Rat)}{b:Nat}{q:Int×Rat} (hq:L[b]?=some q):(flat mvC L)[CH (0+b*4) 0]?=some (.int .i64 q.1):=by
 obtain ⟨h,e⟩:=List.getElem?_eq_some_iff.1 hq;have:=D6 h (j:=0) om;rw [e] at this;rw [dV];exact this
theorem OL {L:List (Int×Rat)}{b:Nat}{q:Int×Rat} (hq:L[b]?=some q):((flat mvC L).drop (CH (0+b*4) 1)).take 3=qW q.2:=by
 obtain ⟨h,e⟩:=List.getElem?_eq_some_iff.1 hq;apply List.ext_getElem?;intro i;rw [List.getElem?_take];split
 ·rename_i hi
  rw [List.getElem?_drop,dV,Nat.add_assoc,D6 h (j:=1+i) om,e,Nat.add_comm 1 i];rfl
 ·rename_i hi
  rw [List.getElem?_eq_none (by rw [bY];omega)]
theorem Mf (n:Nat):flat (fun x:List Value=>x) (List.replicate n [.int .i64 0,.bool false,.string (bs []),.string (bs [])])=flat mvC (List.replicate n ((0:Int),(0:Rat))):=by
 rw [flat,flat,List.map_replicate,List.map_replicate];rfl
theorem D7 (n:Nat):flat (fun x:List Value=>x) (List.replicate n (qV aY))=flat qW (List.replicate n (0:Rat)):=by
 rw [flat,flat,List.map_replicate,List.map_replicate];rfl
theorem Ku (n:Nat):flat (fun x:List Value=>x) (List.replicate n [.int .i64 0])=flat isN (List.replicate n 0):=by
 rw [flat,flat,List.map_replicate,List.map_replicate];rfl
theorem AP (n:Nat):flat (fun x:List Value=>x) (List.replicate n [.int .i64 0])=flat isV (List.replicate n 0):=by
 rw [flat,flat,List.map_replicate,List.map_replicate];rfl
theorem Mg (n:Nat):flat (fun x:List Value=>x) (List.replicate n [.slice none 0 0])=List.replicate n (.slice none 0 0):=by
 rw [flat,List.map_replicate]
 induction n with
 | zero=>rfl
 | succ n ih=>rw [List.replicate_succ,List.flatten_cons,ih];rfl
def Cz (S n:Nat) (x:Nat->Nat->Int) (g:Nat->Nat->Rat) (a:Nat):List (Int×Rat):=(List.range n).map fun b=>mvV (mvF x g a b S)
theorem Kv {S n:Nat}{x:Nat->Nat->Int}{g:Nat->Nat->Rat}{a:Nat}{L:List (Int×Rat)} (hl:L.length=n) (h:∀ j,j < n->L[j]?=some (mvV (mvF x g a j S))):L=Cz S n x g a:=by
 apply List.ext_getElem?;intro j;by_cases hj:j < n
 ·rw [h j hj,Cz,List.getElem?_map,List.getElem?_range hj];rfl
 ·rw [List.getElem?_eq_none om,List.getElem?_eq_none (by rw [Cz,List.length_map,List.length_range];omega)]
theorem AQ {S n:Nat}{x:Nat->Nat->Int}{g:Nat->Nat->Rat}{a j:Nat} (hj:j < n):(Cz S n x g a)[j]?=some (mvV (mvF x g a j S)):=by
 rw [Cz,List.getElem?_map,List.getElem?_range hj];rfl
def BL (dl:List Rat) (fl:List Nat) (u:Nat->Nat):BF:=⟨fun v=>dl.getD v 0,fun v=>fl.getD v 0,u⟩
theorem NV {dl:List Rat}{fl:List Nat}{u:Nat->Nat}{r a b:Nat}{w:Rat} (h1:b < dl.length) (h2:b < fl.length):uZ (BL dl fl u) r a b w=BL (dl.set b (dl.getD a 0+w)) (fl.set b a) (fun v=>if v=b then r else u v):=by
 unfold uZ BL;congr 1
 ·funext v
  simp only [gD];by_cases e:v=b
  ·subst e;rw [if_pos rfl,List.getElem?_set_self h1];rfl
  ·rw [if_neg e,List.getElem?_set_ne fun e2=>e e2.symm]
 ·funext v
  simp only [gD];by_cases e:v=b
  ·subst e;rw [if_pos rfl,List.getElem?_set_self h2];rfl
  ·rw [if_neg e,List.getElem?_set_ne fun e2=>e e2.symm]
theorem Mh (n:Nat) (fl:List Nat):BL (List.replicate n 0) fl (fun _=>0)=⟨fun _=>0,fun v=>fl.getD v 0,fun _=>0⟩:=by
 unfold BL;congr 1
 funext v
 rw [gD,List.getElem?_replicate];split<;>rfl
def chV:Option Nat->Int
 | none=>-1
 | some c=>c
theorem NW {dl:List Rat}{b:Nat} (h:b < dl.length) (y:Rat):dU (flat qW dl) (0+b*3) (qW y)=flat qW (dl.set b y):=by
 rw [Nat.zero_add];exact pJ bY h y
theorem Mi {fl:List Nat}{b:Nat} (h:b < fl.length) (y:Nat):dU (flat isN fl) (0+b*1) [.int .i64 y]=flat isN (fl.set b y):=lB D5 h rfl
theorem rX {l:List Int}{b:Nat} (h:b < l.length) (y:Int):dU (flat isV l) (0+b*1) [.int .i64 y]=flat isV (l.set b y):=lB dE h rfl
theorem EO {A:Type}{l:List A}{b:Nat}{y z:A} (h:z∈l.set b y):z∈l∨z=y:=by
 obtain ⟨i,hi,e⟩:=List.mem_iff_getElem.1 h;rw [List.getElem_set] at e;split at e
 ·exact .inr e.symm
 ·exact .inl (e ▸ gM _)
theorem OM {S n:Nat}{x:Nat->Nat->Int}{g:Nat->Nat->Rat}{a b:Nat} (ha:a < n) (hb:b < n):(mE S n x g a b=none/\(mvV (mvF x g a b S)).1 < 0)∨(mE S n x g a b=some (mvV (mvF x g a b S)).2/\0<=(mvV (mvF x g a b S)).1):=by
 unfold mE;rw [if_pos ⟨ha,hb⟩];cases mvF x g a b S with
 | none=>exact .inl ⟨rfl,by decide⟩
 | some q=>exact .inr ⟨rfl,Int.natCast_nonneg _⟩
theorem C0 {p:Nat->Nat}{sg:Nat->Nat->Nat}{m:Int}:∀ (k v:Nat) (x:Nat->Nat->Int),oN p sg m (k+1) v x=lS (oN p sg m k v x) m (sg (itP p (k+1) v) (itP p k v)) (itP p (k+1) v) (itP p k v)
 | 0,v,x=>rfl
 | k+1,v,x=>by
  rw [oN,C0 k (p v) (lS x m (sg (p v) v) (p v) v)];rfl
theorem Mj {S n:Nat}{x:Nat->Nat->Int}{g:Nat->Nat->Rat}{P:Nat->Nat->Prop}{dl:List Rat}{fl:List Nat}{u:Nat->Nat}{c:Nat} (hB:kA (mE S n x g) (n+1) P (BL dl fl u)) (hc:u c=n+1) :
  ∃ p:Nat->Nat,(∀ b,p b=fl.getD b 0)/\(∀ i,itP p i c < n)/\∃ k,k<=n/\Cyc p u k (itP p n c)/\wsP (mE S n x g) p k (itP p n c) < 0/\∀ j,∃ q,mE S n x g (itP p (j+1) (itP p n c)) (itP p j (itP p n c))=some q/\itP p (j+1) (itP p n c)≠itP p j (itP p n c):=by
 obtain ⟨h1,k,h2,h3,h4⟩:=hB.cycle MP hc;refine ⟨fun v=>fl.getD v 0,fun _=>rfl,fun i=>(h1 i).1,k,h2,h3,h4,fun j=>?_⟩
 have h5:=(h1 (n+j)).2;rw [gL] at h5;obtain ⟨w,e,hne,_⟩:=hB.pr _ h5;rw [nK];exact ⟨w,e,hne⟩
def wU (XT:List (Nat×List Int)) (s c:Nat) (v:Int):List (Nat×List Int):=XT.set s ((XT.getD s (0,[])).1,(XT.getD s (0,[])).2.set c v)
section
variable {S n s c:Nat}{XT:List (Nat×List Int)}
theorem oT {XT:List (Nat×List Int)}{s:Nat} (h:s < XT.length):XT.getD s (0,[])=XT[s]:=by
 rw [gD,gE h];rfl
theorem D8 (h:kJ S n XT) (hs:s < S) (v:Int):kJ S n (wU XT s c v):=by
 have hs':s < XT.length:=by rw [h.len];exact hs
 unfold wU;rw [oT hs'];exact h.set hs' c v
theorem Gd (h:kJ S n XT) (hs:s < S) (hc:c < n) (v:Int) (t d:Nat):xOf (wU XT s c v) t d=if t=s then (if d=c then v else xOf XT t d) else xOf XT t d:=by
 have hs':s < XT.length:=by rw [h.len];exact hs
 unfold wU;rw [oT hs'];exact Me hs' (by rw [h.row s hs'];exact hc) v t d
theorem rY (h:kJ S n XT) (hs:s < S) (v:Int):flat (eD n) (wU XT s c v)=flat (eD n) XT:=by
 have hs':s < XT.length:=by rw [h.len];exact hs
 unfold wU;rw [oT hs'];exact Kr hs' _
theorem AR (v:Int):(rws (fO n) XT).set s (fO n ((XT.getD s (0,[])).1,(XT.getD s (0,[])).2.set c v))=rws (fO n) (wU XT s c v):=D4 _ _
theorem Mk (h:kJ S n XT) (hs:s < S) (v:Int):(wU XT s c v).getD s (0,[])=((XT.getD s (0,[])).1,(XT.getD s (0,[])).2.set c v):=by
 have hs':s < XT.length:=by rw [h.len];exact hs
 unfold wU;rw [gD,List.getElem?_set_self hs'];rfl
theorem AU (h:kJ S n XT) (hs:s < S) (M0:List Row):fO n (XT.getD s (0,[]))∈rws (fO n) XT++M0:=by
 have hs':s < XT.length:=by rw [h.len];exact hs
 rw [oT hs'];exact iG hs'
theorem Ge (h:kJ S n XT) (hs:s < S) (M0:List Row):RAt (fO n (XT.getD s (0,[]))) (rws (fO n) XT++M0) (fun r'=>(rws (fO n) XT).set s r'++M0):=by
 have hs':s < XT.length:=by rw [h.len];exact hs
 rw [oT hs'];exact FZ hs'
theorem H5 (h:kJ S n XT) (hs:s < S):(flat (eD n) XT)[0+s*1]?=some (.slice (some ⟨(XT.getD s (0,[])).1,0,none⟩) n n):=by
 have hs':s < XT.length:=by rw [h.len];exact hs
 rw [oT hs'];exact gA (f:=eD n) (fun _=>rfl) hs' rfl
theorem AV (h:kJ S n XT) (hs:s < S):(XT.getD s (0,[])).2.length=n:=by
 have hs':s < XT.length:=by rw [h.len];exact hs
 rw [oT hs'];exact h.row s hs'
theorem vJ (h:kJ S n XT) (hs:s < S) (hc:c < n):(flat isV (XT.getD s (0,[])).2)[0+c*1]?=some (.int .i64 (xOf XT s c)):=by
 have hl:c < (XT.getD s (0,[])).2.length:=by rw [AV h hs];exact hc
 have e:xOf XT s c=(XT.getD s (0,[])).2[c]:=by
  unfold xOf;rw [gD (l:=(XT.getD s (0,[])).2),gE hl];rfl
 rw [e];exact gA (f:=isV) dE hl rfl
theorem Ml (h:kJ S n XT) (hx:∀ s c,s < S->c < n->0<=xOf XT s c/\xOf XT s c<=1402560):∀ s c,-1402560<=xOf XT s c/\xOf XT s c<=1402560:=fun s c=>by
 by_cases hs:s < S
 ·by_cases hc:c < n
  ·have:=hx s c hs hc;omega
  ·have hl:=AV h hs
   have:xOf XT s c=0:=by
    rw [xOf,gD (l:=(XT.getD s (0,[])).2),List.getElem?_eq_none om];rfl
   omega
 ·have:xOf XT s c=0:=by
   have hl:=h.len;rw [xOf,gD (l:=XT),List.getElem?_eq_none om];rfl
  omega
end
theorem H6 {p:Nat->Nat}{sg:Nat->Nat->Nat}{m:Int} (hm:0<=m):∀ (k v:Nat) (x:Nat->Nat->Int) (B:Int),(∀ s c,-B<=x s c/\x s c<=B)->∀ s c,-(B+(k:Int)*m)<=oN p sg m k v x s c/\oN p sg m k v x s c<=B+(k:Int)*m
 | 0,v,x,B,h,s,c=>by
  have:=h s c;show -(B+((0:Nat):Int)*m)<=x s c/\x s c<=B+((0:Nat):Int)*m
  rw [Int.natCast_zero,Int.zero_mul];omega
 | k+1,v,x,B,h,s,c=>by
  have ih:=H6 (p:=p) (sg:=sg) hm k (p v) (lS x m (sg (p v) v) (p v) v) (B+m) (fun s c=>by
   have:=h s c;unfold lS;split
   ·split<;>split<;>omega
   ·omega) s c
  show -(B+((k+1:Nat):Int)*m)<=oN p sg m k (p v) (lS x m (sg (p v) v) (p v) v) s c/\oN p sg m k (p v) (lS x m (sg (p v) v) (p v) v) s c<=B+((k+1:Nat):Int)*m
  have e:((k+1:Nat):Int)*m=(k:Int)*m+m:=by rw [Int.natCast_succ,Int.add_mul,Int.one_mul]
  rw [e];generalize (k:Int)*m=z at *;omega
theorem kX.congr {S n:Nat}{row col:Nat->Int}{x y:Nat->Nat->Int} (h:kX S n row col x) (he:∀ s c,s < S->c < n->y s c=x s c):kX S n row col y :=
 ⟨fun s c hs hc=>by rw [he s c hs hc];exact h.nn s c hs hc,fun s hs=>by rw [<- h.row s hs];exact eI fun c hc=>he s c hs hc,fun c hc=>by rw [<- h.col c hc];exact eI fun s hs=>he s c hs hc⟩
theorem Gf {S n:Nat}{g:Nat->Nat->Rat}{x y:Nat->Nat->Int} (he:∀ s c,s < S->c < n->y s c=x s c):cW S n g y=cW S n g x:=aU fun s hs=>aU fun c hc=>by rw [he s c hs hc]
def tP:Nat->Bool
 | 0=>false
 | _+1=>true
end Go.Proofs.YtjcecdmbfmccoaaGreatDoor
namespace Go.Sl
open Go.RowKit
variable {C:Ctx}{M:List Row}{st:List (Nat×Value)}{k:List Item}{q q':Md}{all rest:List Oper}{d:Nat}{ty:TypeId}{pos:String}{after:Array Edge}{gd:Option (Nat×Bool)}
theorem G.Rh {T:TypeId}{x y:Operand}{v:Value}{b j tot:Nat}{e:TypeId}{cs out:List Value}{F:Row->List Row}{M':List Row} (hs:wqB all st gd q.res=some q')
  (hx:evS st x=some (.pointer (some ⟨b,j,none⟩))) (hy:evS st y=some v) (hm:RAt (.blk b e cs tot) M F) [hT:cP C.P T 1] (h1:v.cells=#[v]/\v.oneCell'=true) (hj:j < cs.length) (ho:dU cs j [v]=out) (hM:F (.blk b e out tot)=M')
  (h:G q' C all st M' rest k) :
  G q C all st M ({ dst:=none,op:=.store T x y,type:=ty,pos,after,guard:=gd }::rest) k:=G.s1 hs hx hy hm h1 hj ho (by rw [hM];exact h)
theorem LdV.Qw {C:Ctx}{M:List Row}{A:Type}{f:A->List Value}{T n sz N:Nat} [hT:gZ C.P T n] {l:List A}{p:A}{b off i:Nat} (v:Value) (hp:l[i]?=some p) (hm:aL N (some ⟨b,off,none⟩) sz (l.map f)∈M) (hl:(f p).length=n) (hv:Value.agg (f p).toArray=v):LdV C M T ⟨b,off+i*sz,none⟩ v:=by
 obtain ⟨hi,rfl⟩:=List.getElem?_eq_some_iff.1 hp;exact hv ▸ LdV.Qx hm hi hl
theorem G.cF {g:FuncId}{f:Operand}{cap:Array Value}{args:List Operand}{vs:List Value}{at_:Array TypeId}{v:Value} (hf:evS st f=some (.func (.func g) #[] cap)) (ha:evL st args=some vs) (hs:bA all st gd d C.N q.calm=some q') [hF:Fun C.P g]
  (hc:∀ w,Sat C.w0 (q.cls M) w->Calls C.P g (vs.toArray++cap) w fun e w'=>e=.returned v/\Below w.heap.size w w') (h:G q' C all ((d,v)::st) M rest k) :
  G q C all st M ({ dst:=some d,op:=.call { callee:=.value f,args:=args.toArray,argTypes:=at_ },type:=ty,pos,after,guard:=gd }::rest) k:=by
 obtain ⟨g1,g2,g3⟩:=aJ hs;exact G.PQ hf ha g1 g2 g3 hc h
theorem G.PR {C:Ctx}{st:List (Nat×Value)}{M:List Row}{k:List Item}{all:List Oper}{p:Pt}{l:List Oper}{base E size n:Nat}{v:Value}{xs:List Value} (hm:Row.own base v E size n xs∈M) (h:∀ a c,v=.slice a n c->G (.any p) C all st M l k):G (.any p) C all st M l k :=
 ⟨fun hl hsel listed hdc hp a w hf hdf hw=>by
  obtain ⟨a',c',e⟩:=hw.ownForm hm;exact (h a' c' e).go hl hsel listed hdc hp a w hf hdf hw⟩
theorem Sel.PV {T M:List Row} (h:Sel T M):∀ R:List Row,Sel T (R++M)
 | []=>h
 | _::R=>Sel.drop (Sel.PV h R)
theorem LdV.P6 {A:Type}{f:A->List Value}{sz b tot i n:Nat}{e T:TypeId}{l:List A}{p:A}{vs:List Value} [hT:gZ C.P T n] (hf:∀ x,(f x).length=n) (hm:Row.blk b e (Sl.flat f l) tot∈M) (hp:l[i]?=some p) (hsz:sz=n) (hv:f p=vs):LdV C M T ⟨b,0+i*sz,none⟩ (.agg vs.toArray):=hv ▸ LdV.flat hf hm hp hsz
end Go.Sl
/-
 Contracts of bounds: ticks are exchanged along cycles of classes as long as that lowers the cost.
-/
namespace Go.Proofs.YtjcecdmbfmccoaaGreatDoor
open Go.RowKit Go.Sl Go.Num
set_option maxHeartbeats 8000000 in
theorem I1 (w0:World) (M0:List Row) (w:World) (bt bc bx tc tx n S kc kx rl rc cc:Nat) (rf rt rlo rhi:Int) (ra ca:Option Addr) (g:Nat->Nat->Rat) (row col:Nat->Int) (CT:List (Nat×Nat×List Rat)) (XT0:List (Nat×List Int))
  (hw:Sat w0 (.blk bt 200 [.int .i64 rf,.int .i64 rt,.slice ra rl rc,.int .i64 rlo,.int .i64 rhi,.slice ca n cc,.slice (some ⟨bc,0,none⟩) S kc,.slice (some ⟨bx,0,none⟩) S kx] 8::.blk bc 61 (flat (cY n) CT) tc::.blk bx 28 (flat (eD n) XT0) tx::(rws eM CT++(rws (fO n) XT0++M0))) w)
  (hC:I0 S n g CT) (hX:kJ S n XT0) (hF:kX S n row col (xOf XT0)) (hg:∀ s c,s < S->c < n->aH 141 (rQ (g s c))) (h0:0 < n) (hn:n<=31) (hS0:0 < S) (hS:S<=1000) (hrow:∀ s,s < S->row s<=1402560) :
  Calls Tryz.prog 147 #[.pointer (some ⟨bt,0,none⟩)] w fun e w'=>∃ XT:{ XT:List (Nat×List Int) // kJ S n XT/\flat (eD n) XT=flat (eD n) XT0/\kX S n row col (xOf XT)/\∃ pi:Nat->Rat,(∀ b,b < n->aH 10000000 (rQ (pi b)))/\∀ s a b,s < S->a < n->b < n->0 < xOf XT s a->pi b<=pi a+(g s b-g s a) },
   e=.returned (.tuple #[])/\Sat w0 (.blk bt 200 [.int .i64 rf,.int .i64 rt,.slice ra rl rc,.int .i64 rlo,.int .i64 rhi,.slice ca n cc,.slice (some ⟨bc,0,none⟩) S kc,.slice (some ⟨bx,0,none⟩) S kx] 8::.blk bc 61 (flat (cY n) CT) tc::.blk bx 28 (flat (eD n) XT.1) tx::(rws eM CT++(rws (fO n) XT.1++M0))) w':=by
 have hD:=AE g S n;have hDp:(0:Rat) < ((Iv g S n:Int):Rat):=Rat.intCast_pos.2 om;have hiq:=fun s c (hs:s < S) (hc:c < n)=>Hz g hs hc
 obtain ⟨K,hK⟩:=Kd (S:=S) (n:=n) (row:=row) (col:=col) g hDp;have hCl:=hC.len;refine vZ [(0,.pointer (some ⟨bt,0,none⟩))] hw Tryz.func147 Tryz.ntmps147 ?_;all_goals (refine goR ?_;and_intros<;>(try exact trivial)<;>repeat (first|refine fun (Bk:Nat)=>?_|intro h))
 repeat' ((first|(apply G.PD (n:=n) [.slice none 0 0];rfl;rfl;rfl;rfl;rfl;rfl;rfl;rfl;omega;omega;intro Bm)|(apply J.Pz;exact Tryz.Pr;decide +kernel)|(apply J.P3;exact Tryz.Pr;decide +kernel))<;>(refine goR ?_;and_intros<;>(try exact trivial)<;>repeat (first|refine fun (Bk:Nat)=>?_|intro h)))
 rw [Mg];refine J.QG (X:=Nat×Nat) (fun x=>[(0,.pointer (some ⟨bt,0,none⟩)),(2,.int .i64 n),(3,.slice (some ⟨Bm,0,none⟩) n n),(4,.slice (some ⟨x.1,0,none⟩) n n),(5,.slice (some ⟨x.2,0,none⟩) n n)]) (fun x=>.blk Bm 219 (List.replicate n (.slice none 0 0)) (n*1)::.blk x.1 25 (flat qW (List.replicate n 0)) (n*3)::.blk x.2 3 (flat isN (List.replicate n 0)) (n*1)::.blk bt 200 [.int .i64 rf,.int .i64 rt,.slice ra rl rc,.int .i64 rlo,.int .i64 rhi,.slice ca n cc,.slice (some ⟨bc,0,none⟩) S kc,.slice (some ⟨bx,0,none⟩) S kx] 8::.blk bc 61 (flat (cY n) CT) tc::.blk bx 28 (flat (eD n) XT0) tx::(rws eM CT++(rws (fO n) XT0++M0))) ?_ ?_
 ·intro hk2
  all_goals (refine goG ?_;and_intros<;>(try exact trivial)<;>repeat (first|refine fun (Bk:Nat)=>?_|intro h))
  repeat' ((first|(apply G.Qi)|(apply G.PD (n:=n) (qV aY);rfl;rfl;rfl;rfl;rfl;rfl;rfl;rfl;omega;omega;intro Bd)|(apply G.PD (n:=n) [.int .i64 0];rfl;rfl;rfl;rfl;rfl;rfl;rfl;rfl;omega;omega;intro Bf)|(apply J.Py (.q 0 <| .q 2 <| .f 1 (.q 4 <| .e 3 <| .q 5 <| .nil) 3 (.e 1 <| .q 4 <| .q 5 <| .nil));exact Tryz.Pr;decide +kernel))<;>(refine goG ?_;and_intros<;>(try exact trivial)<;>repeat (first|refine fun (Bk:Nat)=>?_|intro h)))
  all_goals
   rw [D7,Ku];exact J.P1 (hk2 (_,_))
 intro ⟨Bd,Bf⟩;dsimp only;all_goals (refine go ?_;and_intros<;>first|exact trivial|repeat first|intro(Bk:Nat)|intro h)
 refine J.loop (c:=_) ((XT0,List.replicate n (.slice none 0 0),List.replicate n 0,List.replicate n 0):List (Nat×List Int)×List Value×List Rat×List Nat) (fun x=>LG S n g ((Iv g S n:Int):Rat) K (xOf x.1)) (fun x=>[(0,.pointer (some ⟨bt,0,none⟩)),(2,.int .i64 n),(3,.slice (some ⟨Bm,0,none⟩) n n),(4,.slice (some ⟨Bd,0,none⟩) n n),(5,.slice (some ⟨Bf,0,none⟩) n n)]) (fun x=>.blk Bm 219 x.2.1 (n*1)::.blk Bd 25 (flat qW x.2.2.1) (n*3)::.blk Bf 3 (flat isN x.2.2.2) (n*1)::.blk bt 200 [.int .i64 rf,.int .i64 rt,.slice ra rl rc,.int .i64 rlo,.int .i64 rhi,.slice ca n cc,.slice (some ⟨bc,0,none⟩) S kc,.slice (some ⟨bx,0,none⟩) S kx] 8::.blk bc 61 (flat (cY n) CT) tc::.blk bx 28 (flat (eD n) x.1) tx::(rws eM CT++(rws (fO n) x.1++M0))) (fun x=>kJ S n x.1/\flat (eD n) x.1=flat (eD n) XT0/\kX S n row col (xOf x.1)/\x.2.1.length=n/\x.2.2.1.length=n/\x.2.2.2.length=n/\∀ v∈x.2.2.2,v < n) ?_ sbT sbL ?_
 ·exact ⟨hX,rfl,hF,by simp,by simp,by simp,fun v hv=>by rw [List.eq_of_mem_replicate hv];exact h0⟩
 clear hX hF;intro ⟨XT,cs0,dl,fl⟩ ⟨hX,hfs,hF,hcl,hdl,hfl,hfb⟩ ih;dsimp only at hX hfs hF hcl hdl hfl hfb ⊢;have hxn:=hF.nn;have hxl:=hX.len;generalize hxe:xOf XT=x at *;all_goals (refine go ?_;and_intros<;>first|exact trivial|repeat first|intro(Bk:Nat)|intro h)
 refine J.loop (c:=_) ((0,cs0,[]):Nat×List Value×List (Nat×List (Int×Rat))) (fun x=>n-x.1) (fun x=>[(0,.pointer (some ⟨bt,0,none⟩)),(2,.int .i64 n),(3,.slice (some ⟨Bm,0,none⟩) n n),(4,.slice (some ⟨Bd,0,none⟩) n n),(5,.slice (some ⟨Bf,0,none⟩) n n),(32,.int .i64 n),(33,.int .i64 x.1)]) (fun x=>.blk Bm 219 x.2.1 (n*1)::.blk Bd 25 (flat qW dl) (n*3)::.blk Bf 3 (flat isN fl) (n*1)::.blk bt 200 [.int .i64 rf,.int .i64 rt,.slice ra rl rc,.int .i64 rlo,.int .i64 rhi,.slice ca n cc,.slice (some ⟨bc,0,none⟩) S kc,.slice (some ⟨bx,0,none⟩) S kx] 8::.blk bc 61 (flat (cY n) CT) tc::.blk bx 28 (flat (eD n) XT) tx::(rws (pE n) x.2.2++(rws eM CT++(rws (fO n) XT++M0)))) (fun x=>x.1<=n/\x.2.2.length=x.1/\x.2.1.length=n/\∀ i (h:i < x.2.2.length),x.2.1[i]?=some (.slice (some ⟨x.2.2[i].1,0,none⟩) n n)/\x.2.2[i].2=Cz S n (xOf XT) g i) ?_ sbT sbL ?_
 ·exact ⟨Nat.zero_le _,rfl,hcl,fun i h=>absurd h (Nat.not_lt_zero _)⟩
 intro ⟨a,cs,MT⟩ ⟨ha,hml,hcs,hmt⟩ iha;dsimp only at ha hml hcs hmt ⊢;rw [hxe] at hmt iha;by_cases han:a < n
 ·skip
  repeat' first|(refine gp ?_;and_intros<;>first|exact trivial|repeat first|intro(Bk:Nat)|intro h)|(apply G.PD (n:=n) [.int .i64 0,.bool false,.string (bs []),.string (bs [])];rfl;rfl;rfl;rfl;rfl;rfl;rfl;rfl;omega;omega;intro Bq)|(apply G.s1;rfl;rfl;rfl;(repeat (first|exact RAt.head|apply RAt.tail));exact ⟨rfl,rfl⟩;omega;exact EJ _ _ _)
  rw [Mf,Nat.zero_add,Nat.mul_one];have hcs1:(cs.set a (.slice (some ⟨Bq,0,none⟩) n n)).length=n:=by rw [List.length_set];exact hcs
  have hca:(cs.set a (.slice (some ⟨Bq,0,none⟩) n n))[0+a*1]?=some (.slice (some ⟨Bq,0,none⟩) n n):=by rw [Nat.zero_add,Nat.mul_one];exact List.getElem?_set_self om
  have hcb:∀ i (h:i < MT.length),(cs.set a (.slice (some ⟨Bq,0,none⟩) n n))[i]?=some (.slice (some ⟨MT[i].1,0,none⟩) n n):=fun i h=>by rw [List.getElem?_set_ne om];exact (hmt i h).1
  generalize cs.set a (.slice (some ⟨Bq,0,none⟩) n n)=cs1 at *;refine J.loop (c:=_) ((0,List.replicate n (0,0)):Nat×List (Int×Rat)) (fun x=>n-x.1) (fun x=>[(0,.pointer (some ⟨bt,0,none⟩)),(2,.int .i64 n),(3,.slice (some ⟨Bm,0,none⟩) n n),(4,.slice (some ⟨Bd,0,none⟩) n n),(5,.slice (some ⟨Bf,0,none⟩) n n),(6,.int .i64 a),(32,.int .i64 n),(33,.int .i64 a),(41,.int .i64 n),(42,.int .i64 x.1)]) (fun x=>.blk Bq 221 (flat mvC x.2) (n*4)::.blk Bm 219 cs1 (n*1)::.blk Bd 25 (flat qW dl) (n*3)::.blk Bf 3 (flat isN fl) (n*1)::.blk bt 200 [.int .i64 rf,.int .i64 rt,.slice ra rl rc,.int .i64 rlo,.int .i64 rhi,.slice ca n cc,.slice (some ⟨bc,0,none⟩) S kc,.slice (some ⟨bx,0,none⟩) S kx] 8::.blk bc 61 (flat (cY n) CT) tc::.blk bx 28 (flat (eD n) XT) tx::(rws (pE n) MT++(rws eM CT++(rws (fO n) XT++M0)))) (fun x=>x.1<=n/\x.2.length=n/\(∀ j,j < x.1->x.2[j]?=some (mvV (mvF (xOf XT) g a j S)))/\∀ j,x.1<=j->j < n->x.2[j]?=some (0,0)) ?_ sbT sbL ?_
  ·exact ⟨Nat.zero_le _,by simp,fun j h=>absurd h (Nat.not_lt_zero _),fun j _ hj=>by dsimp only;rw [List.getElem?_replicate,if_pos hj]⟩
  intro ⟨b,L⟩ ⟨hb,hll,hl1,hl2⟩ ihb;dsimp only at hb hll hl1 hl2 ⊢;rw [hxe] at hl1 ihb;by_cases hbn:b < n
  ·have hst:=Kt (L:=L) (b:=b) om (-1) (hl2 b (Nat.le_refl _) hbn)
   repeat' first|(refine gp ?_;and_intros<;>first|exact trivial|repeat first|intro(Bk:Nat)|intro h)|(apply G.ld;rfl;(apply LdV.one;apply aC.blk;exact mm;exact hca);rfl)|(apply G.s1 (out:=flat mvC (L.set b (-1,0)));rfl;rfl;rfl;(repeat (first|exact RAt.head|apply RAt.tail));exact ⟨rfl,rfl⟩;(rw [aO kZ,dV];omega);exact hst)
   refine J.loop (c:=_) ((0,L.set b (-1,0)):Nat×List (Int×Rat)) (fun x=>S-x.1) (fun x=>[(0,.pointer (some ⟨bt,0,none⟩)),(2,.int .i64 n),(3,.slice (some ⟨Bm,0,none⟩) n n),(4,.slice (some ⟨Bd,0,none⟩) n n),(5,.slice (some ⟨Bf,0,none⟩) n n),(6,.int .i64 a),(7,.int .i64 b),(32,.int .i64 n),(33,.int .i64 a),(41,.int .i64 n),(42,.int .i64 b),(56,.int .i64 S),(57,.int .i64 x.1)]) (fun x=>.blk Bq 221 (flat mvC x.2) (n*4)::.blk Bm 219 cs1 (n*1)::.blk Bd 25 (flat qW dl) (n*3)::.blk Bf 3 (flat isN fl) (n*1)::.blk bt 200 [.int .i64 rf,.int .i64 rt,.slice ra rl rc,.int .i64 rlo,.int .i64 rhi,.slice ca n cc,.slice (some ⟨bc,0,none⟩) S kc,.slice (some ⟨bx,0,none⟩) S kx] 8::.blk bc 61 (flat (cY n) CT) tc::.blk bx 28 (flat (eD n) XT) tx::(rws (pE n) MT++(rws eM CT++(rws (fO n) XT++M0)))) (fun x=>x.1<=S/\x.2.length=n/\(∀ j,j < b->x.2[j]?=some (mvV (mvF (xOf XT) g a j S)))/\x.2[b]?=some (mvV (mvF (xOf XT) g a b x.1))/\∀ j,b < j->j < n->x.2[j]?=some (0,0)) ?_ sbT sbL ?_
   ·refine ⟨Nat.zero_le _,by rw [List.length_set];exact hll,fun j h=>?_,?_,fun j h h2=>?_⟩
    ·dsimp only;rw [List.getElem?_set_ne om,hxe];exact hl1 j h
    ·dsimp only;rw [List.getElem?_set_self om];rfl
    ·dsimp only;rw [List.getElem?_set_ne om];exact hl2 j om h2
   clear hl1 hl2 hll hst;intro ⟨s,L⟩ ⟨hs,hll,hl1,hlb,hl2⟩ ihs;dsimp only at hs hll hl1 hlb hl2 ⊢;rw [hxe] at hl1 hlb ihs;by_cases hsS:s < S
   ·
    have hsC:s < CT.length:=by omega
    have hsX:s < XT.length:=by omega
    have hmC:=fun R=>iG (F:=eM) (M0:=R) hsC
    have hmX:=fun R=>iG (F:=fO n) (M0:=R) hsX
    have hc1:(flat (cY n) CT)[0+s*1]?=some (.slice (some ⟨CT[s].1,0,none⟩) n CT[s].2.1):=gA (f:=cY n) (fun _=>rfl) hsC rfl
    have hx1:(flat (eD n) XT)[0+s*1]?=some (.slice (some ⟨XT[s].1,0,none⟩) n n):=gA (f:=eD n) (fun _=>rfl) hsX rfl
    have hgb:=(hC.row s hsC).2 b hbn;have hga:=(hC.row s hsC).2 a han;have hxr:=hX.row s hsX;have hxa:=NU (XT:=XT) (s:=s) (c:=a) hsX om;rw [hxe] at hxa;have hxa:(flat isV XT[s].2)[0+a*1]?=some (.int .i64 (x s a)):=gA (f:=isV) dE (i:=a) om (by rw [(List.getElem?_eq_some_iff.1 hxa).2];rfl)
    have hxb:0<=x s a/\x s a<=1402560:=⟨hxn s a hsS han,by
     have h1:=fZ (f:=x s) (fun c hc=>hxn s c hsS hc) a han
     rw [hF.row s hsS] at h1;exact Int.le_trans h1 (hrow s hsS)⟩
    have hfb':=hg s b hsS hbn;have hfa':=hg s a hsS han;have hfby:=jX hfb' hfa' dc dc;have hsub:=NS (aH.big hfb' dc) (aH.big hfa' dc);have hset:=Ks (L:=L) (b:=b) om ((s:Int),g s b-g s a);dsimp only [mvC,qW,qV] at hset;have hstg:=Gc hlb;have hby:=OL hlb;have hmv:∀ q,mvF x g a b s=some q->q.1 < s/\q.2=g q.1 b-g q.1 a:=fun q h=>⟨(qO h).1,(qO h).2.2⟩
    generalize CT[s]=ce at *;generalize XT[s]=xe at *;obtain ⟨bce,kce,Lce⟩:=ce;obtain ⟨bxe,Lxe⟩:=xe;dsimp only [eM,fO] at hmC hmX hc1 hx1 hgb hga hxa;by_cases hxp:0 < x s a
    ·cases hmvs:mvF x g a b s with
     | none =>
      rw [hmvs] at hlb hstg hby
      have ihs:=ihs (s+1,L.set b ((s:Int),g s b-g s a)) ⟨hsS,by rw [List.length_set];exact hll,fun j h=>by dsimp only;rw [List.getElem?_set_ne om];exact hl1 j h,by dsimp only;rw [List.getElem?_set_self om,mvF,if_pos hxp,hmvs];rfl,fun j h h2=>by dsimp only;rw [List.getElem?_set_ne om];exact hl2 j h h2⟩ (by dsimp only;omega)
      have hcmp:True:=trivial;clear hlb hby hmvs hmv hfb' hfa' hfby hl1 hl2;dsimp only [mvV] at hstg;generalize rQ (g s b-g s a)=qby at *;obtain ⟨n1,u1,d1⟩:=qby
      dsimp only [qA] at *;repeat' first|(refine gp ?_;and_intros<;>first|exact trivial|repeat first|intro(Bk:Nat)|intro h)|(apply G.ld;rfl;(apply LdV.one;apply aC.blk;exact mm;exact hc1);rfl)|(apply G.ld;rfl;(apply LdV.one;apply aC.blk;exact mm;exact hx1);rfl)|(apply G.ld;rfl;exact LdV.flat bY (by (repeat (first|exact List.mem_append_right _ (hmC _)|apply List.Mem.tail))) hgb rfl;rfl)|(apply G.ld;rfl;exact LdV.flat bY (by (repeat (first|exact List.mem_append_right _ (hmC _)|apply List.Mem.tail))) hga rfl;rfl)|(apply G.ld;rfl;(apply LdV.one;apply aC.blk;((repeat (first|exact List.mem_append_right _ (List.mem_append_right _ (hmX _))|apply List.Mem.tail)));exact hxa);rfl)|(apply J.Py (.q 0 <| .q 1 <| .q 2 <| .q 3 <| .q 4 <| .q 5 <| .q 6 <| .q 7 <| .q 8 <| .q 9 <| .q 10 <| .q 11 <| .q 12 <| .q 13 <| .q 14 <| .q 15 <| .q 16 <| .q 17 <| .q 18 <| .q 19 <| .q 20 <| .e 21 <| .r 22 <| .nil);exact Tryz.Pr;decide +kernel)|(apply G.cV (g:=28);rfl;rfl;exact fun w' _=>hsub w')|(apply G.ld;rfl;(apply LdV.one;apply aC.blk;exact mm;exact hca);rfl)|(apply G.ld;rfl;(apply LdV.one;apply aC.blk;exact mm;exact hstg);rfl)|(apply G.ld;rfl;(apply LdV.part;exact mm;exact hby;rfl);rfl)|(apply G.cV (g:=22);rfl;rfl;exact fun w' _=>hcmp w')|(apply G.sA (vs:=[.int .i64 s,.bool n1,.string (bs u1),.string (bs d1)]) (out:=flat mvC (L.set b ((s:Int),g s b-g s a)));rfl;rfl;rfl;(repeat (first|exact RAt.head|apply RAt.tail));rfl;rfl;(rw [aO kZ];dsimp only [List.length_cons,List.length_nil];omega);exact hset)
      exact J.fin ihs
     | some q =>
      rw [hmvs] at hlb hstg hby
      obtain ⟨q1,q2⟩:=q;obtain ⟨hq1,hq2⟩:=hmv _ hmvs;dsimp only at hq1 hq2;have hfq:aH 283 (rQ q2):=by rw [hq2];exact jX (hg q1 b om hbn) (hg q1 a om han) dc dc
      have hcmp:=LZ (aH.big hfby dc) (aH.big hfq dc);dsimp only [mvV,qW,qV] at hstg hby
      by_cases hlt:g s b-g s a < q2
      ·have ihs:=ihs (s+1,L.set b ((s:Int),g s b-g s a)) ⟨hsS,by rw [List.length_set];exact hll,fun j h=>by dsimp only;rw [List.getElem?_set_ne om];exact hl1 j h,by dsimp only;rw [List.getElem?_set_self om,mvF,if_pos hxp,hmvs];dsimp only;rw [if_pos hlt];rfl,fun j h h2=>by dsimp only;rw [List.getElem?_set_ne om];exact hl2 j h h2⟩ (by dsimp only;omega)
       have hsg:dR (g s b-g s a-q2) < 0:=Int.not_le.1 fun h=>(oS.1 h) hlt
       clear hlb hmvs hmv hfb' hfa' hfby hl1 hl2 hq2 hlt hfq;generalize dR (g s b-g s a-q2)=sg at *;generalize rQ q2=qq at *;generalize rQ (g s b-g s a)=qby at *;obtain ⟨n1,u1,d1⟩:=qby
       obtain ⟨n2,u2,d2⟩:=qq;dsimp only [qA] at *;repeat' first|(refine gp ?_;and_intros<;>first|exact trivial|repeat first|intro(Bk:Nat)|intro h)|(apply G.ld;rfl;(apply LdV.one;apply aC.blk;exact mm;exact hc1);rfl)|(apply G.ld;rfl;(apply LdV.one;apply aC.blk;exact mm;exact hx1);rfl)|(apply G.ld;rfl;exact LdV.flat bY (by (repeat (first|exact List.mem_append_right _ (hmC _)|apply List.Mem.tail))) hgb rfl;rfl)|(apply G.ld;rfl;exact LdV.flat bY (by (repeat (first|exact List.mem_append_right _ (hmC _)|apply List.Mem.tail))) hga rfl;rfl)|(apply G.ld;rfl;(apply LdV.one;apply aC.blk;((repeat (first|exact List.mem_append_right _ (List.mem_append_right _ (hmX _))|apply List.Mem.tail)));exact hxa);rfl)|(apply J.Py (.q 0 <| .q 1 <| .q 2 <| .q 3 <| .q 4 <| .q 5 <| .q 6 <| .q 7 <| .q 8 <| .q 9 <| .q 10 <| .q 11 <| .q 12 <| .q 13 <| .q 14 <| .q 15 <| .q 16 <| .q 17 <| .q 18 <| .q 19 <| .q 20 <| .e 21 <| .r 22 <| .nil);exact Tryz.Pr;decide +kernel)|(apply G.cV (g:=28);rfl;rfl;exact fun w' _=>hsub w')|(apply G.ld;rfl;(apply LdV.one;apply aC.blk;exact mm;exact hca);rfl)|(apply G.ld;rfl;(apply LdV.one;apply aC.blk;exact mm;exact hstg);rfl)|(apply G.ld;rfl;(apply LdV.part;exact mm;exact hby;rfl);rfl)|(apply G.cV (g:=22);rfl;rfl;exact fun w' _=>hcmp w')|(apply G.sA (vs:=[.int .i64 s,.bool n1,.string (bs u1),.string (bs d1)]) (out:=flat mvC (L.set b ((s:Int),g s b-g s a)));rfl;rfl;rfl;(repeat (first|exact RAt.head|apply RAt.tail));rfl;rfl;(rw [aO kZ];dsimp only [List.length_cons,List.length_nil];omega);exact hset)
       exact J.fin ihs
      ·have ihs:=ihs (s+1,L) ⟨hsS,hll,hl1,by dsimp only;rw [mvF,if_pos hxp,hmvs];dsimp only;rw [if_neg hlt];exact hlb,hl2⟩ (by dsimp only;omega)
       have hsg:0<=dR (g s b-g s a-q2):=oS.2 hlt;clear hlb hmvs hmv hfb' hfa' hfby hl1 hl2 hq2 hlt hfq hset;generalize dR (g s b-g s a-q2)=sg at *;generalize rQ q2=qq at *;generalize rQ (g s b-g s a)=qby at *;obtain ⟨n1,u1,d1⟩:=qby
       obtain ⟨n2,u2,d2⟩:=qq;dsimp only [qA] at *;repeat' first|(refine gp ?_;and_intros<;>first|exact trivial|repeat first|intro(Bk:Nat)|intro h)|(apply G.ld;rfl;(apply LdV.one;apply aC.blk;exact mm;exact hc1);rfl)|(apply G.ld;rfl;(apply LdV.one;apply aC.blk;exact mm;exact hx1);rfl)|(apply G.ld;rfl;exact LdV.flat bY (by (repeat (first|exact List.mem_append_right _ (hmC _)|apply List.Mem.tail))) hgb rfl;rfl)|(apply G.ld;rfl;exact LdV.flat bY (by (repeat (first|exact List.mem_append_right _ (hmC _)|apply List.Mem.tail))) hga rfl;rfl)|(apply G.ld;rfl;(apply LdV.one;apply aC.blk;((repeat (first|exact List.mem_append_right _ (List.mem_append_right _ (hmX _))|apply List.Mem.tail)));exact hxa);rfl)|(apply J.Py (.q 0 <| .q 1 <| .q 2 <| .q 3 <| .q 4 <| .q 5 <| .q 6 <| .q 7 <| .q 8 <| .q 9 <| .q 10 <| .q 11 <| .q 12 <| .q 13 <| .q 14 <| .q 15 <| .q 16 <| .q 17 <| .q 18 <| .q 19 <| .q 20 <| .e 21 <| .r 22 <| .nil);exact Tryz.Pr;decide +kernel)|(apply G.cV (g:=28);rfl;rfl;exact fun w' _=>hsub w')|(apply G.ld;rfl;(apply LdV.one;apply aC.blk;exact mm;exact hca);rfl)|(apply G.ld;rfl;(apply LdV.one;apply aC.blk;exact mm;exact hstg);rfl)|(apply G.ld;rfl;(apply LdV.part;exact mm;exact hby;rfl);rfl)|(apply G.cV (g:=22);rfl;rfl;exact fun w' _=>hcmp w')
       exact J.fin ihs
    ·have ihs:=ihs (s+1,L) ⟨hsS,hll,hl1,by dsimp only;rw [mvF,if_neg hxp];exact hlb,hl2⟩ (by dsimp only;omega)
     clear hmv hset hfb' hfa' hfby
     have hxz:x s a<=0:=by omega
     generalize g s b=gb at *;generalize g s a=ga at *;repeat' first|(refine gp ?_;and_intros<;>first|exact trivial|repeat first|intro(Bk:Nat)|intro h)|(apply G.ld;rfl;(apply LdV.one;apply aC.blk;exact mm;exact hc1);rfl)|(apply G.ld;rfl;(apply LdV.one;apply aC.blk;exact mm;exact hx1);rfl)|(apply G.ld;rfl;exact LdV.flat bY (by (repeat (first|exact List.mem_append_right _ (hmC _)|apply List.Mem.tail))) hgb rfl;rfl)|(apply G.ld;rfl;exact LdV.flat bY (by (repeat (first|exact List.mem_append_right _ (hmC _)|apply List.Mem.tail))) hga rfl;rfl)|(apply G.ld;rfl;(apply LdV.one;apply aC.blk;((repeat (first|exact List.mem_append_right _ (List.mem_append_right _ (hmX _))|apply List.Mem.tail)));exact hxa);rfl)|(apply J.Py (.q 0 <| .q 1 <| .q 2 <| .q 3 <| .q 4 <| .q 5 <| .q 6 <| .q 7 <| .q 8 <| .q 9 <| .q 10 <| .q 11 <| .q 12 <| .q 13 <| .q 14 <| .q 15 <| .q 16 <| .q 17 <| .q 18 <| .q 19 <| .q 20 <| .e 21 <| .r 22 <| .nil);exact Tryz.Pr;decide +kernel)|(apply G.cV (g:=28);rfl;rfl;exact fun w' _=>hsub w')
     exact J.fin ihs
   ·obtain rfl:S=s:=by omega
    clear ihs;have ihb:=ihb (b+1,L) ⟨hbn,hll,fun j h=>by
     by_cases e:j=b
     ·subst e;exact hlb
     ·exact hl1 j (by dsimp only at h;omega),fun j h h2=>hl2 j (by dsimp only at h;omega) h2⟩ (by dsimp only;omega)
    all_goals (refine go ?_;and_intros<;>first|exact trivial|repeat first|intro(Bk:Nat)|intro h)
    exact J.fin ihb
  ·obtain rfl:n=b:=by omega
   clear ihb;have hL:=Kv hll hl1;have iha:=iha (a+1,cs1,MT++[(Bq,L)]) ⟨han,by simp [hml],hcs1,fun i h=>by
    dsimp only at h ⊢
    rw [List.length_append,List.length_singleton] at h
    by_cases e:i < MT.length
    ·rw [List.getElem_append_left e];exact ⟨hcb i e,(hmt i e).2⟩
    ·obtain rfl:i=MT.length:=by omega
     rw [List.getElem_concat_length rfl];refine ⟨?_,by rw [hml];exact hL⟩
     rw [Nat.zero_add,Nat.mul_one,<- hml] at hca;exact hca⟩ (by dsimp only;omega)
   all_goals (refine go ?_;and_intros<;>first|exact trivial|repeat first|intro(Bk:Nat)|intro h)
   refine J.P7 (F:=pE n) (T:=MT) [.blk Bm 219 cs1 (n*1),.blk Bd 25 (flat qW dl) (n*3),.blk Bf 3 (flat isN fl) (n*1),.blk bt 200 [.int .i64 rf,.int .i64 rt,.slice ra rl rc,.int .i64 rlo,.int .i64 rhi,.slice ca n cc,.slice (some ⟨bc,0,none⟩) S kc,.slice (some ⟨bx,0,none⟩) S kx] 8,.blk bc 61 (flat (cY n) CT) tc,.blk bx 28 (flat (eD n) XT) tx] (Bq,L) ?_;exact J.fin iha
 ·obtain rfl:n=a:=by omega
  clear iha;repeat' first|(refine gp ?_;and_intros<;>first|exact trivial|repeat first|intro(Bk:Nat)|intro h)|(apply G.Rq (qV aY);rfl;rfl;(repeat (first|exact RAt.head|apply RAt.tail));rfl;rfl;decide;rfl;exact Tryz.zeroValue25;(rw [aO bY];omega))
  rw [D7,Kp (by rw [aO bY,aO bY,hdl,List.length_replicate])]
  clear hdl;have hmE:=MP (S:=S) (n:=n) (x:=x) (g:=g);refine J.loop (c:=_) ((0,List.replicate n 0,fl,none,fun _=>0):Nat×List Rat×List Nat×Option Nat×(Nat->Nat)) (fun x=>n+1-x.1) (fun x=>[(0,.pointer (some ⟨bt,0,none⟩)),(2,.int .i64 n),(3,.slice (some ⟨Bm,0,none⟩) n n),(4,.slice (some ⟨Bd,0,none⟩) n n),(5,.slice (some ⟨Bf,0,none⟩) n n),(10,.int .i64 (chV x.2.2.2.1)),(130,.int .i64 ((n:Int)+1)),(131,.int .i64 x.1)]) (fun x=>.blk Bm 219 cs (n*1)::.blk Bd 25 (flat qW x.2.1) (n*3)::.blk Bf 3 (flat isN x.2.2.1) (n*1)::.blk bt 200 [.int .i64 rf,.int .i64 rt,.slice ra rl rc,.int .i64 rlo,.int .i64 rhi,.slice ca n cc,.slice (some ⟨bc,0,none⟩) S kc,.slice (some ⟨bx,0,none⟩) S kx] 8::.blk bc 61 (flat (cY n) CT) tc::.blk bx 28 (flat (eD n) XT) tx::(rws (pE n) MT++(rws eM CT++(rws (fO n) XT++M0)))) (fun x=>x.1<=n+1/\x.2.1.length=n/\x.2.2.1.length=n/\(∀ v∈x.2.2.1,v < n)/\(∀ y∈x.2.1,aH (8+300*(x.1*961)) (rQ y))/\kA (mE S n (xOf XT) g) (x.1+1) (fun _ _=>False) (BL x.2.1 x.2.2.1 x.2.2.2.2)/\(0 < x.1->∃ P c,kA (mE S n (xOf XT) g) x.1 P (BL x.2.1 x.2.2.1 x.2.2.2.2)/\x.2.2.2.1=some c/\c < n/\x.2.2.2.2 c=x.1)) ?_ sbT sbL ?_
  ·refine ⟨Nat.zero_le _,by simp,hfl,hfb,fun y hy=>?_,?_,fun h=>absurd h (Nat.lt_irrefl _)⟩
   ·rw [List.eq_of_mem_replicate hy];exact dX
   ·dsimp only;rw [Mh];exact kA.Q5 _ _
  clear hfl hfb;intro ⟨r,dl,fl,ch,u⟩ ⟨hr,hdl,hfl,hfb,hdf,hBI,hlast⟩ ihr;dsimp only at hr hdl hfl hfb hdf hBI hlast ⊢;rw [hxe] at hBI hlast ihr;by_cases hrn:r < n+1
  ·skip
   all_goals (refine go ?_;and_intros<;>first|exact trivial|repeat first|intro(Bk:Nat)|intro h)
   refine J.loop (c:=_) ((0,dl,fl,none,u):Nat×List Rat×List Nat×Option Nat×(Nat->Nat)) (fun x=>n-x.1) (fun x=>[(0,.pointer (some ⟨bt,0,none⟩)),(2,.int .i64 n),(3,.slice (some ⟨Bm,0,none⟩) n n),(4,.slice (some ⟨Bd,0,none⟩) n n),(5,.slice (some ⟨Bf,0,none⟩) n n),(10,.int .i64 (chV x.2.2.2.1)),(130,.int .i64 ((n:Int)+1)),(131,.int .i64 r),(133,.int .i64 n),(134,.int .i64 x.1)]) (fun x=>.blk Bm 219 cs (n*1)::.blk Bd 25 (flat qW x.2.1) (n*3)::.blk Bf 3 (flat isN x.2.2.1) (n*1)::.blk bt 200 [.int .i64 rf,.int .i64 rt,.slice ra rl rc,.int .i64 rlo,.int .i64 rhi,.slice ca n cc,.slice (some ⟨bc,0,none⟩) S kc,.slice (some ⟨bx,0,none⟩) S kx] 8::.blk bc 61 (flat (cY n) CT) tc::.blk bx 28 (flat (eD n) XT) tx::(rws (pE n) MT++(rws eM CT++(rws (fO n) XT++M0)))) (fun x=>x.1<=n/\x.2.1.length=n/\x.2.2.1.length=n/\(∀ v∈x.2.2.1,v < n)/\(∀ y∈x.2.1,aH (8+300*(r*961+x.1*31)) (rQ y))/\RI (mE S n (xOf XT) g) n (r+1) x.1 0 (BL x.2.1 x.2.2.1 x.2.2.2.2) x.2.2.2.1) ?_ sbT sbL ?_
   ·exact ⟨Nat.zero_le _,hdl,hfl,hfb,fun y hy=>aF (hdf y hy) (by dsimp only;omega),by dsimp only;rw [hxe];exact RI.start hBI⟩
   clear hdl hfl hfb hdf hBI hlast;intro ⟨a,dl,fl,ch,u⟩ ⟨ha,hdl,hfl,hfb,hdf,hRI⟩ iha;dsimp only at ha hdl hfl hfb hdf hRI ⊢;rw [hxe] at hRI iha;by_cases han:a < n
   ·skip
    all_goals (refine go ?_;and_intros<;>first|exact trivial|repeat first|intro(Bk:Nat)|intro h)
    refine J.loop (c:=_) ((0,dl,fl,ch,u):Nat×List Rat×List Nat×Option Nat×(Nat->Nat)) (fun x=>n-x.1) (fun x=>[(0,.pointer (some ⟨bt,0,none⟩)),(2,.int .i64 n),(3,.slice (some ⟨Bm,0,none⟩) n n),(4,.slice (some ⟨Bd,0,none⟩) n n),(5,.slice (some ⟨Bf,0,none⟩) n n),(10,.int .i64 (chV x.2.2.2.1)),(11,.int .i64 a),(130,.int .i64 ((n:Int)+1)),(131,.int .i64 r),(133,.int .i64 n),(134,.int .i64 a),(137,.int .i64 n),(138,.int .i64 x.1)]) (fun x=>.blk Bm 219 cs (n*1)::.blk Bd 25 (flat qW x.2.1) (n*3)::.blk Bf 3 (flat isN x.2.2.1) (n*1)::.blk bt 200 [.int .i64 rf,.int .i64 rt,.slice ra rl rc,.int .i64 rlo,.int .i64 rhi,.slice ca n cc,.slice (some ⟨bc,0,none⟩) S kc,.slice (some ⟨bx,0,none⟩) S kx] 8::.blk bc 61 (flat (cY n) CT) tc::.blk bx 28 (flat (eD n) XT) tx::(rws (pE n) MT++(rws eM CT++(rws (fO n) XT++M0)))) (fun x=>x.1<=n/\x.2.1.length=n/\x.2.2.1.length=n/\(∀ v∈x.2.2.1,v < n)/\(∀ y∈x.2.1,aH (8+300*(r*961+a*31+x.1)) (rQ y))/\RI (mE S n (xOf XT) g) n (r+1) a x.1 (BL x.2.1 x.2.2.1 x.2.2.2.2) x.2.2.2.1) ?_ sbT sbL ?_
    ·exact ⟨Nat.zero_le _,hdl,hfl,hfb,fun y hy=>aF (hdf y hy) (by dsimp only;omega),by dsimp only;rw [hxe];exact hRI⟩
    clear hdl hfl hfb hdf hRI;intro ⟨b,dl,fl,ch,u⟩ ⟨hb,hdl,hfl,hfb,hdf,hRI⟩ ihb;dsimp only at hb hdl hfl hfb hdf hRI ⊢;rw [hxe] at hRI ihb;by_cases hbn:b < n
    ·
     have haM:a < MT.length:=by omega
     have hmM:=fun R=>iG (F:=pE n) (M0:=R) haM
     obtain ⟨hm1,hm2⟩:=hmt a haM;have hm1:cs[0+a*1]?=some (.slice (some ⟨MT[a].1,0,none⟩) n n):=by rw [Nat.zero_add,Nat.mul_one];exact hm1
     have hme:MT[a].2[b]?=some (mvV (mvF x g a b S)):=by rw [hm2];exact AQ hbn
     have hcase:=OM (S:=S) (x:=x) (g:=g) han hbn;have hrec:=fun (dl':List Rat) (fl':List Nat) ch' u' (h1:dl'.length=n) (h2:fl'.length=n) (h3:∀ v∈fl',v < n) (h4:∀ y∈dl',aH (8+300*(r*961+a*31+(b+1))) (rQ y)) h5=>ihb (b+1,dl',fl',ch',u') ⟨hbn,h1,h2,h3,h4,h5⟩ (by dsimp only;omega)
     clear ihb;have hdf1:∀ y∈dl,aH (8+300*(r*961+a*31+(b+1))) (rQ y):=fun y hy=>aF (hdf y hy) om
     have hy2:∀ w,mE S n x g a b=some w->aH 283 (rQ w):=fun w hw=>by
      obtain ⟨_,_,_,h4,_,h6⟩:=oQ hw;rw [h6];exact jX (hg _ b h4 hbn) (hg _ a h4 han) dc dc
     generalize mvV (mvF x g a b S)=y at *;generalize MT[a]=me at *;obtain ⟨bme,Lme⟩:=me;obtain ⟨y1,y2⟩:=y;dsimp only [pE] at hmM hm1 hme hcase;have hld:mvC (y1,y2)=[.int .i64 y1,.bool (rQ y2).neg,.string (bs (rQ y2).num),.string (bs (rQ y2).den)]:=rfl;by_cases hab:a=b
     ·have ih:=hrec dl fl ch u hdl hfl hfb hdf1 (hRI.skip fun w _ hne=>absurd hab hne)
      clear hrec hRI hcase hy2 hdf hdf1 hmt;generalize rQ y2=qy at *;obtain ⟨n1,u1,d1⟩:=qy;repeat' first|(refine gp ?_;and_intros<;>first|exact trivial|repeat first|intro(Bk:Nat)|intro h)|(apply G.ld;rfl;(apply LdV.one;apply aC.blk;exact mm;exact hm1);rfl)|(apply G.ld;rfl;exact LdV.P6 kZ (by (repeat (first|exact hmM _|apply List.Mem.tail))) hme rfl hld;rfl)
      exact J.fin ih
     ·rcases hcase with ⟨hmn,hy1⟩|⟨hms,hy1⟩
      ·have ih:=hrec dl fl ch u hdl hfl hfb hdf1 (hRI.skip fun w hw _=>by rw [hmn] at hw;cases hw)
       clear hrec hRI hy2 hdf hdf1 hmt hmn;generalize rQ y2=qy at *;obtain ⟨n1,u1,d1⟩:=qy;repeat' first|(refine gp ?_;and_intros<;>first|exact trivial|repeat first|intro(Bk:Nat)|intro h)|(apply G.ld;rfl;(apply LdV.one;apply aC.blk;exact mm;exact hm1);rfl)|(apply G.ld;rfl;exact LdV.P6 kZ (by (repeat (first|exact hmM _|apply List.Mem.tail))) hme rfl hld;rfl)
       exact J.fin ih
      ·have hda:dl[a]?=some (dl.getD a 0):=by rw [gD,gE om];rfl
       have hdb:dl[b]?=some (dl.getD b 0):=by rw [gD,gE om];rfl
       have hfa:=hdf _ (List.mem_of_getElem? hda);have hfb2:=hdf _ (List.mem_of_getElem? hdb);have hfy:=hy2 _ hms;have hfs:=eT hfa hfy om dc;have hadd:=LY (aH.big hfa om) (aH.big hfy dc);have hcmp:=LZ (aH.big hfs om) (aH.big hfb2 om);have hl1:qW (dl.getD a 0)=[.bool (rQ (dl.getD a 0)).neg,.string (bs (rQ (dl.getD a 0)).num),.string (bs (rQ (dl.getD a 0)).den)]:=rfl;have hl2:qW (dl.getD b 0)=[.bool (rQ (dl.getD b 0)).neg,.string (bs (rQ (dl.getD b 0)).num),.string (bs (rQ (dl.getD b 0)).den)]:=rfl;by_cases hlt:dl.getD a 0+y2 < dl.getD b 0
       ·have hR2:=hRI.relax om hbn hms hab hlt
        rw [NV om om] at hR2;have ih:=hrec (dl.set b (dl.getD a 0+y2)) (fl.set b a) (some b) _ (by rw [List.length_set];exact hdl) (by rw [List.length_set];exact hfl) (fun v hv=>(EO hv).elim (hfb v) fun e=>by rw [e];exact han) (fun y hy=>(EO hy).elim (hdf1 y) fun e=>by rw [e];exact aF hfs om) hR2
        have hset1:=NW (dl:=dl) (b:=b) om (dl.getD a 0+y2);have hset2:=Mi (fl:=fl) (b:=b) om a;dsimp only [qW,qV] at hset1;have hsg:dR (dl.getD a 0+y2-dl.getD b 0) < 0:=Int.not_le.1 fun h=>(oS.1 h) hlt
        dsimp only [chV] at ih;clear hrec hRI hy2 hdf hdf1 hmt hR2 hms hlt hfs hfa hfb2 hfy;generalize dR (dl.getD a 0+y2-dl.getD b 0)=sg at *;generalize hq1:rQ (dl.getD a 0+y2)=q1 at hset1 hadd hcmp;generalize hq2:rQ (dl.getD a 0)=q2 at hl1 hadd;generalize hq3:rQ (dl.getD b 0)=q3 at hl2 hcmp;generalize hq4:rQ y2=q4 at hld hadd;clear hq1 hq2 hq3 hq4;obtain ⟨n1,u1,d1⟩:=q1;obtain ⟨n2,u2,d2⟩:=q2;obtain ⟨n3,u3,d3⟩:=q3;obtain ⟨n4,u4,d4⟩:=q4;dsimp only [qA] at hadd hcmp hset1 hl1 hl2 hld;repeat' first|(refine gp ?_;and_intros<;>first|exact trivial|repeat first|intro(Bk:Nat)|intro h)|(apply G.ld;rfl;(apply LdV.one;apply aC.blk;exact mm;exact hm1);rfl)|(apply G.ld;rfl;exact LdV.P6 kZ (by (repeat (first|exact hmM _|apply List.Mem.tail))) hme rfl hld;rfl)|(apply G.ld;rfl;exact LdV.P6 bY (by exact mm) hda rfl hl1;rfl)|(apply G.ld;rfl;exact LdV.P6 bY (by exact mm) hdb rfl hl2;rfl)|(apply G.cV (g:=27);rfl;rfl;exact fun w' _=>hadd w')|(apply G.cV (g:=22);rfl;rfl;exact fun w' _=>hcmp w')|(apply J.Py (.q 0 <| .q 1 <| .q 2 <| .q 3 <| .q 4 <| .q 5 <| .q 6 <| .q 7 <| .q 8 <| .q 9 <| .q 10 <| .q 11 <| .q 12 <| .q 13 <| .r 14 <| .q 15 <| .r 16 <| .q 17 <| .nil);exact Tryz.Pr;decide +kernel)|(apply G.sA (vs:=[.bool n1,.string (bs u1),.string (bs d1)]) (out:=flat qW (dl.set b (dl.getD a 0+y2)));rfl;rfl;rfl;(repeat (first|exact RAt.head|apply RAt.tail));rfl;rfl;(rw [aO bY];dsimp only [List.length_cons,List.length_nil];omega);exact hset1)|(apply G.s1 (out:=flat isN (fl.set b a));rfl;rfl;rfl;(repeat (first|exact RAt.head|apply RAt.tail));exact ⟨rfl,rfl⟩;(rw [aO D5];omega);exact hset2)
        exact J.fin ih
       ·have ih:=hrec dl fl ch u hdl hfl hfb hdf1 (hRI.skip fun w hw _=>by
         rw [hms] at hw;cases hw;exact Rat.not_lt.1 hlt)
        have hsg:0<=dR (dl.getD a 0+y2-dl.getD b 0):=oS.2 hlt;clear hrec hRI hy2 hdf hdf1 hmt hms hlt hfs hfa hfb2 hfy;generalize dR (dl.getD a 0+y2-dl.getD b 0)=sg at *;generalize hq1:rQ (dl.getD a 0+y2)=q1 at hadd hcmp;generalize hq2:rQ (dl.getD a 0)=q2 at hl1 hadd;generalize hq3:rQ (dl.getD b 0)=q3 at hl2 hcmp;generalize hq4:rQ y2=q4 at hld hadd;clear hq1 hq2 hq3 hq4;obtain ⟨n1,u1,d1⟩:=q1;obtain ⟨n2,u2,d2⟩:=q2;obtain ⟨n3,u3,d3⟩:=q3;obtain ⟨n4,u4,d4⟩:=q4;dsimp only [qA] at hadd hcmp hl1 hl2 hld;repeat' first|(refine gp ?_;and_intros<;>first|exact trivial|repeat first|intro(Bk:Nat)|intro h)|(apply G.ld;rfl;(apply LdV.one;apply aC.blk;exact mm;exact hm1);rfl)|(apply G.ld;rfl;exact LdV.P6 kZ (by (repeat (first|exact hmM _|apply List.Mem.tail))) hme rfl hld;rfl)|(apply G.ld;rfl;exact LdV.P6 bY (by exact mm) hda rfl hl1;rfl)|(apply G.ld;rfl;exact LdV.P6 bY (by exact mm) hdb rfl hl2;rfl)|(apply G.cV (g:=27);rfl;rfl;exact fun w' _=>hadd w')|(apply G.cV (g:=22);rfl;rfl;exact fun w' _=>hcmp w')
        exact J.fin ih
    ·obtain rfl:n=b:=by omega
     clear ihb;have iha:=iha (a+1,dl,fl,ch,u) ⟨han,hdl,hfl,hfb,fun y hy=>aF (hdf y hy) (by dsimp only;omega),hRI.row hmE⟩ (by dsimp only;omega)
     all_goals (refine go ?_;and_intros<;>first|exact trivial|repeat first|intro(Bk:Nat)|intro h)
     exact J.fin iha
   ·obtain rfl:n=a:=by omega
    clear iha;cases ch with
    | none =>
     have hpot:=Kf (fun a b ha hb=>hRI.stop a b ha hb)
     dsimp only [chV];all_goals (refine go ?_;and_intros<;>first|exact trivial|repeat first|intro(Bk:Nat)|intro h)
     refine O2 Tryz.func147 Tryz.results147 ?_;intro w' hw';refine ⟨⟨XT,hX,hfs,by rw [hxe];exact hF,fun v=>dl.getD v 0,fun b hb=>?_,by rw [hxe];exact hpot⟩,rfl,hw'.sel (by (repeat' (first|exact Sel.refl|(refine Sel.cons (by (repeat (first|exact eS.head|apply eS.tail))) ?_)|apply Sel.drop|refine Sel.PV ?_ _)))⟩
     dsimp only;rw [gD,gE om,Option.getD_some];exact aF (hdf _ (gM _)) om
    | some c =>
     obtain ⟨hc1,hc2⟩:=hRI.last c rfl;have ihr:=ihr (r+1,dl,fl,some c,u) ⟨hrn,hdl,hfl,hfb,fun y hy=>aF (hdf y hy) (by dsimp only;omega),hRI.again hmE,fun _=>⟨_,c,hRI.inv,rfl,hc1,hc2⟩⟩ (by dsimp only;omega)
     dsimp only [chV] at ihr ⊢;all_goals (refine go ?_;and_intros<;>first|exact trivial|repeat first|intro(Bk:Nat)|intro h)
     exact J.fin ihr
  ·obtain rfl:r=n+1:=by omega
   obtain ⟨P,c,hB2,rfl,hcn,huc⟩:=hlast om;obtain ⟨p,hp,hall,k,hkn,hcyc,hneg,hedge⟩:=Mj hB2 huc;clear ihr hBI hlast hB2 hdf huc;have hfr:∀ b,b < n->(flat isN fl)[0+b*1]?=some (.int .i64 ((p b:Nat):Int)):=fun b hb=>by
    refine gA (f:=isN) D5 (i:=b) om ?_;rw [hp,gD,gE om];rfl
   clear hp;have hxr:∀ s c,s < S->c < n->0<=x s c/\x s c<=1402560:=fun s a hsS han=>⟨hxn s a hsS han,by
     have h1:=fZ (f:=x s) (fun c hc=>hxn s c hsS hc) a han
     rw [hF.row s hsS] at h1;exact Int.le_trans h1 (hrow s hsS)⟩
   dsimp only [chV];all_goals (refine go ?_;and_intros<;>first|exact trivial|repeat first|intro(Bk:Nat)|intro h)
   refine J.loop (c:=_) (0:Nat) (fun s=>n-s) (fun s=>[(0,.pointer (some ⟨bt,0,none⟩)),(2,.int .i64 n),(3,.slice (some ⟨Bm,0,none⟩) n n),(4,.slice (some ⟨Bd,0,none⟩) n n),(5,.slice (some ⟨Bf,0,none⟩) n n),(14,.int .i64 ((itP p s c:Nat):Int)),(192,.int .i64 n),(193,.int .i64 s)]) (fun s=>.blk Bm 219 cs (n*1)::.blk Bd 25 (flat qW dl) (n*3)::.blk Bf 3 (flat isN fl) (n*1)::.blk bt 200 [.int .i64 rf,.int .i64 rt,.slice ra rl rc,.int .i64 rlo,.int .i64 rhi,.slice ca n cc,.slice (some ⟨bc,0,none⟩) S kc,.slice (some ⟨bx,0,none⟩) S kx] 8::.blk bc 61 (flat (cY n) CT) tc::.blk bx 28 (flat (eD n) XT) tx::(rws (pE n) MT++(rws eM CT++(rws (fO n) XT++M0)))) (fun s=>s<=n) ?_ sbT sbL ?_
   ·exact Nat.zero_le _
   intro i hi ihi;by_cases hin:i < n
   ·have ihi:=ihi (i+1) hin om
    rw [nK] at ihi;have hfi:=hfr _ (hall i);have hbi:=hall i;generalize itP p i c=b at *;repeat' first|(refine gp ?_;and_intros<;>first|exact trivial|repeat first|intro(Bk:Nat)|intro h)|(apply G.ld;rfl;(apply LdV.one;apply aC.blk;exact mm;exact hfi);rfl)
    exact J.fin ihi
   ·obtain rfl:n=i:=by omega
    clear ihi;have hall2:∀ j,itP p j (itP p n c) < n:=fun j=>by rw [<- gL];exact hall _
    generalize itP p n c=v at *;all_goals (refine go ?_;and_intros<;>first|exact trivial|repeat first|intro(Bk:Nat)|intro h)
    refine J.loop (c:=_) ((0,1402560):Nat×Int) (fun s=>k-s.1) (fun s=>[(0,.pointer (some ⟨bt,0,none⟩)),(2,.int .i64 n),(3,.slice (some ⟨Bm,0,none⟩) n n),(4,.slice (some ⟨Bd,0,none⟩) n n),(5,.slice (some ⟨Bf,0,none⟩) n n),(14,.int .i64 (v:Nat)),(15,.int .i64 s.2),(16,.int .i64 ((itP p s.1 v:Nat):Int)),(17,.bool (tP s.1))]) (fun s=>.blk Bm 219 cs (n*1)::.blk Bd 25 (flat qW dl) (n*3)::.blk Bf 3 (flat isN fl) (n*1)::.blk bt 200 [.int .i64 rf,.int .i64 rt,.slice ra rl rc,.int .i64 rlo,.int .i64 rhi,.slice ca n cc,.slice (some ⟨bc,0,none⟩) S kc,.slice (some ⟨bx,0,none⟩) S kx] 8::.blk bc 61 (flat (cY n) CT) tc::.blk bx 28 (flat (eD n) XT) tx::(rws (pE n) MT++(rws eM CT++(rws (fO n) XT++M0)))) (fun s=>s.1<=k/\0 < s.2/\s.2<=1402560/\∀ i,i < s.1->s.2<=x (mS S x g (itP p (i+1) v) (itP p i v)) (itP p (i+1) v)) ?_ sbT sbL ?_
    ·exact ⟨Nat.zero_le _,by decide,by decide,fun i h=>absurd h (Nat.not_lt_zero _)⟩
    intro ⟨j,mo⟩ ⟨hjk,hm0,hm1,hmle⟩ ihj;dsimp only at hjk hm0 hm1 hmle ⊢;by_cases hj:j < k
    ·
     skip
     ·obtain ⟨q,hq,hab⟩:=hedge j
      obtain ⟨_,_,hmv,hsS,hx0,_⟩:=oQ hq;have hbv:tP j=true->itP p j v≠v:=fun hb=>hcyc.once j (by cases j with
       | zero=>cases hb
       | succ j=>exact Nat.succ_pos _) hj
      have ha:=hall2 (j+1);have hb:=hall2 j;have hfb2:=hfr _ hb;rw [<- nK p j v] at hfb2;have haM:itP p (j+1) v < MT.length:=by omega
      have hmM:=fun R=>iG (F:=pE n) (M0:=R) haM
      obtain ⟨hq1,hq2⟩:=hmt _ haM;have hq1:cs[0+itP p (j+1) v*1]?=some (.slice (some ⟨MT[itP p (j+1) v].1,0,none⟩) n n):=by rw [Nat.zero_add,Nat.mul_one];exact hq1
      have hme:MT[itP p (j+1) v].2[itP p j v]?=some (mvV (mvF x g (itP p (j+1) v) (itP p j v) S)):=by rw [hq2];exact AQ hb
      have hstg:=Gc hme;rw [hmv] at hstg;dsimp only [mvV] at hstg;have hxv:=hxr _ _ hsS ha;have ihj:=ihj (j+1,min mo (x (mS S x g (itP p (j+1) v) (itP p j v)) (itP p (j+1) v))) ⟨hj,by dsimp only;omega,by dsimp only;omega,fun i hi=>by
       dsimp only at hi ⊢;by_cases e:i=j
       ·subst e;exact Int.min_le_right _ _
       ·exact Int.le_trans (Int.min_le_left _ _) (hmle i om)⟩ (by dsimp only;omega)
      dsimp only at ihj;have hx1:=H5 hX hsS;have hxa:=vJ hX hsS ha;have hmX:=AU hX hsS;rw [hxe] at hxa;clear hme hq2 hmle hq hmv hab hx0;generalize MT[itP p (j+1) v]=me at *;generalize XT.getD (mS S x g (itP p (j+1) v) (itP p j v)) (0,[])=xe at *;generalize x (mS S x g (itP p (j+1) v) (itP p j v)) (itP p (j+1) v)=xv at *;generalize mS S x g (itP p (j+1) v) (itP p j v)=s at *;generalize itP p (j+1) v=a at *;generalize itP p j v=b at *;generalize hbg:tP j=bg at *;obtain ⟨bme,Lme⟩:=me;obtain ⟨bxe,Lxe⟩:=xe;dsimp only [pE,fO] at hmM hq1 hstg hx1 hxa hmX;cases bg with
      | false =>
       repeat' first|(refine gp ?_;and_intros<;>first|exact trivial|repeat first|intro(Bk:Nat)|intro h)|(apply G.ld;rfl;(apply LdV.one;apply aC.blk;exact mm;exact hfb2);rfl)|(apply G.ld;rfl;(apply LdV.one;apply aC.blk;exact mm;exact hq1);rfl)|(apply G.ld;rfl;(apply LdV.one;apply aC.blk;(repeat (first|exact hmM _|apply List.Mem.tail));exact hstg);rfl)|(apply G.ld;rfl;(apply LdV.one;apply aC.blk;exact mm;exact hx1);rfl)|(apply G.ld;rfl;(apply LdV.one;apply aC.blk;((repeat (first|exact List.mem_append_right _ (List.mem_append_right _ (hmX _))|apply List.Mem.tail)));exact hxa);rfl)
       exact J.fin ihj
      | true =>
       have hne:=hbv rfl;repeat' first|(refine gp ?_;and_intros<;>first|exact trivial|repeat first|intro(Bk:Nat)|intro h)|(apply G.ld;rfl;(apply LdV.one;apply aC.blk;exact mm;exact hfb2);rfl)|(apply G.ld;rfl;(apply LdV.one;apply aC.blk;exact mm;exact hq1);rfl)|(apply G.ld;rfl;(apply LdV.one;apply aC.blk;(repeat (first|exact hmM _|apply List.Mem.tail));exact hstg);rfl)|(apply G.ld;rfl;(apply LdV.one;apply aC.blk;exact mm;exact hx1);rfl)|(apply G.ld;rfl;(apply LdV.one;apply aC.blk;((repeat (first|exact List.mem_append_right _ (List.mem_append_right _ (hmX _))|apply List.Mem.tail)));exact hxa);rfl)
       exact J.fin ihj
    ·obtain rfl:k=j:=by omega
     have hkv:=hcyc.back;have hk1:tP k=true:=by
      have:=hcyc.pos;cases k with
      | zero=>omega
      | succ k=>rfl
     clear ihj;rw [hkv,hk1];all_goals (refine go ?_;and_intros<;>first|exact trivial|repeat first|intro(Bk:Nat)|intro h)
     refine J.loop (c:=_) ((0,XT):Nat×List (Nat×List Int)) (fun s=>k-s.1) (fun s=>[(0,.pointer (some ⟨bt,0,none⟩)),(2,.int .i64 n),(3,.slice (some ⟨Bm,0,none⟩) n n),(4,.slice (some ⟨Bd,0,none⟩) n n),(5,.slice (some ⟨Bf,0,none⟩) n n),(14,.int .i64 (v:Nat)),(15,.int .i64 mo),(18,.int .i64 ((itP p s.1 v:Nat):Int)),(19,.bool (tP s.1))]) (fun s=>.blk Bm 219 cs (n*1)::.blk Bd 25 (flat qW dl) (n*3)::.blk Bf 3 (flat isN fl) (n*1)::.blk bt 200 [.int .i64 rf,.int .i64 rt,.slice ra rl rc,.int .i64 rlo,.int .i64 rhi,.slice ca n cc,.slice (some ⟨bc,0,none⟩) S kc,.slice (some ⟨bx,0,none⟩) S kx] 8::.blk bc 61 (flat (cY n) CT) tc::.blk bx 28 (flat (eD n) s.2) tx::(rws (pE n) MT++(rws eM CT++(rws (fO n) s.2++M0)))) (fun s=>s.1<=k/\kJ S n s.2/\flat (eD n) s.2=flat (eD n) XT/\∀ a b,a < S->b < n->xOf s.2 a b=oN p (mS S x g) mo s.1 v x a b) ?_ sbT sbL ?_
     ·exact ⟨Nat.zero_le _,hX,rfl,fun a b _ _=>by dsimp only;rw [hxe];rfl⟩
     intro ⟨j,XU⟩ ⟨hjk,hX',hfl',hxu⟩ ihj;dsimp only at hjk hX' hfl' hxu ⊢;by_cases hj:j < k
     ·obtain ⟨q,hq,hab⟩:=hedge j
      obtain ⟨_,_,hmv,hsS,hx0,_⟩:=oQ hq;have hbv:tP j=true->itP p j v≠v:=fun hb=>hcyc.once j (by cases j with
       | zero=>cases hb
       | succ j=>exact Nat.succ_pos _) hj
      have ha:=hall2 (j+1);have hb:=hall2 j;have hfb2:=hfr _ hb;rw [<- nK p j v] at hfb2;have haM:itP p (j+1) v < MT.length:=by omega
      have hmM:=fun R=>iG (F:=pE n) (M0:=R) haM
      obtain ⟨hq1,hq2⟩:=hmt _ haM;have hq1:cs[0+itP p (j+1) v*1]?=some (.slice (some ⟨MT[itP p (j+1) v].1,0,none⟩) n n):=by rw [Nat.zero_add,Nat.mul_one];exact hq1
      have hme:MT[itP p (j+1) v].2[itP p j v]?=some (mvV (mvF x g (itP p (j+1) v) (itP p j v) S)):=by rw [hq2];exact AQ hb
      have hstg:=Gc hme;rw [hmv] at hstg;dsimp only [mvV] at hstg;have hbd:∀ s c,s < S->c < n->-60000000<=xOf XU s c/\xOf XU s c<=60000000:=fun s c hs hc=>by
       have h1:=H6 (p:=p) (sg:=mS S x g) (m:=mo) om j v x 1402560 (by
        have h2:=Ml hX (by rw [hxe];exact hxr)
        rw [hxe] at h2;exact h2) s c
       rw [<- hxu s c hs hc] at h1;have h2:(j:Int)*mo<=31*1402560:=Int.mul_le_mul om hm1 om om;omega
      have hxa:=vJ hX' hsS ha;have hba:=hbd _ _ hsS ha;have hbb:=hbd _ _ hsS hb;have hx1:=H5 hX' hsS;have hmX:=AU hX' hsS;have hra:=Ge hX' hsS M0;have hla:itP p (j+1) v < (XU.getD (mS S x g (itP p (j+1) v) (itP p j v)) (0,[])).2.length:=by rw [AV hX' hsS];exact ha
      have hX1:=D8 (c:=itP p (j+1) v) hX' hsS (xOf XU (mS S x g (itP p (j+1) v) (itP p j v)) (itP p (j+1) v)-mo);have hpr1:=AR (n:=n) (XT:=XU) (s:=mS S x g (itP p (j+1) v) (itP p j v)) (c:=itP p (j+1) v) (xOf XU (mS S x g (itP p (j+1) v) (itP p j v)) (itP p (j+1) v)-mo);have hat1:=Mk (c:=itP p (j+1) v) hX' hsS (xOf XU (mS S x g (itP p (j+1) v) (itP p j v)) (itP p (j+1) v)-mo);have hpx1:=fun t d=>Gd hX' hsS ha (xOf XU (mS S x g (itP p (j+1) v) (itP p j v)) (itP p (j+1) v)-mo) t d
      have hpf1:=rY (c:=itP p (j+1) v) hX' hsS (xOf XU (mS S x g (itP p (j+1) v) (itP p j v)) (itP p (j+1) v)-mo);generalize wU XU (mS S x g (itP p (j+1) v) (itP p j v)) (itP p (j+1) v) (xOf XU (mS S x g (itP p (j+1) v) (itP p j v)) (itP p (j+1) v)-mo)=XV at *;have hxb:=vJ hX1 hsS hb;have hxbe:xOf XV (mS S x g (itP p (j+1) v) (itP p j v)) (itP p j v)=xOf XU (mS S x g (itP p (j+1) v) (itP p j v)) (itP p j v):=by rw [hpx1,if_pos rfl,if_neg fun e=>hab e.symm]
      rw [hxbe] at hxb;have hmX1:=AU hX1 hsS;have hra1:=Ge hX1 hsS M0;have hlb:itP p j v < (XV.getD (mS S x g (itP p (j+1) v) (itP p j v)) (0,[])).2.length:=by rw [AV hX1 hsS];exact hb
      have hpr2:=AR (n:=n) (XT:=XV) (s:=mS S x g (itP p (j+1) v) (itP p j v)) (c:=itP p j v) (xOf XU (mS S x g (itP p (j+1) v) (itP p j v)) (itP p j v)+mo);have ihj:=ihj (j+1,wU XV (mS S x g (itP p (j+1) v) (itP p j v)) (itP p j v) (xOf XU (mS S x g (itP p (j+1) v) (itP p j v)) (itP p j v)+mo)) ⟨hj,D8 hX1 hsS _,by dsimp only;rw [rY hX1 hsS,hpf1];exact hfl',fun t d ht hd=>by
       dsimp only;rw [Gd hX1 hsS hb,hpx1,C0,lS,<- hxu t d ht hd];by_cases e1:t=mS S x g (itP p (j+1) v) (itP p j v)
       ·subst e1
        rw [if_pos rfl,if_pos rfl,if_pos rfl];by_cases e2:d=itP p j v
        ·subst e2
         rw [if_pos rfl,if_pos rfl,if_neg fun e=>hab e.symm];omega
        ·rw [if_neg e2,if_neg e2]
         by_cases e3:d=itP p (j+1) v
         ·subst e3
          rw [if_pos rfl,if_pos rfl];omega
         ·rw [if_neg e3,if_neg e3];omega
       ·rw [if_neg e1,if_neg e1,if_neg e1]⟩ (by dsimp only;omega)
      dsimp only at ihj;rw [rY hX1 hsS,hpf1,<- hpr2] at ihj;clear hme hq2 hq hmv hx0 hpr2 hpf1 hpx1 hX1 hxu hxbe hbd hX';rw [hat1] at hxb hmX1 hra1 hlb ihj;clear hat1;generalize MT[itP p (j+1) v]=me at *;generalize XU.getD (mS S x g (itP p (j+1) v) (itP p j v)) (0,[])=xe at *;generalize xOf XU (mS S x g (itP p (j+1) v) (itP p j v)) (itP p (j+1) v)=xv at *;generalize xOf XU (mS S x g (itP p (j+1) v) (itP p j v)) (itP p j v)=xw at *;generalize mS S x g (itP p (j+1) v) (itP p j v)=s at *;generalize itP p (j+1) v=a at *;generalize itP p j v=b at *;generalize hbg:tP j=bg at *;obtain ⟨bme,Lme⟩:=me;obtain ⟨bxe,Lxe⟩:=xe;dsimp only at hla hlb;have hset1:=rX hla (xv-mo);have hset2:=rX hlb (xw+mo);dsimp only [pE,fO] at hmM hq1 hstg hx1 hxa hmX hra hra1 hmX1 hxb hpr1 ihj;cases bg with
      | false =>
       repeat' first|(refine gp ?_;and_intros<;>first|exact trivial|repeat first|intro(Bk:Nat)|intro h)|(apply G.ld;rfl;(apply LdV.one;apply aC.blk;exact mm;exact hfb2);rfl)|(apply G.ld;rfl;(apply LdV.one;apply aC.blk;exact mm;exact hq1);rfl)|(apply G.ld;rfl;(apply LdV.one;apply aC.blk;(repeat (first|exact hmM _|apply List.Mem.tail));exact hstg);rfl)|(apply G.ld;rfl;(apply LdV.one;apply aC.blk;exact mm;exact hx1);rfl)|(apply G.ld;rfl;(apply LdV.one;apply aC.blk;((repeat (first|exact List.mem_append_right _ (List.mem_append_right _ (hmX _))|apply List.Mem.tail)));exact hxa);rfl)|(apply G.ld;rfl;(apply LdV.one;apply aC.blk;((repeat (first|exact List.mem_append_right _ (List.mem_append_right _ (hmX1 _))|apply List.Mem.tail)));exact hxb);rfl)|(apply J.Py (.q 0 <| .q 1 <| .q 2 <| .q 3 <| .q 4 <| .q 5 <| .q 6 <| .q 7 <| .q 8 <| .q 9 <| .q 10 <| .q 11 <| .q 12 <| .q 13 <| .q 14 <| .q 15 <| .r 16 <| .nil);exact Tryz.Pr;decide +kernel)|(apply G.Rh;rfl;rfl;rfl;exact RAt.tail (RAt.tail (RAt.tail (RAt.tail (RAt.tail (RAt.tail (RAt.app (RAt.app hra _) _))))));exact ⟨rfl,rfl⟩;(rw [aO dE];omega);exact hset1;(show _::_::_::_::_::_::(rws (pE n) MT++(rws eM CT++((rws (fO n) XU).set s (.blk bxe 3 (flat isV (Lxe.set a (xv-mo))) (n*1))++M0)))=_;rw [hpr1]))|(apply G.s1;rfl;rfl;rfl;exact RAt.tail (RAt.tail (RAt.tail (RAt.tail (RAt.tail (RAt.tail (RAt.app (RAt.app hra1 _) _))))));exact ⟨rfl,rfl⟩;(rw [aO dE];omega);exact hset2)
       exact J.fin ihj
      | true =>
       have hne:=hbv rfl;repeat' first|(refine gp ?_;and_intros<;>first|exact trivial|repeat first|intro(Bk:Nat)|intro h)|(apply G.ld;rfl;(apply LdV.one;apply aC.blk;exact mm;exact hfb2);rfl)|(apply G.ld;rfl;(apply LdV.one;apply aC.blk;exact mm;exact hq1);rfl)|(apply G.ld;rfl;(apply LdV.one;apply aC.blk;(repeat (first|exact hmM _|apply List.Mem.tail));exact hstg);rfl)|(apply G.ld;rfl;(apply LdV.one;apply aC.blk;exact mm;exact hx1);rfl)|(apply G.ld;rfl;(apply LdV.one;apply aC.blk;((repeat (first|exact List.mem_append_right _ (List.mem_append_right _ (hmX _))|apply List.Mem.tail)));exact hxa);rfl)|(apply G.ld;rfl;(apply LdV.one;apply aC.blk;((repeat (first|exact List.mem_append_right _ (List.mem_append_right _ (hmX1 _))|apply List.Mem.tail)));exact hxb);rfl)|(apply J.Py (.q 0 <| .q 1 <| .q 2 <| .q 3 <| .q 4 <| .q 5 <| .q 6 <| .q 7 <| .q 8 <| .q 9 <| .q 10 <| .q 11 <| .q 12 <| .q 13 <| .q 14 <| .q 15 <| .r 16 <| .nil);exact Tryz.Pr;decide +kernel)|(apply G.Rh;rfl;rfl;rfl;exact RAt.tail (RAt.tail (RAt.tail (RAt.tail (RAt.tail (RAt.tail (RAt.app (RAt.app hra _) _))))));exact ⟨rfl,rfl⟩;(rw [aO dE];omega);exact hset1;(show _::_::_::_::_::_::(rws (pE n) MT++(rws eM CT++((rws (fO n) XU).set s (.blk bxe 3 (flat isV (Lxe.set a (xv-mo))) (n*1))++M0)))=_;rw [hpr1]))|(apply G.s1;rfl;rfl;rfl;exact RAt.tail (RAt.tail (RAt.tail (RAt.tail (RAt.tail (RAt.tail (RAt.app (RAt.app hra1 _) _))))));exact ⟨rfl,rfl⟩;(rw [aO dE];omega);exact hset2)
       exact J.fin ihj
     ·obtain rfl:k=j:=by omega
      clear ihj;rw [hkv,hk1];obtain ⟨hF2,hlt⟩:=FU hF (w:=mE S n x g) (sg:=mS S x g) (fun a b r h=>⟨(oQ h).2.2.2.1,(oQ h).2.2.2.2.2⟩) hcyc hall2 (fun i=>by obtain ⟨q,hq,_⟩:=hedge i;rw [hq];rfl) hm0 hmle hneg
      have hF3:=hF2.congr (y:=xOf XU) hxu;have ih:=ih (XU,cs,dl,fl) ⟨hX',hfl'.trans hfs,hF3,hcs,hdl,hfl,hfb⟩ (by dsimp only;exact NA hDp hiq (hK _ hF3) (by rw [Gf hxu];exact hlt))
      all_goals (refine go ?_;and_intros<;>first|exact trivial|repeat first|intro(Bk:Nat)|intro h)
      exact J.sel (J.sub (by (repeat' (first|exact trivial|refine ⟨rfl,?_⟩))) ih) (by (repeat' (first|exact Sel.refl|(refine Sel.cons (by (repeat (first|exact eS.head|apply eS.tail))) ?_)|apply Sel.drop|refine Sel.PV ?_ _)))
theorem EP {s:Spn}{t:Int} (hR:aQ s) (h:0<=t/\t<=1000):Et s t=(rQ (bC s t),0):=by
 unfold Et;rw [if_neg (fun h=>h hR),if_neg om]
theorem AY {l:List Spn}{p st:Int} (h:p < 0):aS l p st=0:=by rw [aS,if_pos h]
theorem D9 {l:List Spn}{i:Nat}{st:Int} (hi:i < l.length):aS l (i:Int) st=bC l[i] st:=by
 rw [aS,if_neg om,Int.toNat_natCast,gE hi]
theorem nS {k:Nat}{t:Bool}{x:Rat} (h:aH k (rQ x)):aH k (rQ (sgR t x)):=by
 unfold sgR;split
 ·exact uO h
 ·exact h
theorem dH {l:List Spn}{p st:Int} (hf:∀ s∈l,fewS s) (hR:∀ s∈l,aQ s) (hs:0<=st/\st<=1000):aH 140 (rQ (aS l p st)):=by
 unfold aS;split
 ·exact dX
 ·split
  ·exact dX
  ·rename_i s he
   have hm:=List.mem_of_getElem? he;exact nD (hf _ hm) (hR _ hm) hs.1 hs.2
theorem AZ (p st:Int) (t:Bool) (B1 B2:Nat) (b:Option Addr) (l:List Spn) (d:Nat) (w:World) (h1:bG w B1 0 [.slice b l.length d]) (h2:bG w B2 0 [.bool t]) (hB:aN w b l) (hf:∀ s∈l,fewS s) (hR:∀ s∈l,aQ s) (hp:p < l.length) (hs:0<=st/\st<=1000) :
  CR 144 #[.int .i64 p,.int .i64 st,.pointer (some ⟨B1,0,none⟩),.pointer (some ⟨B2,0,none⟩)] w (qA (rQ (sgR t (aS l p st)))):=by
 by_cases h0:p < 0
 ·rw [AY h0,lU]
  clear hB hf hR h1 h2;refine aB [(0,.int .i64 p),(1,.int .i64 st),(2,.pointer (some ⟨B1,0,none⟩)),(3,.pointer (some ⟨B2,0,none⟩))] Tryz.func144 Tryz.ntmps144 ?_;all_goals (refine go ?_;and_intros<;>first|exact trivial|repeat first|intro(Bk:Nat)|intro h)
  all_goals exact aA Tryz.func144 Tryz.results144 rfl
 ·obtain ⟨i,rfl⟩:∃ i:Nat,p=i:=⟨p.toNat,by omega⟩
  have hi:i < l.length:=by omega
  have hv:=fun w' (hb:Below w.heap.size w w')=>xU l[i] st w' ((hB.2 _ (gM hi)).below hb) (hf _ (gM hi))
  have hR':=hR _ (gM hi);have hbg:big (bC l[i] st):=aH.big (nD (hf _ (gM hi)) hR' hs.1 hs.2) dc;rw [EP hR' hs] at hv;rw [D9 hi];obtain ⟨bb,ob,rfl,hrow⟩:=aE.all hB.1 om;have hri:=hrow i hi;have hng:=Ma hbg;clear hrow hB hf hR hbg hR';generalize bC l[i] st=x at *;generalize l[i]=s at *;dsimp only [spV] at hri;unfold spA at hv;cases t with
  | false =>
   rw [show sgR false x=x from rfl]
   clear hng;generalize rQ x=q at *;obtain ⟨n1,u1,d1⟩:=q;dsimp only [qA] at *;refine aB [(0,.int .i64 i),(1,.int .i64 st),(2,.pointer (some ⟨B1,0,none⟩)),(3,.pointer (some ⟨B2,0,none⟩))] Tryz.func144 Tryz.ntmps144 ?_;repeat' first|(refine gp ?_;and_intros<;>first|exact trivial|repeat first|intro(Bk:Nat)|intro h)|(apply G.cV (g:=84);rfl;rfl;exact fun w' hw=>hv w' hw.below)
   all_goals exact aA Tryz.func144 Tryz.results144 rfl
  | true =>
   rw [show sgR true x=-x from rfl]
   generalize rQ (-x)=q2 at *;generalize rQ x=q at *;obtain ⟨n1,u1,d1⟩:=q;obtain ⟨n2,u2,d2⟩:=q2;dsimp only [qA] at *;refine aB [(0,.int .i64 i),(1,.int .i64 st),(2,.pointer (some ⟨B1,0,none⟩)),(3,.pointer (some ⟨B2,0,none⟩))] Tryz.func144 Tryz.ntmps144 ?_;repeat' first|(refine gp ?_;and_intros<;>first|exact trivial|repeat first|intro(Bk:Nat)|intro h)|(apply G.cV (g:=84);rfl;rfl;exact fun w' hw=>hv w' hw.below)|(apply G.cV (g:=145);rfl;rfl;exact fun w' _=>hng w')
   all_goals exact aA Tryz.func144 Tryz.results144 rfl
theorem I2 (k:Nat) (x:Int) (B1 B3 bb ob d:Nat) (l:List Spn) (w:World) (hk:k < l.length) (h1:bG w B1 0 [.slice (some ⟨bb,ob,none⟩) l.length d]) (h2:bG w B3 0 [.int .i64 x]) (h3:bG w bb (ob+k*7) (spV l[k])) :
  CR 148 #[.int .i64 k,.pointer (some ⟨B1,0,none⟩),.pointer (some ⟨B3,0,none⟩)] w (.bool (decide (x < l[k].to_))):=by
 generalize l[k]=s at *;dsimp only [spV] at *;refine aB [(0,.int .i64 k),(1,.pointer (some ⟨B1,0,none⟩)),(2,.pointer (some ⟨B3,0,none⟩))] Tryz.func148 Tryz.ntmps148 ?_;all_goals (refine go ?_;and_intros<;>first|exact trivial|repeat first|intro(Bk:Nat)|intro h)
 all_goals refine aA Tryz.func148 Tryz.results148 ?_
 all_goals exact bL (by first|(rw [dT om])|(rw [dF om]))
end Go.Proofs.YtjcecdmbfmccoaaGreatDoor
